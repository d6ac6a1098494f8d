import Derived.Test.YtafbccendejkeaaGreatDoorPv23
set_option maxHeartbeats 16000000
set_option maxRecDepth 100000
set_option linter.all false
namespace Go.Proofs.YtafbccendejkeaaGreatDoor
open Go Go.Abs Proofs.Tryz
structure FoB where
 E:Nat
 D:Nat
 G:Nat
 V:Nat
 C:Nat
 K:Nat
 DL:Nat
 KL:Nat
def qs2(b:Bool):AV:=.bool b
def qoF(n:Int):AV:=.int .i64 n
structure FoOk(B:FoB)(nv cf:AV)(e0 e1:Int)(f:Nat)(val:Nat->Int)(H:List Blk):Prop where
 e:H[B.E]?=some (.cells [.int .i64 e0,.int .i64 e1])
 d:H[B.D]?=some (.cells [.ms B.DL 0 (f+1) 1])
 g:H[B.G]?=some (.cells [nv])
 v:H[B.V]?=some (.cells [.fn 147 [] [.ptr B.E 0,.ptr B.D 0,.ptr B.G 0,.ptr B.V 0,.ptr B.C 0,.ptr B.K 0]])
 c:H[B.C]?=some (.cells [cf])
 k:H[B.K]?=some (.cells [.ms B.KL 0 (f+1) 1])
 ne:B.DL≠B.KL
 o:∀b∈[B.E,B.D,B.G,B.V,B.C,B.K],b≠B.DL/\b≠B.KL
 r:∃(dn:List Bool) (kn:List Int),H[B.DL]?=some (.cells (dn.map qs2))/\H[B.KL]?=some (.cells (kn.map qoF))/\dn.length=f+1/\kn.length=f+1/\∀j,dn[j]?=some true->kn[j]?=some (val j)
def FoOk.keep{B nv cf e0 e1 f val H H'}(h:FoOk B nv cf e0 e1 f val H)(hk:KpL [] H H'):FoOk B nv cf e0 e1 f val H':=by
 obtain⟨dn,kn,h1,h2,h3⟩:=h.r;exact⟨hk.2 _ _ h.e (by simp),hk.2 _ _ h.d (by simp),hk.2 _ _ h.g (by simp),hk.2 _ _ h.v (by simp),hk.2 _ _ h.c (by simp),hk.2 _ _ h.k (by simp),h.ne,h.o,dn,kn,hk.2 _ _ h1 (by simp),hk.2 _ _ h2 (by simp),h3⟩
def FoQ(B:FoB)(nv cf:AV)(e0 e1:Int)(f:Nat)(val:Nat->Int)(k:Nat)(H:List Blk)(r:AV)(U':St):Prop:=r=.int .i64 (val k)/\KpL [B.DL,B.KL] H U'.H/\FoOk B nv cf e0 e1 f val U'.H
def qnD:List (Nat×Sch×List Nat):=[(5,.step 0 [9,8,7,3] (.step 1 [9,8,7,3,2] (.step 2 [9,8,7,3] (.step 5 [9,8,7,6] (.fork (.cons 3 (.step 4 [9,8,7] (.step 6 [9,8,7] (.step 7 [9,8] (.step 8 [9] (.step 9 [] (.done)))))) (.cons 4 (.fork (.cons 3 (.step 6 [9,8,7] (.step 7 [9,8] (.step 8 [9] (.step 9 [] (.done))))) (.cons 6 (.step 3 [9,8,7] (.step 7 [9,8] (.step 8 [9] (.step 9 [] (.done))))) (.nil)))) (.cons 6 (.fork (.cons 3 (.step 4 [9,8,7] (.step 7 [9,8] (.step 8 [9] (.step 9 [] (.done))))) (.cons 4 (.step 3 [9,8,7] (.step 7 [9,8] (.step 8 [9] (.step 9 [] (.done))))) (.nil)))) (.nil)))))))),[3,7]),(6,.step 1 [12,11,10,9] (.step 3 [12,11] (.step 4 [12,11,10,9,8] (.step 5 [12,11,10,9,8] (.step 6 [12,11,10,9,8] (.step 7 [12,11,10,9,8] (.fork (.cons 0 (.fork (.cons 2 (.step 8 [12,11,10,9] (.step 9 [12,11,10] (.step 10 [12,11] (.step 11 [12] (.step 12 [] (.done)))))) (.cons 8 (.step 9 [12,11,10] (.fork (.cons 2 (.step 10 [12,11] (.step 11 [12] (.step 12 [] (.done)))) (.cons 10 (.step 2 [12,11] (.step 11 [12] (.step 12 [] (.done)))) (.nil))))) (.nil)))) (.cons 2 (.fork (.cons 0 (.step 8 [12,11,10,9] (.step 9 [12,11,10] (.step 10 [12,11] (.step 11 [12] (.step 12 [] (.done)))))) (.cons 8 (.step 0 [12,11,10,9] (.step 9 [12,11,10] (.step 10 [12,11] (.step 11 [12] (.step 12 [] (.done)))))) (.nil)))) (.cons 8 (.step 0 [12,11,10,9] (.step 9 [12,11,10] (.fork (.cons 2 (.step 10 [12,11] (.step 11 [12] (.step 12 [] (.done)))) (.cons 10 (.step 2 [12,11] (.step 11 [12] (.step 12 [] (.done)))) (.nil)))))) (.nil)))))))))),[8])]
def qs5{dn:List Bool}{k b}(h:dn[k]?=some b):(dn.map qs2).drop k=.bool b::(dn.map qs2).drop (k+1):=by
 have h':(dn.map qs2)[k]?=some (.bool b):=by rw[qBD,h];rfl
 obtain⟨h1,h2⟩:=qBa.1 h';rw[qBx h1,h2]
def qsq{kn:List Int}{k b}(h:kn[k]?=some b):(kn.map qoF).drop k=.int .i64 b::(kn.map qoF).drop (k+1):=by
 have h':(kn.map qoF)[k]?=some (.int .i64 b):=by rw[qBD,h];rfl
 obtain⟨h1,h2⟩:=qBa.1 h';rw[qBx h1,h2]
def qsL{B nv cf e0 e1 f val H0 H k r}{dn:List Bool}{kn:List Int}(h:FoOk B nv cf e0 e1 f val H)(hk:k<=f)(h1:H[B.DL]?=some (.cells (dn.map qs2)))(h2:H[B.KL]?=some (.cells (kn.map qoF)))(l1:dn.length=f+1)(l2:kn.length=f+1)
 (hv:∀j,dn[j]?=some true->kn[j]?=some (val j)) (hr:r=val k) (hkp:KpL [B.DL,B.KL] H0 H) (T):FoQ B nv cf e0 e1 f val k H0 (.int .i64 r) ⟨(H.set B.KL (.cells ((kn.map qoF).set k (.int .i64 r)))).set B.DL (.cells ((dn.map qs2).set k (.bool true))),T⟩:=by
 have lD:=(qBa.1 h1).1;have lK:=(qBa.1 h2).1;have hs:∀b∈[B.E,B.D,B.G,B.V,B.C,B.K],∀y z,((H.set B.KL y).set B.DL z)[b]?=H[b]?:=fun b hb y z=>by
  obtain⟨o1,o2⟩:=h.o b hb;rw[qBd (Ne.symm o1),qBd (Ne.symm o2)]
 refine⟨by rw[hr],hkp.trans (qF6 (qF8 (by simp)) (qF8 (by simp))),?_⟩;refine⟨by rw[hs _ (by simp)];exact h.e,by rw[hs _ (by simp)];exact h.d,by rw[hs _ (by simp)];exact h.g,by rw[hs _ (by simp)];exact h.v,by rw[hs _ (by simp)];exact h.c,by rw[hs _ (by simp)];exact h.k,h.ne,h.o,dn.set k true,kn.set k r,?_,?_,by simp[l1],by simp[l2],?_⟩
 . dsimp only;rw[qBg (by rwa[qCD]),qD7];rfl
 . dsimp only;rw[qBd h.ne,qBg lK,qD7];rfl
 intro j hj;by_cases hjk:k=j
 . subst hjk;rw[qBg (by omega),hr]
 rw[qBd hjk]at hj⊢;exact hv j hj
def qsK{B:FoB}(Rc:Nat->Prop){d:List Nd}{tok:Abs.Tok}(hd:DagOk d){c:Nat}{cfr:List AV}{e0 e1:Int}{f:Nat}{val:Nat->Int}(hf:f<d.length)(P:List Blk->Prop)(hP:∀H H',P H->KpL [B.DL,B.KL] H H'->P H')
 (comb:Nd->Int->Int->Int) (hv0:val 0=e0) (hv1:val 1=e1) (hv2:∀k n,Rc k->2<=k->d[k]?=some n->Rc n.2.1/\Rc n.2.2/\val k=comb n (val n.2.1) (val n.2.2))
 (hc:∀k n (H:List Blk) (T:List (Option Nat)),Rc k->2<=k->d[k]?=some n->P H->qj prog GG c ([.agg (qI n),.int .i64 (val n.2.1),.int .i64 (val n.2.2)]++cfr) ⟨H,T⟩ (fun r U'=>r=.int .i64 (comb n (val n.2.1) (val n.2.2))/\KpL [] H U'.H)):
 ∀ (m k:Nat),k<m->k<=f->Rc k->∀(H:List Blk) (T:List (Option Nat)),P H->FoOk B (.sl 3 (d.map qI) tok) (.fn c [] cfr) e0 e1 f val H ->
  qj prog GG 147 [.int .i64 k,.ptr B.E 0,.ptr B.D 0,.ptr B.G 0,.ptr B.V 0,.ptr B.C 0,.ptr B.K 0] ⟨H,T⟩ (FoQ B (.sl 3 (d.map qI) tok) (.fn c [] cfr) e0 e1 f val k H):=by
 intro m
 induction m with
 |zero=>intro k hk;omega
 | succ m ih=>
  intro k hkm hkf hRk H T hPH hok;refine qFy ⟨false,qnD,[],[]⟩ qX func147 rfl (by kernel_rfl) ?_;obtain⟨dn,kn,hdn,hkn,ldn,lkn,hval⟩:=hok.r;obtain⟨bE,bD,bG,bV,bC,bK,hne,ho,-⟩:=id hok;by_cases h2:k<2
  . have fin:∀u,FoQ B (.sl 3 (d.map qI) tok) (.fn c [] cfr) e0 e1 f val k H (.int .i64 (val k)) ⟨H++u,T⟩:=fun u=>⟨rfl,qF7,hok.keep qF7⟩
    have hk01:k=0\/k=1:=(by omega);rcases hk01 with rfl|rfl
    . rw[hv0]at fin;simp[bE];have:=fin [];simpa using this
    rw[hv1]at fin;simp[bE];have:=fin [];simpa using this
  have h2':¬(k:Int)<2:=by omega
  have h2b:2<=k:=by omega
  obtain⟨n,hn⟩:∃n,d[k]?=some n:=⟨_,qBc (by omega)⟩;obtain⟨b,hb⟩:∃b,dn[k]?=some b:=⟨_,qBc (by omega)⟩;have hdr:=qs5 hb;have hkl':(k:Int)<f+1:=by omega
  cases b with
  | true=>
   have hkv:=hval k hb;have hdk:=qsq hkv;simp[h2',hkf,bD,bK,hdn,hkn,hdr,hdk,hkl',ldn,lkn];exact⟨rfl,qF5,hok⟩
  | false=>
   obtain⟨hn20,hlo,hhi,-⟩:=hd.node k n h2b hn;obtain⟨nl,lo,hi⟩:=n;dsimp only at hlo hhi;simp[h2',hkf,bD,bG,hdn,hdr,hkl',ldn,hn];rw[qP rfl];have bV0:=qd bV;simp[zc,bV0];have hP0:P (H++[.cells [.int .i64 nl,.int .i64 lo,.int .i64 hi]]):=hP _ _ hPH qF7;have hv2k:=hv2 k _ hRk h2b hn;dsimp only at hv2k;have c1:=ih lo (by omega) (by omega) hv2k.1 (H++[.cells [.int .i64 nl,.int .i64 lo,.int .i64 hi]]) T hP0 (hok.keep qF7);have hlD:=(qBa.1 hdn).1;have hlK:=(qBa.1 hkn).1;have hbX:H.length≠B.DL/\H.length≠B.KL:=⟨by omega,by omega⟩
   repeat' with_reducible refine And.intro ?_ ?_
   all_goals
    refine qFC c1 ?_;rintro r ⟨H1,T1⟩ ⟨rfl,hk1,ok1⟩;have bX1:=hk1.2 _ _ lk0 (by simpa using hbX);have bV1:=ok1.v;have P1:=hP _ _ hP0 hk1;have c2:=ih hi (by omega) (by omega) hv2k.2.1 H1 T1 P1 ok1;simp[zc,bV1,bX1];refine qFC c2 ?_;rintro r ⟨H2,T2⟩ ⟨rfl,hk2,ok2⟩;have bX2:=hk2.2 _ _ bX1 (by simpa using hbX);have P2:=hP _ _ P1 hk2;obtain⟨dn2,kn2,hdn2,hkn2,ldn2,lkn2,hval2⟩:=ok2.r;obtain⟨bE2,bD2,bG2,bV2,bC2,bK2,-,-,-⟩:=id ok2;simp[zc];rw[qP rfl];simp[zc,bX2,bC2,bK2,bD2]
    repeat' with_reducible refine And.intro ?_ ?_
    all_goals
     have c3:=hc k (nl,lo,hi) H2 T2 hRk h2b hn P2;simp only[qI,qBB,qBy]at c3;refine qFC c3 ?_;rintro r ⟨H3,T3⟩ ⟨rfl,hk3⟩;have ok3:=ok2.keep hk3;have hdn3:=hk3.2 _ _ hdn2 (by simp);have hkn3:=hk3.2 _ _ hkn2 (by simp);have bK3:=ok3.k;have bD3:=ok3.d;have lK3:=(qBa.1 hkn3).1;have oK:=ho B.K (by simp);have oD:=ho B.D (by simp);have fin:=qsL (r:=comb (nl,lo,hi) (val lo) (val hi)) ok3 hkf hdn3 hkn3 ldn2 lkn2 hval2 (hv2k.2.2).symm (qF6 (qF7.trans (hk1.trans hk2)) (hk3.sub (by simp))) T3;have q1:∀y,(H3.set B.KL y)[B.D]?=some (.cells [.ms B.DL 0 (f+1) 1]):=fun y=>by rw[qBd (Ne.symm oD.2)];exact bD3
     have q2:∀y,(H3.set B.KL y)[B.K]?=some (.cells [.ms B.KL 0 (f+1) 1]):=fun y=>by rw[qBd (Ne.symm oK.2)];exact bK3
     have q3:∀y,(H3.set B.KL y)[B.DL]?=some (.cells (dn2.map qs2)):=fun y=>by rw[qBd (Ne.symm hne)];exact hdn3
     have q4:∀y z,((H3.set B.KL y).set B.DL z)[B.K]?=some (.cells [.ms B.KL 0 (f+1) 1]):=fun y z=>by rw[qBd (Ne.symm oK.1)];exact q2 y
     have q5:∀y z,((H3.set B.KL y).set B.DL z)[B.KL]?=some y:=fun y z=>by rw[qBd hne];exact qBg lK3
     have q6:∀x,((kn2.map qoF).set k x).drop k=x::(kn2.map qoF).drop (k+1):=fun x=>by
      have hl:k<((kn2.map qoF).set k x).length:=(by simp;omega);rw[qBx hl,List.getElem_set_self,List.drop_set_of_lt (by omega)]
     simp[zc,q6,bK3,bD3,hkn3,q1,q3,q4,q5,hkf,ldn2,lkn2,hkl'];exact fin
def qk2(Rc:Nat->Prop){d:List Nd}(hd:DagOk d){c:Nat}{cfr:List AV}{e0 e1:Int}{f:Nat}{val:Nat->Int}(hf:f<d.length)(hRf:Rc f)
 (comb:Nd->Int->Int->Int) (hv0:val 0=e0) (hv1:val 1=e1) (hv2:∀k n,Rc k->2<=k->d[k]?=some n->Rc n.2.1/\Rc n.2.2/\val k=comb n (val n.2.1) (val n.2.2)) (H:List Blk) (T:List (Option Nat))
 (hc:∀k n (H':List Blk) (T':List (Option Nat)),Rc k->2<=k->d[k]?=some n->KpL [] H H'->qj prog GG c ([.agg (qI n),.int .i64 (val n.2.1),.int .i64 (val n.2.2)]++cfr) ⟨H',T'⟩ (fun r U'=>r=.int .i64 (comb n (val n.2.1) (val n.2.2))/\KpL [] H' U'.H)):
 qj prog GG 93 [.agg [.sl 3 (d.map qI) .none],.int .i64 f,.agg [.int .i64 e0,.int .i64 e1],.fn c [] cfr] ⟨H,T⟩ (fun r U'=>r=.int .i64 (val f)/\KpL [] H U'.H):=by
 refine okzA func93 rfl rfl ?_;have hdm:=hd.most;have hw:=wr (n:=(f:Int)+1) (by omega) (by omega);have h1:(f:Int)+1<=549755813888:=by omega
 have h2:(0:Int)<=(f:Int)+1:=by omega
 simp[hw,qD,show ¬(f:Int)+1=0 by omega,h1,h2];have lk:∀(a b c d e f g h:Blk),(H++[a,b,c,d,e,f,g,h])[H.length]?=some a/\(H++[a,b,c,d,e,f,g,h])[H.length+1]?=some b/\(H++[a,b,c,d,e,f,g,h])[H.length+2]?=some c/\(H++[a,b,c,d,e,f,g,h])[H.length+3]?=some d/\(H++[a,b,c,d,e,f,g,h])[H.length+4]?=some e/\(H++[a,b,c,d,e,f,g,h])[H.length+5]?=some f/\(H++[a,b,c,d,e,f,g,h])[H.length+6]?=some g/\(H++[a,b,c,d,e,f,g,h])[H.length+7]?=some h:=by
  intros
  refine⟨?_,?_,?_,?_,?_,?_,?_,?_⟩<;>simp[]
 have hfo:=qsK (B:=⟨H.length+1,H.length+6,H.length,H.length+7,H.length+2,H.length+4,H.length+5,H.length+3⟩) Rc (tok:=.none) hd (c:=c) (cfr:=cfr) (e0:=e0) (e1:=e1) (f:=f) (val:=val) hf (fun H'=>KpL [] H H')
  (fun H1 H2 h1 h2=>⟨qB6 h1.1 h2.1,fun k x hk _=>h2.2 k x (h1.2 k x hk (by simp)) (by have:=(qBa.1 hk).1;simp;omega)⟩) comb hv0 hv1 hv2 hc (f+1) f (by omega) (qBl _) hRf
 refine qFC (hfo _ _ qF7 ?_) ?_
 . obtain⟨a0,a1,a2,a3,a4,a5,a6,a7⟩:=lk (.cells [.sl 3 (d.map qI) .none]) (.cells [.int .i64 e0,.int .i64 e1]) (.cells [.fn c [] cfr]) (.cells (List.replicate (f+1) (.int .i64 0))) (.cells [.ms (H.length+3) 0 (f+1) 1]) (.cells (List.replicate (f+1) (.bool false))) (.cells [.ms (H.length+5) 0 (f+1) 1]) (.cells [.fn 147 [] [.ptr (H.length+1) 0,.ptr (H.length+6) 0,.ptr H.length 0,.ptr (H.length+7) 0,.ptr (H.length+2) 0,.ptr (H.length+4) 0]]);refine⟨a1,a6,a0,a7,a2,a4,by dsimp only;omega,by simp,List.replicate (f+1) false,List.replicate (f+1) 0,by dsimp only;rw[a5,qD5];rfl,by dsimp only;rw[a3,qD5];rfl,by simp,by simp,fun j hj=>?_⟩;rw[qEf]at hj;split at hj<;>cases hj
 rintro r ⟨H1,T1⟩ ⟨rfl,hk1,-⟩;simp;exact⟨qB6 (by simp) hk1.1,fun k x hk _=>hk1.2 k x (qd hk _) (by have:=(qBa.1 hk).1;simp;omega)⟩
def qaZ{d:List Nd}{k n:Nat}(hk:k<d.length):Pure prog GG 96 [.agg [.sl 3 (d.map qI) .none,.int .i64 n],.int .i64 k] (.int .i64 (vn d n k:Nat)):=by
 refine okzP func96 rfl rfl ?_;obtain⟨x,hx⟩:∃x,d[k]?=some x:=⟨_,qBc hk⟩;have hl:w6 (.int .i64 (x.1:Int)) (.int .i64 (n:Int))=some (.int .i64 (vn d n k:Nat)):=by
  have:vn d n k=min x.1 n:=by unfold vn;rw[zQ hx]
  rw[this];simp only[w6];congr 2;split<;>omega
 simp[hx,hl]
def qyX(a s:Nat)(hs:s<=20)(ha:a*2^s<2^62):IntKind.i64.wrap ((a:Int)*2^(min s 64))=((a*2^s:Nat):Int):=by
 rw[show min s 64=s by omega,show((a:Int)*2^s)=((a*2^s:Nat):Int) by simp];generalize a*2^s=N at ha;rw[wr (by omega) (by omega)]
def qtd(d:List Nd)(n:Nat)(x:Nd)(a b:Int):Int:=a*2^(vn d n x.2.1-(x.1+1))+b*2^(vn d n x.2.2-(x.1+1))
def qo9{d}(hd:DagOk d){n k:Nat}{x}(hn:n<=20)(h2:2<=k)(hx:d[k]?=some x)(hdp:yO d k<n){C H}(hC:H[C]?=some (.cells [.sl 3 (d.map qI) .none,.int .i64 n]))(T):
 qj prog GG 148 [.agg (qI x),.int .i64 (Y2 d n x.2.1:Nat),.int .i64 (Y2 d n x.2.2:Nat),.ptr C 0] ⟨H,T⟩ (fun r U'=>r=.int .i64 (Y2 d n k:Nat)/\KpL [] H U'.H):=by
 refine okzA func148 rfl rfl ?_;obtain⟨c1,c2,c3,c4,c5,c6⟩:=qdq hd hn h2 hx hdp;obtain⟨g1,g2,g3,g4,g5,g6⟩:=hd.node k x h2 hx;have hk:=(qBa.1 hx).1;have b1:=qlv d n x.2.1;have b2:=qlv d n x.2.2;have l1:=qaZ (d:=d) (k:=x.2.1) (n:=n) (by omega);have l2:=qaZ (d:=d) (k:=x.2.2) (n:=n) (by omega);have m1:vn d n x.2.1<=n:=qDp _ _;have m2:vn d n x.2.2<=n:=qDp _ _;obtain⟨L,lo,hi⟩:=x;dsimp only at *;generalize Y2 d n lo=A at *;generalize Y2 d n hi=B at *;generalize vn d n lo=P at *;generalize vn d n hi=Q at *;have p20:∀{a m s:Nat},a<=2^m->m+s<=20->a*2^s<=2^20:=fun {a m s} h1 h2=>by
  have:=qCh (2^s) h1;rw[<- Nat.pow_add]at this;exact qB6 this (qBL (by omega) h2)
 have e1:=p20 (s:=P-(L+1)) b1 (by omega);have e2:=p20 (s:=Q-(L+1)) b2 (by omega);have s1:=qyX A (P-(L+1)) (by omega) (by omega);have s2:=qyX B (Q-(L+1)) (by omega) (by omega);rw[c6];generalize A*2^(P-(L+1))=U_ at *;generalize B*2^(Q-(L+1))=V at *;have w1:=wr (n:=(P:Int)-L) (by omega) (by omega);have w2:=wr (n:=(P:Int)-L-1) (by omega) (by omega);have w3:=wr (n:=(Q:Int)-L) (by omega) (by omega);have w4:=wr (n:=(Q:Int)-L-1) (by omega) (by omega);have w5:=wr (n:=(U_:Int)+V) (by omega) (by omega);have q1:(P:Int)-L-1=((P-(L+1):Nat):Int):=by omega
 have q2:(Q:Int)-L-1=((Q-(L+1):Nat):Int):=by omega
 rw[q1]at w2;rw[q2]at w4;have hC0:=qd hC;simp[-zA,hC0];refine qFz l1 (by simp) ?_;simp[-zA,VN,hC0,w1,w2,q1,s1,show ¬((P-(L+1):Nat):Int)<0 by omega,IntKind.bits];refine qFz l2 (by simp) ?_;simp[-zA,VN,qcD,w3,w4,q2,s2,show ¬((Q-(L+1):Nat):Int)<0 by omega,w5,IntKind.bits];exact qF7
def qqt{d}(hd:DagOk d){n:Nat}(hn:n<=20):∀k x,(k<d.length/\yO d k<n)->2<=k->d[k]?=some x->(x.2.1<d.length/\yO d x.2.1<n)/\(x.2.2<d.length/\yO d x.2.2<n)/\(Y2 d n k:Int)=qtd d n x (Y2 d n x.2.1:Nat) (Y2 d n x.2.2:Nat):=fun k x hk h2 hx=>by
 obtain⟨c1,c2,c3,c4,c5,c6⟩:=qdq hd hn h2 hx hk.2;obtain⟨g1,g2,g3,g4,g5,g6⟩:=hd.node k x h2 hx;refine⟨⟨by omega,c4⟩,⟨by omega,c5⟩,?_⟩;rw[c6];simp[qtd]
def qpa{d}(hd:DagOk d){n k:Nat}(hn:n<=20)(hk:k<d.length)(hdp:yO d k<n)(H T):
 qj prog GG 95 [.agg [.sl 3 (d.map qI) .none,.int .i64 n],.int .i64 k] ⟨H,T⟩ (fun r U'=>r=.int .i64 (Y2 d n k:Nat)/\KpL [] H U'.H):=by
 refine okzA func95 rfl rfl ?_;have hf:=qk2 (fun k=>k<d.length/\yO d k<n) hd (c:=148) (cfr:=[.ptr H.length 0]) (e0:=0) (e1:=1) (f:=k) (val:=fun k=>(Y2 d n k:Nat)) hk ⟨hk,hdp⟩ (qtd d n) (by rw[qv5 hd hn];rfl) (by rw[qv4 hd hn];rfl) (qqt hd hn)
  (H++[.cells [.sl 3 (d.map qI) .none,.int .i64 n]]) T (fun k x H' T' hk h2 hx hk'=>by
    have:=qo9 hd hn h2 hx hk.2 (C:=H.length) (H:=H') (hk'.2 _ _ lk0 (by simp)) T';rw[<- (qqt hd hn k x hk h2 hx).2.2];exact this)
 simp;refine qFC hf ?_;rintro r ⟨H1,T1⟩ ⟨rfl,hk1⟩;simp;exact qF7.trans hk1
def qnK:List (Nat×Sch×List Nat):=[(1,.step 0 [9,8,7,5,2] (.step 1 [9,8,7,5,2] (.step 4 [9,8,7,5] (.step 6 [9,8,7] (.fork (.cons 2 (.step 3 [9,8,7,5] (.step 5 [9,8,7] (.step 7 [9,8] (.step 8 [9] (.step 9 [] (.done)))))) (.cons 3 (.step 2 [9,8,7,5] (.step 5 [9,8,7] (.step 7 [9,8] (.step 8 [9] (.step 9 [] (.done)))))) (.nil))))))),[2])]
def qsJ{d}(hd:DagOk d){n k:Nat}(hn:n<=20)(hk:k<d.length)(hdp:yO d k<n)(H T):
 qj prog GG 52 [.agg [.sl 3 (d.map qI) .none,.int .i64 n],.int .i64 k,.int .i64 0] ⟨H,T⟩ (fun r U'=>r=.int .i64 (qac d 0 n k:Nat)/\KpL [] H U'.H):=by
 refine qFy ⟨false,qnK,[],[]⟩ qX func52 rfl (by kernel_rfl) ?_;have hb:=qpa hd hn hk hdp (H++[.cells [.sl 3 (d.map qI) .none,.int .i64 n]]) T;have hl:=qaZ (d:=d) (k:=k) (n:=n) hk;have hc:=WI (d:=d) (n:=n) (k:=k) (l:=0) (qC7 _);have hle:=qbl d n 0 k;have m1:vn d n k<=n:=qDp _ _;rw[qDM,qDM]at hc;rw[hc]at hle⊢;have h20:(2:Nat)^n<=2^20:=qBL (by omega) hn;have s1:=qyX (Y2 d n k) (vn d n k) (by omega) (by omega);generalize Y2 d n k*2^vn d n k=U_ at *;generalize Y2 d n k=A at *;generalize vn d n k=P at *;have w1:=wr (n:=(P:Int)) (by omega) (by omega);simp;rw[qP rfl];simp[zc];refine⟨qFC hb ?_,qFC hb ?_⟩
 all_goals
  rintro r ⟨H1,T1⟩ ⟨rfl,hk1⟩;have b1:=hk1.2 _ _ lk0 (by simp);simp[zc,b1];refine qFz hl (by simp) ?_;simp[-zA,zc,VN,w1,show ¬(P:Int)<0 by omega,s1,IntKind.bits];exact qF7.trans hk1
def qsO{d:List Nd}(hd:DagOk d){n k:Nat}(hn:n<=20)(hk:k<d.length)(hdp:yO d k<n)(H:List Blk)(T:List (Option Nat)):
 qj prog GG 51 [.agg (zF d),.int .i64 k,.int .i64 n] ⟨H,T⟩ (fun r U'=>r=.bool true/\KpL [] H U'.H):=by
 refine okzA func51 rfl rfl ?_;have hf:=qk2 (fun _=>True) hd (c:=94) (cfr:=[]) (e0:=-1) (e1:=-1) (f:=k) (val:=yO d) hk trivial Jk qk1 qk0 (fun k x _ h2 hx=>⟨trivial,trivial,w9 hd h2 hx⟩)
  (H++[.cells (zF d)]) T (fun k x H' T' _ h2 hx hk'=>qsN x _ _ H' T')
 simp only[zF]at hf;have hv:=WF d hd;simp only[zF]at hv;generalize yO d k=D at *;simp[show ¬(n:Int)<0 by omega,show ¬(20:Int)<n by omega,show ¬d.length<=k by omega];refine qFz hv (by simp) ?_;simp[show ¬(k:Int)<0 by omega,show ¬(d.length:Int)<=k by omega];refine qFC hf ?_;rintro r ⟨H1,T1⟩ ⟨rfl,hk1⟩;simp[hdp];exact qF7.trans hk1
def qtc{d}(hd:DagOk d){n k:Nat}(hn:n<=20)(hk:k<d.length)(hdp:yO d k<n)(H T):
 qj prog GG 25 [.agg (zF d),.int .i64 k,.int .i64 n] ⟨H,T⟩ (fun r U'=>r=.tup [.int .i64 (qac d 0 n k:Nat),.int .i64 0]/\KpL [] H U'.H):=by
 refine okzA func25 rfl rfl ?_;have hf:=qsO hd hn hk hdp (H++[.cells (zF d)]) T;simp only[zF]at hf;simp;refine qFC hf ?_;rintro r ⟨H1,T1⟩ ⟨rfl,hk1⟩;have b1:=hk1.2 _ _ lk0 (by simp);simp[b1];refine qFC (qsJ hd hn hk hdp H1 T1) ?_;rintro r ⟨H2,T2⟩ ⟨rfl,hk2⟩;simp;exact qF7.trans (hk1.trans hk2)
structure RnH(p):Prop where
 q:VQ p
 v20:p.vars.length<=20
 bits:kw p.vars (qJ p)<=18
 dl:p.dists.length<=10000
 sl:p.soft.length<=10000
 wl:∀d∈p.dists,d.weights.length<=1000
noncomputable def yy(p:Problem):Nat×Int:=if(qm p).2≠0 then(0,(qm p).2) else(qtJ p (qm p).1,0)
def qrP:List (Nat×Sch×List Nat):=[(5,.step 0 [14,13,12,11,10,3,2,1] (.step 1 [14,13,12,11,10,3,2] (.step 2 [14,13,12,11,10,3] (.step 3 [14,13,12,11,10] (.step 4 [14,13,12,11,10,7,6,5] (.step 5 [14,13,12,11,10,7,6] (.step 6 [14,13,12,11,10,7] (.step 7 [14,13,12,11,10] (.step 8 [14,13,12,11,10,9] (.step 9 [14,13,12,11,10] (.step 10 [14,13,12,11] (.step 11 [14,13] (.step 12 [14,13] (.step 13 [14] (.step 14 [] (.done))))))))))))))),[10])]
def RnH.LW{p}(h:RnH p)(hv:qg p=0):LW p (NG p).flatten<=18:=by
 have h1:=qfp hv h.q.vars;have h2:=h.bits;omega
def RnH.all{p}(h:RnH p)(hv:qg p=0):(jM p.vars).length<=2^18:=by
 have h3:=(qbr hv).length_eq;rw[qBM,qbA]at h3;rw[<- h3];exact qBL (by omega) (h.LW hv)
def qdL(p)(h:RnH p)(H T):
 qj prog GG 12 [.agg (qu p)] ⟨H,T⟩ (fun r U'=>r=.tup [.int .i64 (yy p).1,.int .i64 (yy p).2]/\KpL [] H U'.H):=by
 refine qFy ⟨false,qrP,[],[]⟩ qX func12 rfl (by kernel_rfl) ?_;have hop:=qcC p h.q h.v20 h.bits h.dl h.sl h.wl (H++[.cells (qu p)]) T;obtain⟨res,hres⟩:∃res,res=yy p:=⟨_,rfl⟩;rw[<- hres];unfold yy at hres;simp only[qu]at hop;simp;refine qFC hop ?_;rintro v ⟨H1,T1⟩ ⟨hk1,hr⟩;have b0:=hk1.2 _ _ lk0 (by simp);have hkH:=qF7.trans hk1;rcases hr with⟨he,rfl⟩|⟨he,s,d,rfl,hS,hL,hLL,hsp,hsR,hso,hsv,hroot⟩
 . rw[if_pos he]at hres;subst hres;simp[he];exact hkH
 rw[if_neg (by simp[he])]at hres;subst hres;subst hsp;have hv:=hsv.vp;have hsc:=hso.c;simp only[spE,qu,qBB,qBy]at hsc
 cases hsm:s.small with
 | true=>
  obtain⟨hd,⟨tok,hdv⟩,hrt⟩:=hsv.dag hsm;obtain⟨c1,c2⟩:=qoR hv hd hrt (hroot hsm);have hb:=qlP s.p h.q h.v20;have hlw:=h.LW hv;rw[<- qfp hv h.q.vars]at hb;have hc:=qtc hd (n:=LW s.p (NG s.p).flatten) (k:=s.root) (by omega) hrt c1 H1 T1;rw[c2]at hc;rw[hsm,hdv]at hsc;simp only[qu]at hb;generalize qtJ s.p (qm s.p).1=N at *;simp[hsc];rw[qP rfl];simp[zc,hsc,b0];refine qFz hb (by simp) ?_;simp[zc];refine qFC (hc.leq (by simp[zF])) ?_;rintro r ⟨H2,T2⟩ ⟨rfl,hk2⟩;simp[zc];exact hkH.trans hk2
 | false=>
  have hen:=qvY (s:=s) h.q (fun v hv'=>by have:=zf (z5 hv v hv');omega) hsv.rl (fun e he'=>(hsv.rk e he').2) (qB6 (h.all hv) (by decide)) hso T1;rw[qkp hv,hsR]at hen;rw[hsm]at hsc;generalize qtJ s.p (qm s.p).1=N at *;simp[hsc];refine qFC hen ?_;rintro r ⟨H2,T2⟩ ⟨rfl,hk2⟩;simp;exact hkH.trans hk2
def qfo(p)(h:RnH p):Pure prog GG 12 [.agg (qu p)] (.tup [.int .i64 (yy p).1,.int .i64 (yy p).2]):=by
 refine Pure.ofA (qdL p h [] []) ?_;rintro v U' ⟨rfl,-⟩;rw[qs (by simp)];exact⟨by simp,qFG _⟩
noncomputable def jX(p:Problem)(gi:Int)(a:List Int):Int×Int:=if(qm p).2≠0 then(0,(qm p).2) else kF p gi a
def qpq(p)(h:RnH p)(gi){r a H}(ha:AsR r a H)(T):
 qj prog GG 8 [.agg (qu p),.int .i64 gi,r] ⟨H,T⟩ (fun v U'=>v=.tup [.int .i64 (jX p gi a).1,.int .i64 (jX p gi a).2]/\KpL [] H U'.H):=by
 refine okzA func8 rfl rfl ?_;have hop:=qcC p h.q h.v20 h.bits h.dl h.sl h.wl (H++[.cells (qu p)]) T;obtain⟨res,hres⟩:∃res,res=jX p gi a:=⟨_,rfl⟩;rw[<- hres];unfold jX at hres;simp only[qu]at hop;simp;refine qFC hop ?_;rintro v ⟨H1,T1⟩ ⟨hk1,hr⟩;have hkH:=qF7.trans hk1;rcases hr with⟨he,rfl⟩|⟨he,s,d,rfl,hS,hL,hLL,hsp,hsR,hso,hsv,hroot⟩
 . rw[if_pos he]at hres;subst hres;simp[he];exact hkH
 rw[if_neg (by simp[he])]at hres;have hR:SpR p s d:=⟨hsp,hsR,hsv,hroot⟩;have ht:=qau hsv gi hso (ha.keep hkH (by simp)) T1;rw[hR.tot,<- hres]at ht;simp;refine qFC ht ?_;rintro v ⟨H2,T2⟩ ⟨rfl,hk2⟩;simp;exact hkH.trans hk2
def qtw(p)(h:RnH p)(gi a):Pure prog GG 8 [.agg (qu p),.int .i64 gi,.sl 1 (a.map qh) .none] (.tup [.int .i64 (jX p gi a).1,.int .i64 (jX p gi a).2]):=by
 refine Pure.ofA (qpq p h gi (H:=[]) (.inl ⟨.none,rfl⟩) []) ?_;rintro v U' ⟨rfl,-⟩;rw[qs (by simp)];exact⟨by simp,qFG _⟩
noncomputable def wQ(p:Problem)(gi:Int)(a:List Int)(k:Int):List Int×Int :=
 if(jX p gi a).2≠0 then([],(jX p gi a).2) else if k<0\/(jX p gi a).1<=k then([],12) else(z9 p gi.toNat a k,0)
def ChO(o:List Int×Int)(H:List Blk)(v:AV)(U':St):Prop:=KpL [] H U'.H/\∃w b,v=.tup [w,.int .i64 o.2]/\qg5 b U'.H w o.1
def qmS(p R fx g c):qbD p R fx g c<=lim:=by
 cases g with
 |nil=>unfold qbD lim;split<;>omega
 | cons i r=>
  unfold qbD;split
  . exact y9 _ _ _ (qC7 _)
  exact qC7 _
def YJ{p gi a}(h:(kF p gi a).2=0):0<=gi/\gi.toNat<(NG p).length/\qB p.vars a=true/\1<=(kF p gi a).1/\(kF p gi a).1<lim:=by
 unfold kF at h⊢;split at h
 . cases h
 rename_i hc;rw[if_neg hc];split at h
 . cases h
 rename_i h0;rw[if_neg h0];split at h
 . cases h
 rename_i h1;rw[if_neg h1];have hle:Kp p (fun _=>none) a gi.toNat<=lim:=qmS _ _ _ _ _;refine⟨?_,?_,?_,?_,?_⟩
 . exact qFk.1 fun e=>hc (.inl e)
 . have:¬gi<0:=fun e=>hc (.inl e)
   have:¬((NG p).length:Int)<=gi:=fun e=>hc (.inr (.inl e))
   omega
 . cases hA:qB p.vars a with
   |true=>rfl
   |false=>exact absurd (.inr (.inr hA)) hc
 . dsimp only;omega
 dsimp only;omega
def qmk(p)(h:RnH p)(hl12:qg p=0->(NG p).flatten.length<=12)(gi){r a H}(ha:AsR r a H)(k T):
 qj prog GG 10 [.agg (qu p),.int .i64 gi,r,.int .i64 k] ⟨H,T⟩ (ChO (wQ p gi a k) H):=by
 refine okzA func10 rfl rfl ?_;have hop:=qcC p h.q h.v20 h.bits h.dl h.sl h.wl (H++[.cells (qu p)]) T;obtain⟨res,hres⟩:∃res,res=wQ p gi a k:=⟨_,rfl⟩;rw[<- hres];unfold wQ at hres;simp only[qu]at hop;simp;refine qFC hop ?_;rintro v ⟨H1,T1⟩ ⟨hk1,hr⟩;have hkH:=qF7.trans hk1;rcases hr with⟨he,rfl⟩|⟨he,s,d,rfl,hS,hL,hLL,hsp,hsR,hso,hsv,hroot⟩
 . have hto:jX p gi a=(0,(qm p).2):=if_pos he;rw[hto,if_pos he]at hres;subst hres;simp[he];exact⟨hkH,_,0,rfl,.inl ⟨rfl,_,_,rfl⟩⟩
 have hto:jX p gi a=kF p gi a:=if_neg (by simp[he]);rw[hto]at hres;have hR:SpR p s d:=⟨hsp,hsR,hsv,hroot⟩;have hv:=hsv.vp;rw[hsp]at hv;have ht:=qau hsv gi hso (ha.keep hkH (by simp)) T1;rw[hR.tot]at ht;have hok:=YJ (p:=p) (gi:=gi) (a:=a);have hch:=fun h1 h2 idx=>hR.ch (a:=a) (gi:=gi.toNat) h1 h2 idx
 generalize kF p gi a=tt at *;obtain⟨n,e⟩:=tt;simp;refine qFC ht ?_;rintro v ⟨H2,T2⟩ ⟨rfl,hk2⟩;have hkk:=hkH.trans hk2;by_cases he0:e=0
 . subst he0;rw[if_neg (by simp)]at hres;obtain⟨g0,g1,has,n1,n2⟩:=hok rfl;by_cases hk0:k<0
   . rw[if_pos (.inl hk0)]at hres;subst hres;simp[hk0];exact⟨hkk,_,0,rfl,.inl ⟨rfl,_,_,rfl⟩⟩
   by_cases hk1:n<=k
   . rw[if_pos (.inr hk1)]at hres;subst hres;simp[hk0,hk1];exact⟨hkk,_,0,rfl,.inl ⟨rfl,_,_,rfl⟩⟩
   rw[if_neg (fun h=>h.elim hk0 hk1)]at hres;have hc:=qgU hsv (by rw[hsp];exact hl12 hv) (gi:=gi.toNat) (by rwa[hsp]) (r:=r) (a:=a) (by rw[hsp];exact vL hv has) (by rw[hsp];exact(vg hv has).1) (hso.keep hk2 (by simp) (by simp) (by simp)) (ha.keep hkk (by simp)) T2 (idx:=k) (by omega) (by unfold lim at n2;omega);rw[hch has g1 k,show((gi.toNat:Nat):Int)=gi by omega]at hc;simp[hk0,hk1];refine qFC hc ?_;rintro v ⟨H3,T3⟩ ⟨hk3,N,rfl,hN1,hN2⟩;subst hres;simp;refine⟨hkk.trans hk3,_,N,rfl,?_⟩;by_cases hnil:z9 p gi.toNat a k=[]
   . exfalso;have hlen:=congrArg List.length hnil;rw[wm,(vg hv has).1]at hlen;obtain⟨g,hg⟩:∃g,(NG p)[gi.toNat]?=some g:=⟨_,qBc g1⟩;have hg':=qBb hg;have hgn:g≠[]:=by
      obtain⟨g',hg2,rfl⟩:=qBA.1 hg';have:=(jz hv).1 g' hg2;simpa using this
     have h1:=qg6 hv
     cases g with
     |nil=>exact hgn rfl
     | cons x g=>
      have hx:x∈(NG p).flatten:=qBH.2 ⟨_,hg',by simp⟩;have h2:=qE8 hx;have h3:p.vars.length=0:=(by simpa using hlen);omega
   exact .inr ⟨hnil,rfl,hN2⟩
 rw[if_pos he0]at hres;subst hres;simp[he0];exact⟨hkk,_,0,rfl,.inl ⟨rfl,_,_,rfl⟩⟩
def qfO(n:Nat)(h:n<9223372036854775808):Pure prog GG 113 [.int .i64 n] (.int .u64 n):=by
 refine okzP func113 rfl rfl ?_;have h1:=wru (n:=n) (by omega) (by omega);simp[show ¬(n:Int)<0 by omega,yF,h1]
def qep:∀(b a:Nat),a<18446744073709551616->b<18446744073709551616->Pure prog GG 114 [.int .u64 a,.int .u64 b] (.int .u64 (Nat.gcd a b:Nat)):=by
 intro b a ha hb;refine okzP func114 rfl rfl ?_;simp;refine qFE (fun n ev U=>∃x y:Nat,n=y/\x<18446744073709551616/\y<18446744073709551616/\ev 0=.int .u64 x/\ev 1=.int .u64 y/\Nat.gcd x y=Nat.gcd a b) b ⟨a,b,rfl,ha,hb,by simp⟩ ?_;rintro y ev U R hR ⟨x,_,rfl,hx,hy,h0,h1,hg⟩;by_cases hz:y=0
 . subst hz;simp at hg;simp[h0,h1,hg]
 simp[h0,h1,hz];refine hR (x%y) _ _ (qDP _ (by omega)) ⟨y,x%y,rfl,hy,qCP (Nat.mod_le _ _) hx,by simp,by simp[qB4],?_⟩
 rwa[qD9 y,<- Nat.gcd_rec,qD9]
def qaC(a b:Nat)(ha:a<9223372036854775808)(hb:b<9223372036854775808):Pure prog GG 65 [.int .i64 a,.int .i64 b] (.agg [.bool false,.int .u64 a,.int .u64 b]):=by
 refine okzP func65 rfl rfl ?_;simp[show ¬(a:Int)<0 by omega,show ¬(b:Int)<0 by omega];refine qFz (qfO a ha) rfl ?_;simp;refine qFz (qfO b hb) rfl ?_;simp
def qtI(a b:Nat)(hb:0<b)(ha:a<18446744073709551616):zA .quo .u64 a b=some (.int .u64 (a/b:Nat)):=by
 have h:¬(b:Int)=0:=by omega
 simp only[zA];rw[if_neg h,qCG (by omega)];show some (AV.int .u64 (IntKind.u64.wrap (((a/b:Nat):Int))))=_;rw[wru (Int.natCast_nonneg _) (Int.ofNat_lt.2 (qCP (qCp _ _) ha))]
def VB(n d:Nat)(hn:n<18446744073709551616)(hd:d<18446744073709551616)(h0:0<d):
 Pure prog GG 66 [.agg [.bool false,.int .u64 n,.int .u64 d]] (.agg [.bool false,.int .u64 (n/Nat.gcd n d:Nat),.int .u64 (d/Nat.gcd n d:Nat)]):=by
 refine okzP func66 rfl rfl ?_;have hg:0<Nat.gcd n d:=qCL _ h0;have h1:=qtI n _ hg hn;have h2:=qtI d _ hg hd;simp[-zA];refine qFz (qep d n hn hd) rfl ?_;generalize Nat.gcd n d=g at *;simp[-zA,h1,h2]
def qhP(n d:Nat):Nat×Nat×Nat:=if n<9223372036854775808/\d<9223372036854775808 then(n,d,0) else(0,0,3)
def qpO(n d:Nat)(hn:n<18446744073709551616)(hd:d<18446744073709551616):
 Pure prog GG 67 [.agg [.bool false,.int .u64 n,.int .u64 d]] (.tup [.agg [.int .i64 (qhP n d).1,.int .i64 (qhP n d).2.1],.int .i64 (qhP n d).2.2]):=by
 refine okzP func67 rfl rfl ?_;unfold qhP;by_cases h1:n<9223372036854775808
 . have h1':¬(9223372036854775807:Int)<n:=(by omega);have w1:=wr (n:=n) (by omega) (by omega);by_cases h2:d<9223372036854775808
   . have h2':¬(9223372036854775807:Int)<d:=(by omega);have w2:=wr (n:=d) (by omega) (by omega);simp[h1,h1',h2,h2',yF,w1,w2]
   have h2':(9223372036854775807:Int)<d:=(by omega);simp[h1,h1',h2,h2']
 have h1':(9223372036854775807:Int)<n:=by omega
 simp[h1,h1']
def kz(a b:Nat):Nat×Nat:=(a/Nat.gcd a b,b/Nat.gcd a b)
def qp2(a b:Nat)(ha:a<9223372036854775808)(hb:b<9223372036854775808)(h0:0<b):
 Pure prog GG 37 [.int .i64 a,.int .i64 b] (.tup [.agg [.int .i64 (kz a b).1,.int .i64 (kz a b).2],.int .i64 0]):=by
 refine okzP func37 rfl rfl ?_;have h1:a/Nat.gcd a b<9223372036854775808:=qCP (qCp _ _) ha;have h2:b/Nat.gcd a b<9223372036854775808:=qCP (qCp _ _) hb;have hr:=qpO (a/Nat.gcd a b) (b/Nat.gcd a b) (by omega) (by omega);have hre:=VB a b (by omega) (by omega) h0;unfold qhP at hr;rw[if_pos ⟨h1,h2⟩]at hr;unfold kz;generalize a/Nat.gcd a b=x at *;generalize b/Nat.gcd a b=y at *;simp[show ¬b=0 by omega];refine qFz (qaC a b ha hb) rfl ?_;simp;refine qFz hre rfl ?_;simp;refine qFz hr rfl ?_;simp
def qql(a b c d):WD (Dof prog) 50 [.int .i64 a,.int .i64 b] [.int .i64 c,.int .i64 d]=some ((a==c)&&(b==d)):=by
 simp[WD,YA,kl,qR,zW,qCt,je,kx]
def qfw(a b:Nat)(ha:a<9223372036854775808)(hb:b<9223372036854775808)(h0:0<b)(hc:Nat.gcd a b=1):
 Pure prog GG 115 [.agg [.int .i64 a,.int .i64 b]] (.bool true):=by
 refine okzP func115 rfl rfl ?_;have hm:=qp2 a b ha hb h0;unfold kz at hm;rw[hc,qE7,qE7]at hm;simp[show ¬(b:Int)<1 by omega];refine qFz hm rfl ?_;simp[qql]
def qtj(a b c d:Nat)(ha:a<9223372036854775808)(hb:b<9223372036854775808)(h0:0<b)(hab:Nat.gcd a b=1)(hc:c<9223372036854775808)(hd:d<9223372036854775808)(h1:0<d)(hcd:Nat.gcd c d=1):
 Pure prog GG 69 [.agg [.int .i64 a,.int .i64 b],.agg [.int .i64 c,.int .i64 d]] (.bool true):=by
 refine okzP func69 rfl rfl ?_;simp;refine qFz (qfw a b ha hb h0 hab) rfl ?_;simp;refine qFz (qfw c d hc hd h1 hcd) rfl ?_;simp
def qrH(a b c d:Nat):Nat:=(a/Nat.gcd a d)*(c/Nat.gcd c b)
def qrI(a b c d:Nat):Nat:=(b/Nat.gcd c b)*(d/Nat.gcd a d)
def Yb{a b c d:Nat}(hb:0<b)(hd:0<d)(hab:Nat.gcd a b=1)(hcd:Nat.gcd c d=1):Nat.gcd (qrH a b c d) (qrI a b c d)=1:=by
 have hg:0<Nat.gcd a d:=qCL _ hd;have hh:0<Nat.gcd c b:=qCL _ hb;exact Nat.Coprime.mul_left (Nat.Coprime.mul_right (Nat.Coprime.coprime_dvd_left (qEa (qDE a d)) (Nat.Coprime.coprime_dvd_right (qEa (qDl c b)) hab)) (qDO hg)) (Nat.Coprime.mul_right (qDO hh) (Nat.Coprime.coprime_dvd_left (qEa (qDE c b)) (Nat.Coprime.coprime_dvd_right (qEa (qDl a d)) hcd)))
def kN(a b c d:Nat):Nat×Nat×Nat:=qhP (qrH a b c d) (qrI a b c d)
def qhT(a b c d:Nat)(ha:a<9223372036854775808)(hb:b<9223372036854775808)(h0:0<b)(hab:Nat.gcd a b=1)(hc:c<9223372036854775808)(hd:d<9223372036854775808)(h1:0<d)(hcd:Nat.gcd c d=1):
 Pure prog GG 70 [.agg [.bool false,.int .u64 a,.int .u64 b],.agg [.bool false,.int .u64 c,.int .u64 d]] (.tup [.agg [.int .i64 (kN a b c d).1,.int .i64 (kN a b c d).2.1],.int .i64 (kN a b c d).2.2]):=by
 refine okzP func70 rfl rfl ?_;have hg:0<Nat.gcd a d:=qCL _ h1;have hh:0<Nat.gcd c b:=qCL _ h0;have q1:=qtI a _ hg (by omega);have q2:=qtI c _ hh (by omega);have q3:=qtI b _ hh (by omega);have q4:=qtI d _ hg (by omega);have l1:a/Nat.gcd a d<=a:=qCp _ _;have l2:c/Nat.gcd c b<=c:=qCp _ _;have l3:b/Nat.gcd c b<=b:=qCp _ _;have l4:d/Nat.gcd a d<=d:=qCp _ _;have hcop:=Yb h0 h1 hab hcd;have p3:0<b/Nat.gcd c b:=qEj (qDw h0 (qDl _ _)) hh;have p4:0<d/Nat.gcd a d:=qEj (qDw h1 (qDl _ _)) hg;have g1:=qep d a (by omega) (by omega);have g2:=qep b c (by omega) (by omega);unfold kN;unfold qrH qrI at *;generalize Nat.gcd a d=g at *;generalize Nat.gcd c b=h at *;generalize a/g=A at *;generalize c/h=C at *;generalize b/h=B at *;generalize d/g=D at *;have hD:0<B*D:=qEk p3 p4;generalize hN:A*C=N at *;generalize hM:B*D=M at *;obtain⟨nh,nl,hn1,hn2⟩:∃nh nl,N=18446744073709551616*nh+nl/\nl<18446744073709551616:=⟨N/18446744073709551616,N%18446744073709551616,by omega,by omega⟩;obtain⟨mh,ml,hm1,hm2⟩:∃mh ml,M=18446744073709551616*mh+ml/\ml<18446744073709551616:=⟨M/18446744073709551616,M%18446744073709551616,by omega,by omega⟩;have m1:=qcN A C nh nl (by omega) (by omega) (by rw[hN];exact hn1) hn2;have m2:=qcN B D mh ml (by omega) (by omega) (by rw[hM];exact hm1) hm2;simp[-zA];refine qFz g1 (by simp) ?_;simp[-zA];refine qFz g2 (by simp) ?_;simp[-zA,q1,q2];refine qFz m1 (by simp) ?_;simp[-zA,q3,q4];refine qFz m2 (by simp) ?_;by_cases n0:nh=0
 . by_cases n1:mh=0
   . subst n0 n1;have e1:N=nl:=(by omega);have e2:M=ml:=(by omega);subst e1 e2;have hre:=VB N M hn2 hm2 hD;rw[hcop,qE7,qE7]at hre;have hra:=qpO N M hn2 hm2;generalize qhP N M=rs at *;simp;refine qFz hre (by simp) ?_;simp;refine qFz hra (by simp) ?_;simp
   . have hr:qhP N M=(0,0,3):=(by unfold qhP;rw[if_neg (by omega)]);simp[hr,n0,n1]
 have hr:qhP N M=(0,0,3):=by unfold qhP;rw[if_neg (by omega)]
 simp[hr,n0]
def qyA(a b c d:Nat)(ha:a<9223372036854775808)(hb:b<9223372036854775808)(h0:0<b)(hab:Nat.gcd a b=1)(hc:c<9223372036854775808)(hd:d<9223372036854775808)(h1:0<d)(hcd:Nat.gcd c d=1):
 Pure prog GG 39 [.agg [.int .i64 a,.int .i64 b],.agg [.int .i64 c,.int .i64 d]] (.tup [.agg [.int .i64 (kN a b c d).1,.int .i64 (kN a b c d).2.1],.int .i64 (kN a b c d).2.2]):=by
 refine okzP func39 rfl rfl ?_;simp;refine qFz (qtj a b c d ha hb h0 hab hc hd h1 hcd) rfl ?_;simp;refine qFz (qaC a b ha hb) rfl ?_;simp;refine qFz (qaC c d hc hd) rfl ?_;simp;refine qFz (qhT a b c d ha hb h0 hab hc hd h1 hcd) rfl ?_;simp
def qpw(p)(h:RnH p)(hl12:qg p=0->(NG p).flatten.length<=12)(gi a k):
 Pure prog GG 10 [.agg (qu p),.int .i64 gi,.sl 1 (a.map qh) .none,.int .i64 k] (.tup [.sl 1 ((wQ p gi a k).1.map qh) .none,.int .i64 (wQ p gi a k).2]):=by
 refine Pure.ofA (qmk p h hl12 gi (H:=[]) (.inl ⟨.none,rfl⟩) k []) ?_;rintro v U' ⟨_,w,b,rfl,hr⟩;obtain⟨h1,h2,h3⟩:=hr.frz 6;exact wJ h1 h2 h3
def wv(p:Problem)(gi:Nat)(a:List Int):Nat:=((NG p).getD gi []).foldl (fun n i=>sat (n*wtP p i (aN a i))) 1
def qrM:List (Nat×Sch×List Nat):=[(5,.step 0 [12,11] (.step 1 [12,11,10,4,3,2] (.step 2 [12,11,10,4,3] (.step 3 [12,11,10,4] (.step 4 [12,11,10] (.step 5 [12,11,10] (.step 6 [12,11,10,9,8] (.step 7 [12,11,10,9,8] (.step 8 [12,11,10,9] (.step 9 [12,11,10] (.step 10 [12,11] (.step 11 [12] (.step 12 [] (.done))))))))))))),[10])]
def qj1{s d}(h:SpV s d){gi}(hgi:gi<(NG s.p).length){r a H}(hao:AOk s.p a)(hs:SpOk s H)(ha:AsR r a H)(T):
 qj prog GG 38 [.ptr s.S 0,.int .i64 gi,r] ⟨H,T⟩ (fun v U'=>v=.int .i64 (wv s.p gi a:Nat)/\KpL [] H U'.H):=by
 refine qFy ⟨false,qrM,[],[]⟩ qX func38 rfl (by kernel_rfl) ?_;have hS:=hs.c;have hG:=qak h.vp;obtain⟨g,hg⟩:∃g,(NG s.p)[gi]?=some g:=⟨_,qBc hgi⟩;have hl:=(QF h.vp h.vq.vars).1 g (qBb hg);simp only[spE,qu,qBB,qBy,hG]at hS;unfold wv;rw[show(NG s.p).getD gi []=g by simp[qBi,hg]];simp[hS,hg,yM];refine qFP g (fun dn ev U=>ev 0=.ptr s.S 0/\ev 2=r/\ev 7=.int .i64 (dn.foldl (fun n i=>sat (n*wtP s.p i (aN a i))) 1:Nat)/\ev 17=.sl 1 (g.map zL) .none/\ev 18=.int .i64 g.length/\ev 19=.int .i64 dn.length/\KpL [] H U.H) ?_ ?_ ?_
 . exact⟨by simp,by simp,by simp,by simp,by simp,by simp,qF5⟩
 . rintro dn i rest ev ⟨H1,T1⟩ R hR hdl hx hlt ⟨e0,e2,e7,e17,e18,e19,hk⟩;obtain⟨v,l,hv,hw0,hw8,hll,hl20,hwn⟩:=(h.gr fun i hi=>qBH.2 ⟨g,qBb hg,hi⟩) i (qBb hx);obtain⟨x,hax,hxb⟩:=hao i ((fun i hi=>qBH.2 ⟨g,qBb hg,hi⟩) i (qBb hx));have hs1:=hs.keep hk (by simp) (by simp) (by simp);have hS1:=hs1.c;simp only[spE,qu,qBB,qBy,hG]at hS1;obtain⟨u,hu1,hu2⟩:=(ha.keep hk (by simp)).at0 hax;have hdw:=wr (n:=(dn.length:Int)+1) (by omega) (by omega);obtain⟨o,ho⟩:∃o,(ja s.p.vars.length s.p.dists)[i]?=some o:=⟨_,qBc (by rw[ye];exact(qBa.1 hv).1)⟩;have hweigh:=qal s.p hs1.w ho (fun w hw=>hwn w (by rw[ho,hw])) (x:Int) T1;rw[<- show wtP s.p i x=wtO o (x:Int) by simp[wtP,qBi,ho]]at hweigh;have hwle:=qfr s.p i x;have haN:aN a i=x:=(by unfold aN;rw[qBi,hax];simp);have hsnoc:(dn++[i]).foldl (fun n i=>sat (n*wtP s.p i (aN a i))) 1=sat (dn.foldl (fun n i=>sat (n*wtP s.p i (aN a i))) 1*wtP s.p i x):=(by rw[qCe,<- haN];rfl);have hacc:dn.foldl (fun n i=>sat (n*wtP s.p i (aN a i))) 1<=lim:=by
    have:∀(l:List Nat) (n:Nat),n<=lim->l.foldl (fun n i=>sat (n*wtP s.p i (aN a i))) n<=lim:=by
     intro l
     induction l with
     |nil=>intro n hn;exact hn
     |cons y l ih=>intro n hn;rw[qBP];exact ih _ (Ky _)
    exact this dn 1 (by decide)
   generalize dn.foldl (fun n i=>sat (n*wtP s.p i (aN a i))) 1=acc at *;generalize wtP s.p i x=wx at *;have ht:=qaw acc wx hacc hwle;simp[-zE,-kQ,e17,e18,e19,show(dn.length:Int)<g.length by omega,show zE (Dof prog) 28 (.sl 1 (g.map zL) .none) (.int .i64 (dn.length:Nat))=some (.rptr [.int .i64 i]) by simp[-getElem?_pos,hx,zL],show ∀U,kQ (Dof prog) U 3 (.rptr [.int .i64 (i:Int)])=some (.int .i64 i) from fun U=>by simp];rw[qP rfl];simp[-zE,-kQ,zc,show kQ (Dof prog) ⟨H1,T1⟩ 65 (.ptr s.S 10)=some (.fn 75 [] [.ptr s.L 0]) by simp[-getElem?_pos,hS1],e0,e2,e7,hu1,hu2];refine qFC hweigh ?_;rintro w U ⟨rfl,rfl⟩;simp;refine qFz ht rfl ?_;simp[e19,hdw];exact hR _ _ ⟨by simp[e0],by simp[e2],by simp[hsnoc],by simp[e17],by simp[e18],by simp,hk⟩
 rintro ev ⟨H1,T1⟩ ⟨e0,e2,e7,e17,e18,e19,hk⟩;simp[e7,e18,e19];exact hk
noncomputable def qct(p:Problem)(a:List Int):List Nat->Nat->Nat->Nat×Nat×Int
 |[],n,d=>(n,d,0)
 | gi::rest,n,d=>
  if(kF p gi a).2≠0 then(0,0,(kF p gi a).2)
  else if(kN n d (kz (wv p gi a) (kF p gi a).1.toNat).1 (kz (wv p gi a) (kF p gi a).1.toNat).2).2.2≠0 then(0,0,3)
  else qct p a rest (kN n d (kz (wv p gi a) (kF p gi a).1.toNat).1 (kz (wv p gi a) (kF p gi a).1.toNat).2).1 (kN n d (kz (wv p gi a) (kF p gi a).1.toNat).1 (kz (wv p gi a) (kF p gi a).1.toNat).2).2.1
noncomputable def W6(p:Problem)(a:List Int):Nat×Nat×Int :=
 if(qm p).2≠0 then(0,0,(qm p).2) else if qB p.vars a=false then(0,0,1) else if(qm p).1.all (ko p a)=false then(0,1,0)
 else qct p a (List.range (NG p).length) 1 1
structure FrOk(n d):Prop where
 nl:n<9223372036854775808
 dl:d<9223372036854775808
 pos:0<d
 cop:Nat.gcd n d=1
def qsi{a b}(ha:a<9223372036854775808)(hb:b<9223372036854775808)(h0:0<b):FrOk (kz a b).1 (kz a b).2:=by
 have hg:0<Nat.gcd a b:=qCL _ h0;exact⟨qCP (qCp _ _) ha,qCP (qCp _ _) hb,qEj (qDw h0 (qDl _ _)) hg,qDO hg⟩
def qve{a b c d}(h:FrOk a b)(g:FrOk c d)(he:(kN a b c d).2.2=0):FrOk (kN a b c d).1 (kN a b c d).2.1:=by
 have hc:=Yb h.pos g.pos h.cop g.cop;unfold kN qhP at *;split at he
 . rename_i hlt;rw[if_pos hlt];exact⟨hlt.1,hlt.2,(qEk (qEj (qDw h.pos (qDl _ _)) (qCL _ h.pos)) (qEj (qDw g.pos (qDl _ _)) (qCL _ g.pos))),hc⟩
 cases he
def qyz(a b c d):(kN a b c d).2.2≠0->(kN a b c d).2.2=3:=by
 unfold kN qhP;split<;>simp
def qnl(p gi a):wv p gi a<=lim:=by
 have:∀(l:List Nat) (n:Nat),n<=lim->l.foldl (fun n i=>sat (n*wtP p i (aN a i))) n<=lim:=by
  intro l
  induction l with
  |nil=>intro n hn;exact hn
  |cons y l ih=>intro n hn;rw[qBP];exact ih _ (Ky _)
 exact this _ 1 (by decide)
def PrQ(o:Nat×Nat×Int)(H:List Blk)(v:AV)(U':St):Prop:=v=.tup [.agg [.int .i64 (o.1:Nat),.int .i64 (o.2.1:Nat)],.int .i64 o.2.2]/\KpL [] H U'.H
def qtz(p)(h:RnH p)(a)(haf:Fits a)(H T):
 qj prog GG 20 [.agg (qu p),.sl 1 (a.map qh) .none] ⟨H,T⟩ (PrQ (W6 p a) H):=by
 refine okzA func20 rfl rfl ?_;have hop:=qcC p h.q h.v20 h.bits h.dl h.sl h.wl (H++[.cells (qu p),.cells [.int .i64 0,.int .i64 0]]) T;obtain⟨res,hres⟩:∃res,res=W6 p a:=⟨_,rfl⟩;rw[<- hres];unfold W6 at hres;simp only[qu]at hop;simp;refine qFC hop ?_;rintro v ⟨H1,T1⟩ ⟨hk1,hr⟩;dsimp only at hk1;have b0:=hk1.2 _ _ lk0 (by simp);have b1:=hk1.2 _ _ lk1 (by simp);have b1l:=(qBa.1 b1).1;have hkH:=qF7.trans hk1
 -- what is returned
 have out:∀(H2:List Blk) (T2:List (Option Nat)) (n d:Nat) (e:Int),res=(n,d,e)->KpL [] H H2->PrQ res H (.tup [.agg [.int .i64 n,.int .i64 d],.int .i64 e]) ⟨H2.set (H.length+1) (.cells [.int .i64 n,.int .i64 d]),T2⟩:=fun H2 T2 n d e he hk=>by
  rw[he];exact⟨rfl,hk.setF (by omega)⟩
 rcases hr with⟨he,rfl⟩|⟨he,s,d,rfl,hS,hL,hLL,hsp,hsR,hso,hsv,hroot⟩
 . rw[if_pos he]at hres;simp[-getElem?_pos,he,b1,b1l];exact out _ _ 0 0 _ hres hkH
 rw[if_neg (by simp[he])]at hres;have hR:SpR p s d:=⟨hsp,hsR,hsv,hroot⟩;have hw:∀v∈s.p.vars,0<=v.width/\v.width<=8:=fun v hv=>by have:=zf (z5 hsv.vp v hv);omega
 have has:=qdB hso hw hsv.vq.vars (r:=.sl 1 (a.map qh) .none) (a:=a) (.inl ⟨.none,rfl⟩) T1;have hv:=hsv.vp;rw[hsp]at has hv;simp;refine qFC has ?_;rintro v ⟨H2,T2⟩ ⟨rfl,hk2⟩;dsimp only at hk2;have hkH2:=hkH.trans hk2;have b1':=hk2.2 _ _ b1 (by simp);have b1l':=(qBa.1 b1').1
 cases hA:qB p.vars a with
 | false=>
  rw[if_pos hA]at hres;simp[-getElem?_pos,b1',b1l',unA];exact out _ _ 0 0 _ hres hkH2
 | true=>
  rw[if_neg (by simp[hA])]at hres;have hso2:=hso.keep hk2 (by simp) (by simp) (by simp);have hsl:=qfG (s:=s) (hsp▸h.q) hso2 hsv.rl (r:=.sl 1 (a.map qh) .none) haf rfl (fun H' _=>by rw[qs (by simp)];exact qFG _) (fun e he'=>(hsv.rk e he').2) T2;rw[hsR,hsp]at hsl;simp[unA];refine qFC hsl ?_;rintro v ⟨H3,T3⟩ ⟨rfl,hk3⟩;dsimp only at hk3;have hkH3:=hkH2.trans hk3;have c1:=hk3.2 _ _ b1' (by simp);have c1l:=(qBa.1 c1).1
  cases hB:(qm p).1.all (ko p a) with
  | false=>
   rw[if_pos hB]at hres;simp[-getElem?_pos,c1,c1l,unA];exact out _ _ 0 1 _ hres hkH3
  | true=>
   rw[if_neg (by simp[hB])]at hres;have c0:=hk3.2 _ _ (hk2.2 _ _ b0 (by simp)) (by simp);have hG:=qak hv;have hng:=QF hv h.q.vars;simp only[hG]at c0;have c0':=qd c0;simp[unA,c0'];refine yU (NG p).length (fun k ev U=>ev 1=.sl 1 (a.map qh) .none/\ev 4=.ptr (H.length+1) 0/\ev 6=.ptr s.S 0/\ev 8=.ptr H3.length 0/\ev 38=.int .i64 (NG p).length/\ev 39=.int .i64 k/\KpL [] H U.H/\SpOk s U.H/\U.H[H.length+1]?=some (.cells [.int .i64 0,.int .i64 0]) /\
    ∃n d:Nat,U.H[H3.length]?=some (.cells [.int .i64 n,.int .i64 d])/\FrOk n d/\res=qct p a (List.range' k ((NG p).length-k)) n d) ?_ ?_ ?_
   . exact⟨by simp,by simp,by simp,by simp,by simp,by simp,hkH3.trans qF7,hso2.keep (hk3.trans qF7) (by simp) (by simp) (by simp),qd c1 _,1,1,lk0,⟨by decide,by decide,by decide,by decide⟩,by rw[hres,qCd];simp⟩
   . rintro k ev ⟨H4,T4⟩ R hR' hkn ⟨e1,e4,e6,e8,e38,e39,hk4,hso4,d1,n,dd,d8,hfr,hpr⟩;dsimp only at hk4 hso4 d1 d8;have hwk:=wr (n:=(k:Int)+1) (by omega) (by omega);have hrg:List.range' k ((NG p).length-k)=k::List.range' (k+1) ((NG p).length-(k+1)):=by
      obtain⟨m,hm⟩:∃m,(NG p).length-k=m+1:=⟨(NG p).length-k-1,by omega⟩;rw[hm,qCx,show(NG p).length-(k+1)=m by omega]
     rw[hrg]at hpr;unfold qct at hpr;have ht:=qau hsv (k:Int) hso4 (r:=.sl 1 (a.map qh) .none) (a:=a) (.inl ⟨.none,rfl⟩) T4;rw[hR.tot]at ht;have hok:=YJ (p:=p) (gi:=(k:Int)) (a:=a);have hpl:=qnl p k a;rw[qBF]at hok;have hpd:=fun H T (hs:SpOk s H)=>qj1 hsv (gi:=k) (by rwa[hsp]) (r:=.sl 1 (a.map qh) .none) (a:=a) (by rw[hsp];exact vL hv hA) hs (.inl ⟨.none,rfl⟩) T
     rw[hsp]at hpd;generalize wv p k a=pr at *;generalize kF p (k:Int) a=tt at *;obtain⟨t,e⟩:=tt;dsimp only at hpr ht hok;simp[e1,e6,e38,e39,show(k:Int)<(NG p).length by omega];refine qFC ht ?_;rintro v ⟨H5,T5⟩ ⟨rfl,hk5⟩;dsimp only at hk5;have f1:=hk5.2 _ _ d1 (by simp);have f1l:=(qBa.1 f1).1;by_cases he0:e=0
     case neg=>
      rw[if_pos he0]at hpr;simp[-getElem?_pos,e1,e4,e6,he0,f1,f1l];exact out _ _ 0 0 _ hpr (hk4.trans hk5)
     subst he0;rw[if_neg (by simp)]at hpr;obtain⟨g0,g1,-,n1,n2⟩:=hok rfl;obtain⟨t,rfl⟩:=qBw (by omega:0<=t);rw[qBF]at hpr;unfold lim at n2 hpl;have hso5:=hso4.keep hk5 (by simp) (by simp) (by simp);have hmk:=qp2 pr t (by omega) (by omega) (by omega);have hmf:=qsi (a:=pr) (b:=t) (by omega) (by omega) (by omega);generalize kz pr t=mk at *;obtain⟨x,y⟩:=mk;dsimp only at hpr hmk hmf;have hml:=qyA n dd x y hfr.nl hfr.dl hfr.pos hfr.cop hmf.nl hmf.dl hmf.pos hmf.cop;have hmo:=qve hfr hmf;have hme:=qyz n dd x y;generalize kN n dd x y=mm at *;obtain⟨u,w,z⟩:=mm;dsimp only at hpr hml hmo hme;simp[e1,e6,e39];refine qFC (hpd _ _ hso5) ?_;rintro v ⟨H6,T6⟩ ⟨rfl,hk6⟩;dsimp only at hk6;have hkk6:=(hk4.trans hk5).trans hk6;have g1':=hk6.2 _ _ f1 (by simp);have g8:=hk6.2 _ _ (hk5.2 _ _ d8 (by simp)) (by simp);have g1l:=(qBa.1 g1').1;have g8l:=(qBa.1 g8).1;have g8a:=qd g8;have g1a:=qd g1';simp[e39];refine qFz hmk rfl ?_;simp[e8,g8a];refine qFz hml rfl ?_;have hne:H3.length≠H.length+1:=(by have:=hk3.1;omega);have q1:∀X Y,((H6++[X]).set H3.length Y)[H.length+1]?=some (.cells [.int .i64 0,.int .i64 0]):=fun X Y=>by rw[qBd hne];exact g1a _
     have hl3:∀X:Blk,H3.length<(H6++[X]).length:=fun X=>by simp;omega
     have hl1:∀X:Blk,H.length+1<(H6++[X]).length:=fun X=>by simp;omega
     have hkx:∀X Y,KpL [] H ((H6++[X]).set H3.length Y):=fun X Y=>KpL.setF (hkk6.trans qF7) (by have:=hkH3.1;omega)
     by_cases hz:z=0
     . subst hz;rw[if_neg (by simp)]at hpr;simp[e8,e39,g8a,hwk];have hlt3:=(hso2.keep hk3 (by simp) (by simp) (by simp)).lt;have hso7:SpOk s ((H6++[Blk.cells [.int .i64 x,.int .i64 y]]).set H3.length (Blk.cells [.int .i64 u,.int .i64 w])):=hso5.keep (bs:=[H3.length]) (qF6 (hk6.sub (by simp)) (qF6 qF7 (qF8 (by simp)))) (by simp;omega) (by simp;omega) (by simp;omega);exact hR' _ _ ⟨by simp[e1],by simp[e4],by simp[e6],by simp[e8],by simp[e38],by simp,hkx _ _,hso7,q1 _ _,u,w,qBg (hl3 _),hmo rfl,hpr⟩
     rw[if_pos hz]at hpr;have:=hme hz;subst this;have q2:∀X Y Z,(((H6++[X]).set H3.length Y).set (H.length+1) Z)[H.length+1]?=some Z:=fun X Y Z=>qBg (by rw[qCD];exact hl1 X)
     simp[e4,e8,g8a,q1,q2];exact out _ _ 0 0 _ hpr (hkx _ _)
   rintro ev ⟨H4,T4⟩ ⟨e1,e4,e6,e8,e38,e39,hk4,hso4,d1,n,dd,d8,hfr,hpr⟩;dsimp only at hk4 hso4 d1 d8;have d1l:=(qBa.1 d1).1;have:res=(n,dd,0):=by rw[hpr,qB9];rfl
   simp[-getElem?_pos,e4,e8,e38,e39,d8,d1,d1l];exact out _ _ _ _ _ this hk4
def qqK(p)(h:RnH p)(a)(haf:Fits a):Pure prog GG 20 [.agg (qu p),.sl 1 (a.map qh) .none] (.tup [.agg [.int .i64 ((W6 p a).1:Nat),.int .i64 ((W6 p a).2.1:Nat)],.int .i64 (W6 p a).2.2]):=by
 refine Pure.ofA (qtz p h a haf [] []) ?_;rintro v U' ⟨rfl,-⟩;rw[qs (by simp)];exact⟨by simp,qFG _⟩
def vC:Ex:=.mk 17 0 [] [wS [97],wS [98]]
def p2(b:Bool):Problem:={vars:=[⟨[97],2,1,0⟩,⟨[98],2,1,0⟩],hard:=[vC],soft:=[],dists:=[],groups:=if b then [[0],[1]] else [[0,1]]}
def qaq(b):qg (p2 b)=0:=by
 have hv:wq [97]=true:=by unfold wq;rw[show z8 [97]=true by kernel_rfl];rfl
 have hv2:wq [98]=true:=by unfold wq;rw[show z8 [98]=true by kernel_rfl];rfl
 have hE:j5 ⟨[97],2,1,0⟩=0:=by
  unfold j5;rw[hv];simp
 have hE2:j5 ⟨[98],2,1,0⟩=0:=by
  unfold j5;rw[hv2];simp
 have hg:yi (p2 b).vars (p2 b).groups:=by
  cases b
  . refine⟨by simp[p2],by simp[p2,yQ],by simp[p2],fun i hi _=>?_⟩;simp[p2]at hi⊢;omega
  refine⟨by simp[p2],by simp[p2,yQ],by simp[p2],fun i hi _=>?_⟩;simp[p2]at hi⊢;omega
 unfold qg;have h1:jj (p2 b).vars=0:=by
  unfold jj;simp[p2,qU,hE,hE2,qqq,Qy,Qr,WX,show wk [97]=none from KY (by decide),show wk [98]=none from KY (by decide),yG];intro x hx;have:x=0\/x=1:=by omega
  rcases this with rfl|rfl<;>rfl
 have h3:qU (zy (p2 b).vars) ((p2 b).hard++(p2 b).soft)=0:=by
  show qU (zy (p2 b).vars) [vC]=0;simp[qU,show zy (p2 b).vars vC=0 by kernel_rfl]
 rw[h1,h3];unfold zH;rw[if_pos hg];simp[p2,qU,yC]
def vo(b):qm (p2 b)=([vC],0):=by
 have:=qhK (qaq b) rfl rfl (by cases b<;>kernel_rfl);exact this
def quC:yy (p2 true)=(6,0):=by
 unfold yy;rw[vo]
 kernel_rfl
def quw:jX (p2 true) 1 [0,0]=(3,0):=by
 unfold jX;rw[qpD,vo]
 kernel_rfl
def qv6:wQ (p2 false) 0 [0,0] 5=([2,3],0):=by
 unfold wQ jX;rw[qpD,qlD,vo]
 kernel_rfl
def qgA{b a}(h:jB (yp (p2 b).vars a) vC≠0)(ha:qB (p2 b).vars a=true):([vC]:List Ex).all (ko (p2 b) a)=true:=by
 simp only[qCz,qFp,qDd];exact qgP (qaq b) h ha
def qes{p R}(h:(qm p).1=R)(a gi rest n d):qct p a (gi::rest) n d =
 if(Yr p R gi a).2≠0 then(0,0,(Yr p R gi a).2)
 else if(kN n d (kz (wv p gi a) (Yr p R gi a).1.toNat).1 (kz (wv p gi a) (Yr p R gi a).1.toNat).2).2.2≠0 then(0,0,3)
 else qct p a rest (kN n d (kz (wv p gi a) (Yr p R gi a).1.toNat).1 (kz (wv p gi a) (Yr p R gi a).1.toNat).2).1 (kN n d (kz (wv p gi a) (Yr p R gi a).1.toNat).1 (kz (wv p gi a) (Yr p R gi a).1.toNat).2).2.1:=by
 subst h;rfl
def qrJ:W6 (p2 true) [0,1]=(1,9,0):=by
 have hr:(qm (p2 true)).1=[vC]:=by rw[vo]
 unfold W6;rw[vo,if_neg (by simp),if_neg (by rw[show qB (p2 true).vars [0,1]=true by kernel_rfl];simp),if_neg (by rw[qgA (by rw[show jB (yp (p2 true).vars [0,1]) vC=1 by kernel_rfl];decide) (by kernel_rfl)];simp)];show qct (p2 true) [0,1] [0,1] 1 1=_;rw[qes hr,show Yr (p2 true) [vC] ((0:Nat):Int) [0,1]=(3,0) by kernel_rfl,if_neg (by simp),show((3:Int),(0:Int)).1.toNat=3 from rfl,show kN 1 1 (kz (wv (p2 true) 0 [0,1]) 3).1 (kz (wv (p2 true) 0 [0,1]) 3).2=(1,3,0) by kernel_rfl,if_neg (by simp),qes hr,show Yr (p2 true) [vC] ((1:Nat):Int) [0,1]=(3,0) by kernel_rfl,if_neg (by simp),show((3:Int),(0:Int)).1.toNat=3 from rfl,show kN 1 3 (kz (wv (p2 true) 1 [0,1]) 3).1 (kz (wv (p2 true) 1 [0,1]) 3).2=(1,9,0) by kernel_rfl,if_neg (by simp)];rfl
def qnm:W6 (p2 false) [2,3]=(1,6,0):=by
 have h1:Yr (p2 false) [vC] ((0:Nat):Int) [2,3]=(6,0):=by kernel_rfl
 have hr:(qm (p2 false)).1=[vC]:=by rw[vo]
 have m1:kN 1 1 (kz (wv (p2 false) 0 [2,3]) 6).1 (kz (wv (p2 false) 0 [2,3]) 6).2=(1,6,0):=by kernel_rfl
 unfold W6;rw[vo,if_neg (by simp),if_neg (by rw[show qB (p2 false).vars [2,3]=true by kernel_rfl];simp),if_neg (by rw[qgA (by rw[show jB (yp (p2 false).vars [2,3]) vC=1 by kernel_rfl];decide) (by kernel_rfl)];simp)];show qct (p2 false) [2,3] [0] 1 1=_;rw[qes hr,h1,if_neg (by simp),show((6:Int),(0:Int)).1.toNat=6 from rfl,m1,if_neg (by simp)];rfl
def qpV(b):Pure prog GG 19 [.bool b] (.agg (qu (p2 b))):=by
 refine qFx o0 false qX func19 rfl (by kernel_rfl) ?_;cases b
 . simp[zt,zX,qM,qe,ql];simp[p2,vC,wS,qp,yq,zm,Leq,qG,qA,qh,AV.atom]
 simp[zt,zX,qM,qe,ql];simp[p2,vC,wS,qp,yq,zm,Leq,qG,qA,qh,AV.atom]
def qco(b):RnH (p2 b):=by
 refine⟨⟨by simp[p2],by simp[p2,Fits],by simp[p2],by simp[p2],?_,by simp[p2,Fits],by simp[p2],by cases b<;>simp[p2,Fits],by cases b<;>simp[p2,Fits]⟩,by simp[p2],?_,by simp[p2],by simp[p2],by simp[p2]⟩
 . intro e he;have:e=vC:=by simpa[p2] using he
   subst this;refine⟨?_,?_,?_⟩
   . intro x hx;have:x=vC\/x=wS [97]\/x=wS [98]:=by simpa[vC,pre,wD,wS] using hx
     rcases this with rfl|rfl|rfl<;>simp[vC,wS,Fits,Ex.args,Ex.name]
   . decide
   decide
 unfold qJ;rw[if_neg (by simp[qaq])];cases b<;>decide
def qiU:Pure prog GG 6 [] (.bool true):=by
 refine okzP func6 rfl rfl ?_;have hl:∀b,qg (p2 b)=0->(NG (p2 b)).flatten.length<=12:=fun b _=>by cases b<;>decide
 have h1:=qfo (p2 true) (qco true);have h2:=qtw (p2 true) (qco true) 1 [0,0];have h3:=qqK (p2 true) (qco true) [0,1] (by simp[Fits]);have h4:=qqK (p2 false) (qco false) [2,3] (by simp[Fits]);have h5:=qpw (p2 false) (qco false) (hl false) 0 [0,0] 5;rw[quC]at h1;rw[quw]at h2;rw[qrJ]at h3;rw[qnm]at h4;rw[qv6]at h5;have q1:=qpV true;have q2:=qpV false;simp only[qu,qBn,qBN,qh]at h1 h2 h3 h4 h5 q1 q2;simp;refine qFz q1 rfl ?_;simp;refine qFz h1 rfl ?_;simp;refine qFz q1 rfl ?_;simp[qe,ql];refine qb.less h2 (by simp) (by simp[zm,Leq]) ?_;simp;refine qFz q1 rfl ?_;simp[qe,ql];refine qb.less h3 (by simp) (by simp[zm,Leq]) ?_;simp;refine qFz q2 rfl ?_;simp[qe,ql];refine qb.less h4 (by simp) (by simp[zm,Leq]) ?_;simp;refine qFz q2 rfl ?_;simp[qe,ql];refine qb.less h5 (by simp) (by simp[zm,Leq]) ?_;simp[qql]
noncomputable def qoA(p:Problem)(b:Int):Bool:=jY p&&decide (kw p.vars (qJ p)<=b)
def qzc(p)(h:VM p)(b):Pure prog GG 5 [.agg (qu p),.int .i64 b] (.bool (qoA p b)):=by
 refine okzP func5 rfl rfl ?_;have hs:=qrh p h.h.exprs;obtain⟨res,hres⟩:∃res,res=qoA p b:=⟨_,rfl⟩;rw[<- hres];unfold qoA at hres;simp only[qu]at hs;simp;refine qFz hs (by simp) ?_
 cases hsm:jY p with
 | false=>
  rw[hsm,qDo]at hres;subst hres;simp
 | true=>
  have hb:=qv9 p (h.h.small hsm);rw[hsm,qCs]at hres;simp only[qu]at hb;simp;refine qFz hb (by simp) ?_;simp;exact hres.symm
def qla{p}(h:VM p){b}(hb:b<=18)(hf:qoA p b=true):RnH p/\VP p:=by
 unfold qoA at hf;simp only[qBf,decide_eq_true_eq]at hf;have hvp:=h.h.small hf.1;have hs:=hf.1;simp only[jY,qBf,qCA,qDy,decide_eq_false_iff_not,qBk,decide_eq_true_eq]at hs;obtain⟨⟨⟨⟨⟨⟨⟨⟨a1,a2⟩,a3⟩,a4⟩,a5⟩,b1⟩,b2⟩,b3⟩,b4⟩:=hs;exact⟨⟨hvp.q,by omega,by omega,by omega,by omega,fun d hd=>by have:=b3 d hd;omega⟩,hvp⟩
def qhd{ds v x}:∀{acc n:Int},0<=acc->acc<=1099511627776->Ka ds v x (some acc)=some n->0<=n/\n<=1099511627776:=by
 induction ds with
 |nil=>intro acc n h0 h1 h;cases h;exact⟨h0,h1⟩
 | cons d ds ih=>
  intro acc n h0 h1 h;change Ka ds v x (qiL v x acc d)=some n at h
  cases hw:qiL v x acc d with
  |none=>rw[hw,ZH]at h;cases h
  | some m=>
   rw[hw]at h;have:=Vg h0 h1 hw;exact ih this.1 this.2 h
def qhe{ds}{a:List Int}:∀{g:List Int}{acc n:Int},0<=acc->acc<=1099511627776->g.foldl (fun s v=>Ka ds v (a.getD v.toNat 0) s) (some acc)=some n->0<=n/\n<=1099511627776:=by
 intro g
 induction g with
 |nil=>intro acc n h0 h1 h;cases h;exact⟨h0,h1⟩
 | cons v g ih=>
  intro acc n h0 h1 h;rw[qBP]at h
  cases hw:Ka ds v (a.getD v.toNat 0) (some acc) with
  |none=>rw[hw,ZI]at h;cases h
  | some m=>
   rw[hw]at h;have:=qhd h0 h1 hw;exact ih this.1 this.2 h
def Vf{ds a g n}(h:qmu ds a g=some n):0<=n/\n<=1099511627776:=qhe (by omega) (by omega) h
def qdU(ds:List Dist)(g:List Int):List (List Int)->List Int->Int->Option (List Int×Int)
 |[],out,sum=>some (out,sum)
 | x::r,out,sum=>match qmu ds x g with
  |none=>none
  |some w=>if 1099511627776-w<sum then none else qdU ds g r (out++[w]) (sum+w)
def qpx(o:Option (List Int×Int)):List Int×Int×Bool:=match o with
 |some q=>(q.1,q.2,true)
 |none=>([],0,false)
def qhf(p:Problem)(i:Nat)(g:List Int)(l:List (List Int))(hgi:p.groups[i]?=some g)(hgl:g.length<=1000000)(hgv:∀x∈l,∀v∈g,0<=v/\v<(x.length:Nat))(hd:p.dists.length<=10000)(hwl:∀d∈p.dists,d.weights.length<=1000)(hl:l.length<=1000000):
 Pure prog GG 47 [.agg (qu p),.sl 1 (l.map qA) .none,.int .i64 i] (.tup [.sl 1 ((qpx (qdU p.dists g l [] 0)).1.map qh) .none,.int .i64 (qpx (qdU p.dists g l [] 0)).2.1,.bool (qpx (qdU p.dists g l [] 0)).2.2]):=by
 refine okzP func47 rfl rfl ?_;obtain⟨RES,hRES⟩:∃RES,RES=qdU p.dists g l [] 0:=⟨_,rfl⟩;rw[<- hRES];have hw94:=fun x (hx:x∈l)=>qmv p i g x hgi hgl (hgv x hx) hd hwl
 simp only[qu]at hw94;simp;refine qFP l (fun d ev U=>∃out sum,ev 1=.sl 1 (l.map qA) .none/\ev 2=.int .i64 i/\ev 3=.ptr 0 0/\ev 9=ZF 1 qh 0 out/\ev 10=.int .i64 sum/\ev 11=.int .i64 d.length/\U=⟨[.cells (qu p)],ky [] out⟩/\0<=sum/\sum<=1099511627776/\out.length=d.length/\RES=qdU p.dists g (l.drop d.length) out sum) ?_ ?_ ?_
 . exact⟨[],0,by simp,by simp,by simp,by simp,by simp,by simp,by simp[qu],by omega,by omega,rfl,by simpa using hRES⟩
 . rintro d x rest ev U R hR hdl hx hlt ⟨out,sum,e1,e2,e3,e9,e10,e11,rfl,s0,s1,ho,hr⟩;have hdw:=wr (n:=(d.length:Int)+1) (by omega) (by omega);have hlt':(d.length:Int)<l.length:=(by omega);have hw:=hw94 x (qBb hx);have hdr:l.drop d.length=x::l.drop (d.length+1):=by
    obtain⟨h1,h2⟩:=qBa.1 hx;rw[qBx h1,h2]
   rw[hdr]at hr;unfold qdU at hr;have hrange:=fun n h=>Vf (ds:=p.dists) (a:=x) (g:=g) (n:=n) h
   generalize qmu p.dists x g=o at *;have happ:∀(H:List Blk) (s:List Int),s.length<2^30->∀n,qr (Dof prog) ⟨H,ky [] s⟩ 28 (ZF 1 qh 0 s) (.sl 1 [[.int .i64 n]] .tight)=some (ZF 1 qh 0 (s++[n]),⟨H,ky [] (s++[n])⟩):=fun H s hs n=>
    wn (D:=Dof prog) (sz:=1) (T:=[]) (H:=H) (m:=[n]) (en:=qh) D28 rfl D3 rfl (by decide) rfl (by decide) (by simp only[qBK];omega) 1 (.inl rfl)
   cases o with
   | none=>
    simp[e1,e2,e3,e11,hlt',hx,qu,qA];refine qFz (G:=zh GG) hw (by simp) ?_;simp[qpA,unA,hr,qpx]
   | some w=>
    obtain⟨w0,w1⟩:=hrange w rfl;have hws:=wr (n:=(1099511627776:Int)-w) (by omega) (by omega);dsimp only at hr;by_cases hbig:1099511627776-w<sum
    . rw[if_pos hbig]at hr;simp[e1,e2,e3,e11,hlt',hx,qu,qA];refine qFz (G:=zh GG) hw (by simp) ?_;simp[qpA,unA,e10,hws,hbig,hr,qpx]
    rw[if_neg hbig]at hr;have hwa:=wr (n:=sum+w) (by omega) (by omega);simp[e1,e2,e3,e11,hlt',hx,qu,qA];refine qFz (G:=zh GG) hw (by simp) ?_;simp[qpA,unA,e9,e10,e11,hws,hbig,qe,ql,happ _ _ (show out.length<2^30 by omega),hwa,hdw];exact hR _ _ ⟨out++[w],sum+w,by simp[e1],by simp[e2],by simp[e3],by simp,by simp,by simp,by simp[qu],by omega,by omega,by simp[ho],by rw[qBe];exact hr⟩
 rintro ev U ⟨out,sum,e1,e2,e3,e9,e10,e11,rfl,s0,s1,ho,hr⟩;have:RES=some (out,sum):=by rw[hr,qCg];rfl
 subst this;simp[-fin,-k0,-vU,e1,e9,e10,e11,qpx]
noncomputable def y8(p:Problem)(gi:Int)(a:List Int):List (List Int)×List Int×Int×Int :=
 if(Jw p).2≠0 then([],[],0,(Jw p).2)
 else if gi<0\/(p.groups.length:Int)<=gi\/(decide (qg p=0)&&qB p.vars a)=false then([],[],0,1)
 else if jg p.groups gi.toNat (p.groups.getD gi.toNat []) a (Jw p).1=[] then([],[],0,11)
 else match qdU p.dists (p.groups.getD gi.toNat []) (jg p.groups gi.toNat (p.groups.getD gi.toNat []) a (Jw p).1) [] 0 with
  |none=>([],[],0,3)
  |some q=>(jg p.groups gi.toNat (p.groups.getD gi.toNat []) a (Jw p).1,q.1,q.2,0)
def Yk{G i g a v l}(h:v∈jg G i g a l):v∈l:=by
 have:∀(l out:List (List Int)),v∈l.foldl (vR G i g a) out->v∈out\/v∈l:=by
  intro l
  induction l with
  |nil=>intro out h;exact .inl h
  | cons x l ih=>
   intro out h;rw[qBP]at h;rcases ih _ h with h|h
   . rcases qcc h with h|h
     . exact .inl h
     . exact .inr (by simp[h])
   exact .inr (by simp[h])
 rcases this l [] h with h|h
 . cases h
 exact h
def Yl{G i g a l}:(jg G i g a l).length<=l.length:=by
 have:∀(l out:List (List Int)),(l.foldl (vR G i g a) out).length<=out.length+l.length:=by
  intro l
  induction l with
  |nil=>intro out;simp
  | cons x l ih=>
   intro out;rw[qBP,qBr];have h1:=ih (vR G i g a out x);have h2:=qcd (G:=G) (i:=i) (g:=g) (a:=a) (x:=x) (out:=out);omega
 have:=this l [];unfold jg;simpa using this
def VC(p)(h:RfH p)(hvp:VP p)(hr:RnH p)(gi a)(haf:Fits a):
 Pure prog GG 23 [.agg (qu p),.int .i64 gi,.sl 1 (a.map qh) .none] (.tup [.sl 1 ((y8 p gi a).1.map qA) .none,.sl 1 ((y8 p gi a).2.1.map qh) .none,.int .i64 (y8 p gi a).2.2.1,.int .i64 (y8 p gi a).2.2.2]):=by
 refine okzP func23 rfl rfl ?_;obtain⟨RES,hRES⟩:∃RES,RES=y8 p gi a:=⟨_,rfl⟩;rw[<- hRES];unfold y8 at hRES;have ha:=qzl p h hr.bits;have hass:=qhQ p a hvp haf;simp only[qu]at ha hass;by_cases he:(Jw p).2=0
 case neg=>
  rw[if_pos he]at hRES;simp;refine qFz (G:=zh GG) ha (by simp) ?_;simp[he,hRES]
 rw[if_neg (fun e=>e he)]at hRES;rw[he]at ha;by_cases h0:gi<0
 . rw[if_pos (.inl h0)]at hRES;simp;refine qFz (G:=zh GG) ha (by simp) ?_;simp[h0,hRES]
 by_cases h1:(p.groups.length:Int)<=gi
 . rw[if_pos (.inr (.inl h1))]at hRES;simp;refine qFz (G:=zh GG) ha (by simp) ?_;simp[h0,h1,hRES]
 cases hA:(decide (qg p=0)&&qB p.vars a) with
 | false=>
  rw[if_pos (.inr (.inr hA))]at hRES;rw[hA]at hass;simp;refine qFz (G:=zh GG) ha (by simp) ?_;simp[h0,h1];refine qFz (G:=zh GG) hass (by simp) ?_;simp[unA,hRES]
 | true=>
  rw[hA]at hass;have hA':=hA;rw[qBf,decide_eq_true_eq]at hA';obtain⟨hv,has⟩:=hA';rw[if_neg (by rw[hA];simp;omega)]at hRES;obtain⟨g,rfl⟩:=qBw (by omega:0<=gi);rw[qBF]at hRES;obtain⟨G,hG⟩:∃G,p.groups[g]?=some G:=⟨_,qBc (by omega)⟩;rw[show p.groups.getD g []=G by rw[qBi,hG];rfl]at hRES;have hal:=(vg hv has).1;have hvl:=h.vq.vars;have hGm:=qBb hG;have hgall:∀g∈p.groups,g.length<=1000000/\∀v∈g,0<=v/\v<(p.vars.length:Nat):=fun g' hg'=>by
   have hl:=QF hv hvl;have h1:=hl.1 (g'.map Int.toNat) (qBA.2 ⟨g',hg',rfl⟩);rw[qBM]at h1;refine⟨by omega,fun v hv'=>?_⟩;obtain⟨n,w,e1,e2,_⟩:=Ze ((jz hv).2.1 _ (qBH.2 ⟨g',hg',hv'⟩));have:=(qBa.1 e2).1;omega
  have hLl:∀x∈(Jw p).1,x.length=p.vars.length:=fun x hx=>by
   unfold Jw at hx;split at hx
   . exact(yV.1 (qCm.1 hx).1).len
   cases hx
  have hLn:(Jw p).1.length<=1000000:=by
   have h2:=hr.all hv;unfold Jw;split
   . exact qB6 (qDg _ _) (by omega)
   simp
  have hng:p.groups.length<=10000000:=by
   have:=(QF hv hvl).2;rw[NG,qBM]at this;omega
  have hch:=qix p (Jw p).1 g G a hG hLn hng (fun g' hg'=>by rw[hal];exact hgall g' hg') (fun x hx=>by rw[hal];exact hLl x hx);have hwt:=qhf p g G (jg p.groups g G a (Jw p).1) hG (hgall G hGm).1 (fun x hx v hv'=>by rw[(fun x hx=>hLl x (Yk hx)) x hx];exact(hgall G hGm).2 v hv') h.dists hr.wl (qB6 Yl hLn);simp only[qu]at hch hwt;generalize jg p.groups g G a (Jw p).1=C at *;generalize (Jw p).1=L at *;simp;refine qFz (G:=zh GG) ha (by simp) ?_;simp[h0,h1];refine qFz (G:=zh GG) hass (by simp) ?_;simp[unA];refine qFz (G:=zh GG) hch (by simp) ?_;by_cases hC:C=[]
  . subst hC;rw[if_pos rfl]at hRES;simp[hRES]
    try simp[Leq,zm]
  rw[if_neg hC]at hRES;simp[hC];refine qFz (G:=zh GG) hwt (by simp) ?_;generalize qdU p.dists G C [] 0=o at *
  cases o with
  | none=>
   simp[qpx,unA,hRES]
   try simp[Leq,zm]
  | some q=>
   simp[qpx,unA,hRES]
def qra(p)(h:RfH p)(hvp:VP p)(hr:RnH p)(gi a)(haf:Fits a):
 Pure prog GG 9 [.agg (qu p),.int .i64 gi,.sl 1 (a.map qh) .none] (.tup [.int .i64 (y8 p gi a).2.2.1,.int .i64 (y8 p gi a).2.2.2]):=by
 refine okzP func9 rfl rfl ?_;have hp:=VC p h hvp hr gi a haf;generalize y8 p gi a=q at *;simp only[qu]at hp;simp;refine qFz (G:=zh GG) hp (by simp) ?_;simp
def atW:List Int->Int->Nat
 |[],_=>0
 |w::r,k=>if k<w then 0 else atW r (k-w)+1
def qdN(c:List Int)(G:List Int)(a:List Int):List Int:=G.foldl (fun o v=>o.set v.toNat (c.getD v.toNat 0)) a
noncomputable def vK(p:Problem)(gi:Int)(a:List Int)(k:Int):List Int×Int :=
 if(y8 p gi a).2.2.2≠0 then([],(y8 p gi a).2.2.2)
 else if k<0\/(y8 p gi a).2.2.1<=k then([],12)
 else(qdN ((y8 p gi a).1.getD (atW (y8 p gi a).2.1 k) []) (p.groups.getD gi.toNat []) a,0)
def qfq{ds g}:∀{l:List (List Int)}{out:List Int}{sum:Int}{q:List Int×Int},qdU ds g l out sum=some q->q.1.length=out.length+l.length/\q.2-q.1.sum=sum-out.sum/\q.2<=max sum 1099511627776/\((∀w∈out,0<=w/\w<=1099511627776)->∀w∈q.1,0<=w/\w<=1099511627776)
 | [],out,sum,q,h=>by
  cases h;exact⟨by simp,by dsimp only,by dsimp only;omega,fun h=>h⟩
 | x::r,out,sum,q,h=>by
  unfold qdU at h
  cases hw:qmu ds x g with
  |none=>rw[hw]at h;cases h
  | some w=>
   rw[hw]at h;dsimp only at h;have hr:=Vf hw;split at h
   . cases h
   obtain⟨h1,h2,h3,h4⟩:=qfq h;refine⟨by rw[h1];simp;omega,by rw[h2,qE2];simp;omega,by omega,fun ho=>h4 fun w' hw'=>?_⟩;rcases qBp.1 hw' with hw'|hw'
   . exact ho _ hw'
   have:w'=w:=by simpa using hw'
   rw[this];exact hr
structure PrepOk(p:Problem)(gi:Nat)(G a:List Int)(C:List (List Int))(W:List Int)(s:Int):Prop where
 v:qg p=0
 g:p.groups[gi]?=some G
 ass:qB p.vars a=true
 all:∀x∈C,x.length=p.vars.length
 len:W.length=C.length
 sum:s=W.sum
 le:s<=1099511627776
 rng:∀w∈W,0<=w/\w<=1099511627776
def qrK{p gi a}(h:(y8 p gi a).2.2.2=0):0<=gi/\∃G,PrepOk p gi.toNat G a (y8 p gi a).1 (y8 p gi a).2.1 (y8 p gi a).2.2.1/\p.groups.getD gi.toNat []=G:=by
 unfold y8 at h⊢;split at h
 . rename_i h1;exact absurd h h1
 rename_i h1;rw[if_neg h1];split at h
 . cases h
 rename_i h2;rw[if_neg h2];split at h
 . cases h
 rename_i h3;rw[if_neg h3];have g1:gi.toNat<p.groups.length:=by
  have:¬(p.groups.length:Int)<=gi:=fun e=>h2 (.inr (.inl e))
  omega
 have hA:(decide (qg p=0)&&qB p.vars a)=true:=by
  cases hA:(decide (qg p=0)&&qB p.vars a) with
  |true=>rfl
  |false=>exact absurd (.inr (.inr hA)) h2
 rw[qBf,decide_eq_true_eq]at hA;have hG:=qBc g1;refine⟨(qFk.1 fun e=>h2 (.inl e)),p.groups[gi.toNat],?_,by rw[qBi,hG];rfl⟩
 cases hw:qdU p.dists (p.groups.getD gi.toNat []) (jg p.groups gi.toNat (p.groups.getD gi.toNat []) a (Jw p).1) [] 0 with
 |none=>rw[hw]at h;cases h
 | some q=>
  obtain⟨w1,w2,w3,w4⟩:=qfq hw;refine⟨hA.1,hG,hA.2,fun x hx=>?_,by rw[w1];simp,by simp at w2;dsimp only;omega,by dsimp only;omega,w4 (by simp)⟩;have hx:=Yk hx;unfold Jw at hx;split at hx
  . exact(yV.1 (qCm.1 hx).1).len
  cases hx
def qqx:∀{W:List Int}{k:Int},k<W.sum->0<=k->atW W k<W.length
 |[],k,h,h0=>by simp at h;omega
 | w::r,k,h,h0=>by
  unfold atW;rw[qDe]at h;split
  . simp
  have:=qqx (W:=r) (k:=k-w) (by omega) (by omega);rw[qBr];omega
def YO(c):∀(G a),(qdN c G a).length=a.length
 |[],a=>rfl
 | v::G,a=>by
  show(qdN c G (a.set v.toNat (c.getD v.toNat 0))).length=_;rw[YO c G,qCD]
def qnn{p}(hr:RnH p){gi a}:(y8 p gi a).1.length<=1000000:=by
 unfold y8;split
 . simp
 split
 . simp
 rename_i h2;split
 . simp
 split
 . simp
 refine qB6 Yl ?_;unfold Jw;split
 . rename_i he;have hv:=(Zr hr.q hr.dl hr.sl he).1;exact qB6 (qDg _ _) (by have:=hr.all hv;omega)
 simp
def qjC(c d v a):qdN c (d++[v]) a=(qdN c d a).set v.toNat (c.getD v.toNat 0):=by
 unfold qdN;rw[qCe];rfl
def qo0(p)(h:RfH p)(hvp:VP p)(hr:RnH p)(gi a)(haf:Fits a)(k):
 Pure prog GG 11 [.agg (qu p),.int .i64 gi,.sl 1 (a.map qh) .none,.int .i64 k] (.tup [.sl 1 ((vK p gi a k).1.map qh) .none,.int .i64 (vK p gi a k).2]):=by
 refine qFx oM true qX func11 rfl (by kernel_rfl) ?_;have hp:=VC p h hvp hr gi a haf;obtain⟨RES,hRES⟩:∃RES,RES=vK p gi a k:=⟨_,rfl⟩;rw[<- hRES];unfold vK at hRES;have hok:=qrK (p:=p) (gi:=gi) (a:=a);have hCn:=qnn hr (gi:=gi) (a:=a);generalize y8 p gi a=q at *;obtain⟨C,W,s,e⟩:=q;dsimp only at hp hRES hok hCn;simp only[qu]at hp;by_cases he:e=0
 case neg=>
  rw[if_pos he]at hRES;simp;refine qFz (G:=zh GG) hp (by simp) ?_;simp[he,hRES];rw[qs (by simp)];exact⟨by simp,by simp[Leq,zm]⟩
 subst he;rw[if_neg (fun e=>e rfl)]at hRES;by_cases hk:k<0\/s<=k
 . rw[if_pos hk]at hRES;simp;refine qFz (G:=zh GG) hp (by simp) ?_;rcases hk with hk|hk
   . simp[hk,hRES];rw[qs (by simp)];exact⟨by simp,by simp[Leq,zm]⟩
   by_cases hk0:k<0
   . simp[hk0,hRES];rw[qs (by simp)];exact⟨by simp,by simp[Leq,zm]⟩
   simp[hk0,hk,hRES];rw[qs (by simp)];exact⟨by simp,by simp[Leq,zm]⟩
 rw[if_neg hk]at hRES;obtain⟨g0,G,⟨hv,hG,hass,hCl,hWl,hs,hsle,hrng⟩,hGd⟩:=hok rfl;rw[hGd]at hRES;obtain⟨g,rfl⟩:=qBw g0;rw[qBF]at hG;have hal:=(vg hv hass).1;have hvl:=h.vq.vars;have hGm:=qBb hG;have hGin:∀v∈G,0<=v/\v<(p.vars.length:Nat):=fun v hv'=>by
  obtain⟨n,w,e1,e2,_⟩:=Ze ((jz hv).2.1 _ (qBH.2 ⟨G,hGm,hv'⟩));have:=(qBa.1 e2).1;omega
 have hGl:G.length<=1000:=by
  have h1:=(QF hv hvl).1 (G.map Int.toNat) (qBA.2 ⟨G,hGm,rfl⟩)
  rwa[qBM]at h1
 have ha0:a≠[]:=fun e=>by
  obtain⟨v,hv'⟩:=qEP G ((jz hv).1 G hGm);have:=hGin v hv';rw[e]at hal;simp at hal;omega
 have hat:=qqx (W:=W) (k:=k) (by omega) (by omega);obtain⟨AT,hAT⟩:∃AT,AT=atW W k:=⟨_,rfl⟩;rw[<- hAT]at hat hRES;obtain⟨c,hc⟩:∃c,C[AT]?=some c:=⟨_,qBc (by omega)⟩;have hcl:c.length=p.vars.length:=hCl c (qBb hc);rw[show C.getD AT []=c by rw[qBi,hc];rfl]at hRES;have hla:¬(a.length=0):=by have:=qBv.2 ha0;omega
 simp;refine qFz (G:=zh GG) hp (by simp) ?_;simp[show ¬k<0 from fun e=>hk (.inl e),show ¬s<=k from fun e=>hk (.inr e)];refine qFE (fun m ev U=>∃(at_:Nat) (rem:Int),m=W.length-at_/\at_<=W.length/\0<=rem/\rem<(W.drop at_).sum/\AT=at_+atW (W.drop at_) rem/\rem<=1099511627776/\ev 1=.int .i64 g/\ev 2=.sl 1 (a.map qh) .none/\ev 3=.int .i64 rem/\ev 4=.ptr 0 0/\ev 10=.sl 1 (C.map qA) .none/\ev 11=.sl 1 (W.map qh) .none/\ev 14=.int .i64 at_/\U=⟨[.cells (qu p)],[]⟩) W.length ?_ ?_
 . exact⟨0,k,rfl,by omega,by omega,by rw[qCq];omega,by rw[qCq,hAT];omega,by omega,by simp,by simp,by simp,by simp,by simp,by simp,by simp,by simp[qu]⟩
 rintro m ev U R hR ⟨i,rem,rfl,hi,r0,r1,hA2,r2,e1,e2,e3,e4,e10,e11,e14,rfl⟩;have hiW:i<W.length:=by
  apply Classical.byContradiction;intro hn;rw[qBS (by omega)]at r1;simp at r1;omega
 have hiW':(i:Int)<W.length:=by omega
 obtain⟨w,hw⟩:∃w,W[i]?=some w:=⟨_,qBc hiW⟩;have hdr:W.drop i=w::W.drop (i+1):=by
  obtain⟨h1,h2⟩:=qBa.1 hw;rw[qBx h1,h2]
 rw[hdr]at r1 hA2;rw[qDe]at r1;unfold atW at hA2;have hwr:=hrng w (qBb hw);by_cases hge:rem<w
 case neg=>
  rw[if_neg hge]at hA2;have hge':w<=rem:=by omega
  have hw1:=wr (n:=rem-w) (by omega) (by omega);have hw2:=wr (n:=(i:Int)+1) (by omega) (by omega);simp[e3,e11,e14,hw,hge',hw1,hw2];exact hR (W.length-(i+1)) _ _ (by omega) ⟨i+1,rem-w,rfl,by omega,by omega,by omega,by omega,by omega,by simp[e1],by simp[e2],by simp,by simp[e4],by simp[e10],by simp[e11],by simp⟩
 rw[if_pos hge,qCB]at hA2;subst hA2;simp[e2,e3,e11,e14,hw,show ¬w<=rem by omega,oM,zr,zY,qR,YM,hla,show a.length<=549755813888 by omega,ha0,qu];refine qFP G (fun d ev U=>ev 1=.int .i64 g/\ev 4=.ptr 0 0/\ev 10=.sl 1 (C.map qA) .none/\ev 14=.int .i64 AT/\ev 15=.ms 1 0 a.length 1/\ev 16=.int .i64 d.length/\∃T,U=⟨[.cells (qu p),.cells (zd (qdN c d a))],T⟩) ?_ ?_ ?_
 . refine⟨by simp[e1],by simp[e4],by simp[e10],by simp[e14],by simp,by simp,[],?_⟩;have:qdN c [] a=a:=rfl;rw[this,jQ,qCF];simp[qu]
 . rintro d v rest ev2 U R2 hR2 hdl hx hlt ⟨f1,f4,f10,f14,f15,f16,T,rfl⟩;have hdw:=wr (n:=(d.length:Int)+1) (by omega) (by omega);have hlt':(d.length:Int)<G.length:=(by omega);obtain⟨hv0,hv1⟩:=hGin v (qBb hx);obtain⟨n,rfl⟩:=qBw hv0;have hnc:n<c.length:=(by omega);have hna:n<a.length:=(by omega);have hna':(n:Int)<a.length:=(by omega);have hna1:n+1<=a.length:=hna;obtain⟨y,hy⟩:∃y,c[n]?=some y:=⟨_,qBc hnc⟩;have hsn:=qjC c d (n:Int) a;rw[qBF,show c.getD n 0=y by rw[qBi,hy];rfl]at hsn;have hsl:=YO c d a;have hset:∀(o:List Int),(zd o).set n (.int .i64 y)=zd (o.set n y):=fun o=>by simp[zd,qD7]
   have hgo:∀ev' U',ev' 1=.int .i64 g->ev' 4=.ptr 0 0->ev' 10=.sl 1 (C.map qA) .none->ev' 14=.int .i64 AT->ev' 15=.ms 1 0 a.length 1->ev' 16=.int .i64 ((d.length:Int)+1)->U'=⟨[.cells (qu p),.cells (zd ((qdN c d a).set n y))],T⟩->R2 ev' U':=fun ev' U' x1 x4 x10 x14 x15 x16 xs=>
    hR2 _ _ ⟨x1,x4,x10,x14,x15,by rw[x16,qBe,qBK];rfl,T,by rw[hsn];exact xs⟩
   generalize qdN c d a=o at *;simp[f1,f4,f10,f14,f15,f16,hG,hlt',hx,hc,hy,hna',hna1,hset,hsl,hdw,qu,qA,qQ];exact hgo _ _ (by simp[f1]) (by simp[f4]) (by simp[f10]) (by simp[f14]) (by simp[f15]) (by simp) (by simp[qu])
 rintro ev2 U ⟨f1,f4,f10,f14,f15,f16,T,rfl⟩;have hsl:=YO c G a;have hsn0:qdN c G a≠[]:=fun e=>by rw[e]at hsl;simp at hsl;omega
 simp[f1,f4,f15,f16,hG,qu,qA,hRES];have hrow:qg5 1 [.cells [AV.sl 4 (p.vars.map qG) .none,.sl 4 (p.hard.map qp) .none,.sl 4 (p.soft.map qp) .none,.sl 2 (p.dists.map zn) .none,.sl 1 (p.groups.map qA) .none],.cells (zd (qdN c G a))] (.ms 1 0 a.length 1) (qdN c G a):=.inr ⟨hsn0,by rw[hsl],rfl⟩;obtain⟨q1,q2,q3⟩:=hrow.frz 6;exact wJ q1 q2 q3
def ZC{p}(hv:qg p=0){a}(ha:a∈jM p.vars){i}(hi:i∈(NG p).flatten):∃x:Nat,a[i]?=some (x:Int)/\x<2^ji p i/\aN a i=x:=by
 obtain⟨v,hvi,hm⟩:=yg hv hi;obtain⟨x,h1,h2⟩:=kK (yV.1 ha) hvi;rw[if_neg hm]at h2;obtain⟨n,rfl⟩:=qBw h2.1;refine⟨n,h1,?_,by unfold aN;rw[qBi,h1];simp⟩;rw[(qpz hv hvi).1];unfold zP at h2;omega
def QD{vs a}(h:qB vs a=true):a∈jM vs:=by
 unfold qB at h;simp only[qBf,decide_eq_true_eq,qBk]at h;refine yV.2 (qke h.1 fun i v hvi=>?_);have hi:=(qBa.1 hvi).1;obtain⟨x,hx⟩:∃x,a[i]?=some x:=⟨_,qBc (by omega)⟩;have h1:=h.2 (v,x) (qBb (qCS.2 ⟨hvi,hx⟩));unfold zD at h1;simp only[qBf,decide_eq_true_eq,qDa,qCA,decide_eq_false_iff_not]at h1;refine⟨x,hx,?_⟩;by_cases hm:v.mode=0
 . rw[if_pos hm];exact h1.2.resolve_left fun h=>h hm
 rw[if_neg hm];have:((2^v.width.toNat:Nat):Int)=(2:Int)^v.width.toNat:=by simp
 unfold zP;exact⟨h1.1.1,by omega⟩
def qpt{p}(hv:qg p=0){gi i}(hgi:gi<(NG p).length)(hi:i∈((NG p).take gi).flatten):i∉(NG p).getD gi []:=fun h'=>by
 obtain⟨g,hg⟩:∃g,(NG p)[gi]?=some g:=⟨_,qBc hgi⟩;rw[show(NG p).getD gi []=g by rw[qBi,hg];rfl]at h';have hnf:=Jt hv;obtain⟨post,hpost⟩:=Js hg;rw[hpost]at hnf;exact(qCa.1 (qCa.1 hnf).1).2.2 i hi i h' rfl
def qmP{p g gi i}(h:g<=gi)(hi:i∈((NG p).take g).flatten):i∈((NG p).take gi).flatten:=by
 obtain⟨l,h1,h2⟩:=qBH.1 hi;exact qBH.2 ⟨l,(List.take_sublist_take_left h).subset h1,h2⟩
noncomputable def WW(p:Problem)(a:List Int)(g:Nat):Nat:=jc p (qm p).1 (fun _=>none) ((NG p).getD g []) (jU p a g)
def qgE{p}(hv:qg p=0):∀(k gi) (a) (r),gi+k=(NG p).length->EndA p a gi->(∀g<gi,WW p a g<lim)->(qbH p (List.range' gi k) a r).2.2=0->∀g<(NG p).length,WW p (qbH p (List.range' gi k) a r).1 g<lim
 | 0,gi,a,r,hk,h,ht,_=>by
  have:gi=(NG p).length:=by omega
  subst this;exact ht
 | k+1,gi,a,r,hk,h,ht,he=>by
  rw[qCx]at he⊢;unfold qbH at he⊢;split at he
  . exact absurd he (by assumption)
  rename_i h1;rw[if_neg h1];split at he
  . exact absurd he (by assumption)
  rename_i h2;rw[if_neg h2];obtain⟨t1,t2,t3,t4,t5⟩:=qd9 (qB2.1 h1);have hb:0<=(jR (kF p gi a).1 r).1/\(jR (kF p gi a).1 r).1<(kF p gi a).1:=by
   unfold jR at h2⊢;split at h2
   . exact absurd (show((1:Int))≠0 by decide) h2
   rename_i hc;rw[if_neg hc];exact wM (by rw[t3];omega) r
  rw[t3]at hb;obtain⟨c1,c2,c3,c4⟩:=qdu hv t1 h.good (idx:=(jR (kF p gi a).1 r).1) (by rw[t3];exact hb.1) (by rw[t3];exact hb.2) t5;have same:∀i∈((NG p).take gi).flatten,aN (z9 p gi a (jR (kF p gi a).1 r).1) i=aN a i:=fun i hi=>by
   unfold aN;rw[qBi,qBi,c3 i (qpt hv t1 hi)]
  have pre:∀g≤gi,WW p (z9 p gi a (jR (kF p gi a).1 r).1) g=WW p a g:=fun g hg=>by
   unfold WW;congr 1;unfold jU;exact qCf fun i hi=>by rw[same i (qmP hg hi)]
  refine qgE hv k (gi+1) _ _ (by omega) ⟨c1,c2,fun i hi=>?_⟩ (fun g hg=>?_) he
  . obtain⟨g,hg⟩:∃g,(NG p)[gi]?=some g:=⟨_,qBc t1⟩;have hgd:(NG p).getD gi []=g:=(by rw[qBi,hg];rfl);rw[qBG,hg]at hi;simp only[Option.toList,qCU,qBp]at hi;rcases hi with hi|hi
    . rw[same i hi];exact h.pos i hi
    rw[hgd]at c4;exact c4 i (by simpa using hi)
  rw[pre g (by omega)];by_cases hgg:g=gi
  . subst hgg;exact t5
  exact ht g (by omega)
def qju{p r}(h:(jA p r).2.2=0):∀g<(NG p).length,WW p (jA p r).1 g<lim:=by
 unfold jA at h⊢;split at h
 . exact absurd h (by assumption)
 rename_i h1;rw[if_neg h1];have h0:=qB2.1 h1;obtain⟨hv,_,hs,_⟩:=yz h0;rw[qCd]at h⊢;exact qgE hv (NG p).length 0 (qO p.vars) r (by omega) ⟨V3 p,by
  have:jU p (qO p.vars) 0=[]:=by simp[jU]
  rw[this,qkd];exact hs,fun i hi=>by simp at hi⟩ (fun g hg=>by omega) h
structure SolA(p:Problem)(a):Prop where
 all:a∈jM p.vars
 sat:ku p.vars (qm p).1 a=true
 pos:∀i∈(NG p).flatten,0<wtP p i (aN a i)/\aN a i<2^ji p i
 tot:∀g<(NG p).length,0<WW p a g/\WW p a g<lim
def qnQ{p R a}(ha:a∈jM p.vars)(hs:ku p.vars R a=true)(hv:qg p=0){l:List Nat}(hl:∀i∈l,i∈(NG p).flatten):okC p R (l.map fun i=>(i,aN a i))=true:=by
 unfold okC;refine qBJ.2 ⟨a,ha,?_⟩;rw[qBf];refine⟨hs,qBk.2 fun q hq=>?_⟩;obtain⟨i,hi,rfl⟩:=qBA.1 hq;obtain⟨x,h1,h2,h3⟩:=ZC hv ha (hl i hi);simp[h1,h3]
def quD{p}(hv:qg p=0){a}(ha:a∈jM p.vars)(hs:ku p.vars (qm p).1 a=true){g}(hg:g<(NG p).length):zZ p (aN a) ((NG p).getD g [])<=WW p a g:=by
 have hin:∀i∈(NG p).getD g [],i∈(NG p).flatten:=fun i hi=>by
  rw[qBi,qBc hg]at hi;exact qBH.2 ⟨_,qDf hg,hi⟩
 have h:=qfA (p:=p) (R:=(qm p).1) (val:=aN a) ((NG p).getD g []) (jU p a g) fun i hi=>by
  obtain⟨x,h1,h2,h3⟩:=ZC hv ha (hin i hi)
  rwa[h3]
 have hok:okC p (qm p).1 (jU p a g++((NG p).getD g []).map fun i=>(i,aN a i))=true:=by
  unfold jU;rw[<- qCi];refine qnQ ha hs hv fun i hi=>?_
  rcases qBp.1 hi with hi|hi
  . obtain⟨l,h1,h2⟩:=qBH.1 hi;exact qBH.2 ⟨l,qBW h1,h2⟩
  exact hin i hi
 rwa[hok,if_pos rfl,Nat.mul_one]at h
def qjv{p r}(h:(jA p r).2.2=0):qg p=0/\(qm p).2=0/\SolA p (jA p r).1:=by
 obtain⟨hv,h0,he,hall,hsat⟩:=qmZ h;have ht:=qju h;have hpos:=he.pos;rw[qBh (qBl _)]at hpos;refine⟨hv,h0,hall,hsat,hpos,fun g hg=>⟨?_,ht g hg⟩⟩;have h1:=quD hv hall hsat hg;have h2:0<zZ p (aN (jA p r).1) ((NG p).getD g []):=YR fun i hi=>by
  rw[qBi,qBc hg]at hi;exact(hpos i (qBH.2 ⟨_,qDf hg,hi⟩)).1
 omega
def qe7(p a gi):∀(l) (fx) (idx) (out) (k),k∉l->(chP p a gi l fx idx out)[k]?=out[k]?
 |[],_,_,_,_,_=>rfl
 | i::r,fx,idx,out,k,hk=>by
  unfold chP;dsimp only;rw[qe7 p a gi r _ _ _ k fun h=>hk (by simp[h]),qBd fun e=>hk (by simp[e])]
def QX{p}(h:qg p=0){k d}(hk:p.dists[k]?=some d):yQ p.vars d.var=true/\∀y∈p.dists.take k,y.var≠d.var:=by
 have hd:yC p.vars p.dists=0:=by
  unfold qg at h;split at h
  . exact absurd h (by assumption)
  split at h
  . rename_i h1;exact absurd h h1
  split at h
  . rename_i h1;exact absurd h h1
  rename_i h1;exact qB2.1 h1
 have hkl:=(qBa.1 hk).1;unfold yC at hd;have:=zC.1 hd k (by simp;omega);unfold jW at this;rw[hk]at this;simp only at this;split at this
 . cases this
 rename_i hr;split at this
 . cases this
 rename_i ht;refine⟨by simpa using hr,fun y hy e=>ht (qBJ.2 ⟨y,hy,by simp[e]⟩)⟩
def qcT{p}(h:qg p=0){d}(hd:d∈p.dists):∃i:Nat,d.var=i/\i<p.vars.length/\i∈(NG p).flatten/\(ja p.vars.length p.dists)[i]?=some (some d.weights):=by
 obtain⟨k,hk⟩:=qBT hd;obtain⟨h1,h2⟩:=QX h hk;simp only[yQ,qBf,decide_eq_true_eq]at h1;obtain⟨i,hi⟩:=qBw h1.1;rw[hi,qBF]at h1;obtain⟨v,hvi,hm⟩:∃v,p.vars[i]?=some v/\v.mode≠0:=by
  cases hv:p.vars[i]? with
  |none=>rw[hv]at h1;simp at h1
  |some v=>rw[hv]at h1;exact⟨v,rfl,by simpa using h1.2⟩
 have hil:=(qBa.1 hvi).1;refine⟨i,hi,hil,YQ h hvi hm,?_⟩;have later:∀y∈p.dists.drop (k+1),y.var.toNat≠i:=fun y hy e=>by
  obtain⟨j,hj⟩:=qBT hy;rw[qB8]at hj;obtain⟨g1,g2⟩:=QX h hj;simp only[yQ,qBf,decide_eq_true_eq]at g1;refine g2 d ?_ (by omega);refine qBb (i:=k) ?_;rw[qDD (by omega),hk]
 have keep:∀(l:List Dist) (o:List (Option (List Weight))),(∀y∈l,y.var.toNat≠i)->(l.foldl (fun o d=>o.set d.var.toNat (some d.weights)) o)[i]?=o[i]?:=by
  intro l
  induction l with
  |nil=>intro o _;rfl
  | cons y l ih=>
   intro o hl;rw[qBP,ih _ fun z hz=>hl z (by simp[hz]),qBd (hl y (by simp))]
 have e:p.dists=p.dists.take k++d::p.dists.drop (k+1):=by
  obtain⟨x1,x2⟩:=qBa.1 hk;have:=qBX k p.dists;rw[qBx x1,x2]at this;exact this.symm
 unfold ja;rw[e,qCe,qBP,keep _ _ later,hi,qBF];refine qBg ?_;have:=ye p.vars.length (p.dists.take k);unfold ja at this
 rwa[this]
def qjw{p r}(h:(jA p r).2.2≠0):(jA p r).1=[]:=by
 have:∀(l:List Nat) (a:List Int) (r:Rng),(qbH p l a r).2.2≠0->(qbH p l a r).1=[]:=by
  intro l
  induction l with
  |nil=>intro a r h;exact absurd rfl h
  | cons g l ih=>
   intro a r h;unfold qbH at h⊢;split
   . rfl
   rename_i h1;rw[if_neg h1]at h;split
   . rfl
   rename_i h2;rw[if_neg h2]at h;exact ih _ _ h
 unfold jA at h⊢;split
 . rfl
 rename_i h1;rw[if_neg h1]at h;exact this _ _ _ h
def qhC{p}(hr:RnH p)(hv:qg p=0)(hb:kw p.vars (qJ p)<=10):(NG p).flatten.length<=12:=by
 have h1:=qfp hv hr.q.vars;have:∀l:List Nat,(∀i∈l,i∈(NG p).flatten)->l.length<=LW p l:=by
  intro l
  induction l with
  |nil=>intro _;simp
  | cons i l ih=>
   intro h;have h2:=ih fun j hj=>h j (by simp[hj])
   obtain⟨v,hvi,hm⟩:=yg hv (h i (by simp));have hw:=(zf (z5 hv v (qBb hvi))).2;have h3:=(qpz hv hvi).1;rw[show LW p (i::l)=ji p i+LW p l by simp[LW],qBr];omega
 have:=this _ fun i hi=>hi
 omega
def qzo{p}(hv:qg p=0){gi}(hgi:gi<(NG p).length):∃g,(NG p)[gi]?=some g/\(NG p).getD gi []=g/\g.Nodup/\∀i∈g,i∈(NG p).flatten:=by
 obtain⟨g,hg⟩:∃g,(NG p)[gi]?=some g:=⟨_,qBc hgi⟩;refine⟨g,hg,by rw[qBi,hg];rfl,?_,fun i hi=>qBH.2 ⟨g,qBb hg,hi⟩⟩;have hnf:=Jt hv;obtain⟨post,hpost⟩:=Js hg;rw[hpost]at hnf;exact(qCa.1 (qCa.1 hnf).1).2.1
def okF(fx:Nat->Option Nat)(g:List Nat)(x:List Int):Bool:=g.all fun i=>(fx i).all fun v=>decide (aN x i=v)
def Qb{α}(f q):∀l:List α,jh f (l.filter q)=jh (fun a=>if q a=true then f a else 0) l
 |[]=>rfl
 | a::l=>by
  have ih:=Qb f q l;rw[qDS];by_cases h:q a=true
  . rw[if_pos h];simp only[jh,ih,if_pos h]
  rw[if_neg h];simp only[jh,ih,if_neg h];omega
def qb8(K:Nat->Nat):∀(N v),v<N->jh (fun x=>if v=x then K x else 0) (List.range N)=K v
 |0,v,h=>by omega
 | N+1,v,h=>by
  rw[qCt,Zl];by_cases hv:v=N
  . subst hv;have:jh (fun x=>if v=x then K x else 0) (List.range v)=0:=ZL fun a ha=>by
     have:=qB5.1 ha;rw[if_neg (by omega)]
    rw[this];simp[jh]
  rw[qb8 K N v (by omega)];simp[jh,hv]
structure Reps(p:Problem)(R:List Ex)(g:List Nat)(c:List (Nat×Nat))(C:List (List Int)):Prop where
 sol:∀x∈C,x∈jM p.vars/\ku p.vars R x=true/\∀q∈c,aN x q.1=q.2
 cov:∀x∈jM p.vars,ku p.vars R x=true->(∀q∈c,aN x q.1=q.2)->∃y∈C,∀i∈g,aN y i=aN x i
 dis:C.Pairwise fun x y=>∃i∈g,aN x i≠aN y i
def qp0{p}(hv:qg p=0){R c}(hc:∀q∈c,q.1∈(NG p).flatten):okC p R c=true↔∃x∈jM p.vars,ku p.vars R x=true/\∀q∈c,aN x q.1=q.2:=by
 unfold okC;rw[qBJ];constructor
 . rintro⟨x,hx,h⟩;rw[qBf,qBk]at h;refine⟨x,hx,h.1,fun q hq=>?_⟩;have:=of_decide_eq_true (h.2 q hq);obtain⟨y,h1,h2,h3⟩:=ZC hv hx (hc q hq);rw[this]at h1;have:=Option.some.inj h1;omega
 rintro⟨x,hx,h1,h2⟩;refine⟨x,hx,?_⟩;rw[qBf,qBk];refine⟨h1,fun q hq=>?_⟩;obtain⟨y,g1,g2,g3⟩:=ZC hv hx (hc q hq);have:=h2 q hq;rw[g1,decide_eq_true_eq];congr 1;omega
def Kk{p}(hv:qg p=0){R}(fx):∀(g:List Nat) (c:List (Nat×Nat)) (C:List (List Int)),(∀i∈g,i∈(NG p).flatten)->(∀q∈c,q.1∈(NG p).flatten)->Reps p R g c C ->
 jc p R fx g c=jh (fun x=>if okF fx g x=true then zZ p (aN x) g else 0) C
 | [],c,C,hg,hc,h=>by
  have hlen:C.length<=1:=by
   match C,h.dis with
   |[],_=>simp
   |[x],_=>simp
   | x::y::r,hd=>
    have:=(qEb.1 hd).1 y (by simp);obtain⟨i,hi,_⟩:=this;cases hi
  unfold jc;by_cases hok:okC p R c=true
  . rw[if_pos hok];obtain⟨x,hx,h1,h2⟩:=(qp0 hv hc).1 hok;obtain⟨y,hy,_⟩:=h.cov x hx h1 h2
    match C,hlen,hy with
    |[z],_,_=>simp[jh,okF,zZ]
    |z::w::r,hl,_=>simp at hl
  rw[if_neg hok];have:C=[]:=by
   apply qCO.2;intro x hx;obtain⟨a1,a2,a3⟩:=h.sol x hx;exact hok ((qp0 hv hc).2 ⟨x,a1,a2,a3⟩)
  rw[this];rfl
 | i::g,c,C,hg,hc,h=>by
  have hi:=hg i (by simp);have ih:=fun v=>Kk hv (R:=R) fx g (c++[(i,v)]) (C.filter fun x=>decide (aN x i=v)) (fun j hj=>hg j (by simp[hj])) (fun q hq=>by
   rcases qBp.1 hq with hq|hq
   . exact hc q hq
   have:q=(i,v):=by simpa using hq
   rw[this];exact hi) ⟨fun x hx=>by
   rw[qCm,decide_eq_true_eq]at hx;obtain⟨a1,a2,a3⟩:=h.sol x hx.1;refine⟨a1,a2,fun q hq=>?_⟩;rcases qBp.1 hq with hq|hq
   . exact a3 q hq
   . have:q=(i,v):=by simpa using hq
     rw[this];exact hx.2,fun x h1 h2 h3=>by
   obtain⟨y,hy,h4⟩:=h.cov x h1 h2 fun q hq=>h3 q (by simp[hq])
   have h5:aN x i=v:=h3 (i,v) (by simp);refine⟨y,qCm.2 ⟨hy,by rw[decide_eq_true_eq,h4 i (by simp),h5]⟩,fun j hj=>h4 j (by simp[hj])⟩,by
   refine(h.dis.filter _).imp_of_mem ?_;intro x y hx hy ⟨j,hj,hne⟩;rw[qCm,decide_eq_true_eq]at hx hy;rcases qBz.1 hj with rfl|hj
   . exact absurd (hx.2.trans hy.2.symm) hne
   exact⟨j,hj,hne⟩⟩
  unfold jc;simp only[ih,Qb];have e1:∀v,wtP p i v*jh (fun x=>if decide (aN x i=v)=true then(if okF fx g x=true then zZ p (aN x) g else 0) else 0) C=jh (fun x=>if aN x i=v then wtP p i v*(if okF fx g x=true then zZ p (aN x) g else 0) else 0) C:=fun v=>by
   rw[<- qaA];refine yc fun x _=>?_
   by_cases hx:aN x i=v<;>simp[hx]
  simp only[e1];rw[Kq];refine yc fun x hx=>?_
  obtain⟨a1,_,_⟩:=h.sol x hx;obtain⟨y,g1,g2,g3⟩:=ZC hv a1 hi;have hokc:okF fx (i::g) x=((fx i).all (fun v=>decide (aN x i=v))&&okF fx g x):=by unfold okF;rw[qCz]
  rw[hokc];show jh _ (wT (ji p i) (fx i))=_
  cases hf:fx i with
  | none=>
   show jh _ (List.range _)=_;rw[qb8 (fun v=>wtP p i v*(if okF fx g x=true then zZ p (aN x) g else 0)) _ _ (by rw[g3];exact g2)];simp only[Option.all_none,qCs,zZ];split
   . rfl
   rw[qEX]
  | some v=>
   show jh _ [v]=_;simp only[jh,qCB,Option.all_some,zZ];by_cases hx:aN x i=v
   . rw[if_pos hx];cases hO:okF fx g x<;>simp[hx]
   rw[if_neg hx];simp[hx]
def Je{p}(hv:qg p=0):p.groups=(NG p).map fun g=>g.map fun n:Nat=>(n:Int):=by
 unfold NG;rw[qCI]
 conv=>lhs;rw[<- qE9 p.groups]
 refine qCf fun g hg=>?_
 show g=(g.map Int.toNat).map fun n:Nat=>(n:Int)
 rw[qCI]
 conv=>lhs;rw[<- qE9 g]
 refine qCf fun v hv'=>?_
 obtain⟨n,w,e1,_⟩:=Ze ((jz hv).2.1 _ (qBH.2 ⟨g,hg,hv'⟩));show v=((v.toNat:Nat):Int);omega
def qfm{x y}{g:List Nat}:agG x y (g.map fun n:Nat=>(n:Int))=true↔∀i∈g,x.getD i 0=y.getD i 0:=by
 unfold agG agV;simp[qBk]
def Wb{a b c}:∀{l:List Int},js a b l=true->js b c l=true->js a c l=true
 |[],h,_=>by cases h
 | v::l,h1,h2=>by
  unfold js at h1 h2⊢;split at h1
  . rename_i e1;split at h2
    . rename_i e2;rw[if_pos (e1.trans e2)];exact Wb h1 h2
    rename_i e2;rw[decide_eq_true_eq]at h2;rw[if_neg (by omega),decide_eq_true_eq];omega
  rename_i e1;rw[decide_eq_true_eq]at h1;split at h2
  . rename_i e2;rw[if_neg (by omega),decide_eq_true_eq];omega
  rename_i e2;rw[decide_eq_true_eq]at h2;rw[if_neg (by omega),decide_eq_true_eq];omega
def qcV{a b}:∀{l:List Int},js a b l=false->js b a l=true\/∀v∈l,a.getD v.toNat 0=b.getD v.toNat 0
 |[],_=>.inr fun v hv=>by cases hv
 | v::l,h=>by
  unfold js at h⊢;by_cases e:a.getD v.toNat 0=b.getD v.toNat 0
  . rw[if_pos e]at h;rw[if_pos e.symm];rcases qcV h with h|h
    . exact .inl h
    refine .inr fun w hw=>?_
    rcases qBz.1 hw with rfl|hw
    . exact e
    exact h w hw
  rw[if_neg e]at h;rw[if_neg (fun h=>e h.symm)];rw[decide_eq_false_iff_not]at h;exact .inl (by rw[decide_eq_true_eq];omega)
def qgo{a b}:∀{l:List Int},js a b l=true->∃v∈l,a.getD v.toNat 0≠b.getD v.toNat 0
 |[],h=>by cases h
 | v::l,h=>by
  unfold js at h;by_cases e:a.getD v.toNat 0=b.getD v.toNat 0
  . rw[if_pos e]at h;obtain⟨w,h1,h2⟩:=qgo h;exact⟨w,by simp[h1],h2⟩
  exact⟨v,by simp,e⟩
def qg0(f):∀(n) (o),o.length=n->(∀(j) (x),(atX f o).1<=j->o[j]?=some x->f x=false)/\((atX f o).1=0\/∃x,o[(atX f o).1-1]?=some x/\f x=true)
 | 0,o,h=>by
  have:=qBo h;subst this;exact⟨fun j x _ hx=>by simp at hx,.inl rfl⟩
 | n+1,o,h=>by
  obtain⟨d,y,rfl⟩:∃d y,o=d++[y]:=⟨o.dropLast,o.getLast (by rintro rfl;simp at h),(qCr _).symm⟩;have hd:d.length=n:=by simpa using h
  obtain⟨h1,h2⟩:=qg0 f n d hd;have hl:=qfc f d;rw[qbq,hl.1]
  cases hy:f y with
  | true=>
   rw[if_pos rfl];refine⟨fun j x hj hx=>?_,.inr ⟨y,?_,hy⟩⟩
   . have:=(qBa.1 hx).1;simp at this hj;omega
   dsimp only;rw[Nat.add_sub_cancel,qBm (qBl _),qB9];rfl
  | false=>
   rw[if_neg (by simp)];refine⟨fun j x hj hx=>?_,?_⟩
   . by_cases hjd:j<d.length
     . rw[qBq hjd]at hx;exact h1 j x hj hx
     . have:=(qBa.1 hx).1;simp at this;have:j=d.length:=by omega
       subst this;rw[qBm (qBl _),qB9]at hx;have:y=x:=by simpa using hx
       rw[<- this];exact hy
   rcases h2 with h2|⟨x,h3,h4⟩
   . exact .inl h2
   refine .inr ⟨x,?_,h4⟩;dsimp only;have:=(qBa.1 h3).1;rw[qBq this];exact h3
structure ChI(G:List (List Int))(i:Nat)(l:List Int)(a:List Int)(S out:List (List Int)):Prop where
 mem:∀c∈out,c∈S/\jf G 0 i c a=true
 ord:out.Pairwise fun x y=>js x y l=true
 cov:∀x∈S,jf G 0 i x a=true->∃c∈out,jf G i (i+1) c x=true
def qjq{G i g a}(hag:∀x y:List Int,jf G i (i+1) x y=true↔∀v∈zN g,x.getD v.toNat 0=y.getD v.toNat 0){S out}(h:ChI G i (zN g) a S out)(x):ChI G i (zN g) a (S++[x]) (vR G i g a out x):=by
 unfold vR;by_cases h1:jf G 0 i x a=true
 case neg=>
  rw[if_neg h1];refine⟨fun c hc=>⟨by simp[(h.mem c hc).1],(h.mem c hc).2⟩,h.ord,fun y hy hya=>?_⟩;rcases qBp.1 hy with hy|hy
  . exact h.cov y hy hya
  have:y=x:=by simpa using hy
  rw[this]at hya;exact absurd hya h1
 rw[if_pos h1];by_cases h2:(out.any fun v=>jf G i (i+1) v x)=true
 . rw[if_pos h2];refine⟨fun c hc=>⟨by simp[(h.mem c hc).1],(h.mem c hc).2⟩,h.ord,fun y hy hya=>?_⟩;rcases qBp.1 hy with hy|hy
   . exact h.cov y hy hya
   have:y=x:=by simpa using hy
   rw[this];obtain⟨c,hc,hcx⟩:=qBJ.1 h2;exact⟨c,hc,hcx⟩
 rw[if_neg h2];obtain⟨s1,s2⟩:=qg0 (fun v=>js v x (zN g)) out.length out rfl;generalize (atX (fun v=>js v x (zN g)) out).1=n at *;have hlow:∀c∈out.take n,js c x (zN g)=true:=fun c hc=>by
  obtain⟨j,hj⟩:=qBT hc;have hjn:=(qBa.1 hj).1;simp at hjn;rw[qDD (by omega)]at hj;rcases s2 with s2|⟨z,hz,hzx⟩
  . omega
  by_cases hjz:j=n-1
  . subst hjz;rw[hj]at hz;cases hz;exact hzx
  obtain⟨q1,q2⟩:=qBa.1 hj;obtain⟨r1,r2⟩:=qBa.1 hz;have:=qC3.1 h.ord j (n-1) q1 r1 (by omega);rw[q2,r2]at this;exact Wb this hzx
 have hhigh:∀c∈out.drop n,js x c (zN g)=true:=fun c hc=>by
  obtain⟨j,hj⟩:=qBT hc;rw[qB8]at hj;have hf:=s1 (n+j) c (by omega) hj;rcases qcV hf with h|h
  . exact h
  exact absurd h ((fun c hc e=>h2 (qBJ.2 ⟨c,hc,(hag c x).2 e⟩)) c (qBb hj))
 refine⟨fun c hc=>?_,?_,fun y hy hya=>?_⟩
 . simp only[qBp,qBz]at hc;rcases hc with hc|hc|hc
   . have:=h.mem c (qBW hc);exact⟨by simp[this.1],this.2⟩
   . subst hc;exact⟨by simp,h1⟩
   have:=h.mem c (qCJ hc);exact⟨by simp[this.1],this.2⟩
 . have ho:=h.ord;rw[<- qBX n out,qEr]at ho;rw[qEr];refine⟨ho.1,qEb.2 ⟨hhigh,ho.2.1⟩,fun c hc d hd=>?_⟩;rcases qBz.1 hd with rfl|hd
   . exact hlow c hc
   exact ho.2.2 c hc d hd
 rcases qBp.1 hy with hy|hy
 . obtain⟨c,hc,hcy⟩:=h.cov y hy hya;refine⟨c,?_,hcy⟩;rw[<- qBX n out]at hc;simp only[qBp,qBz]at hc⊢;rcases hc with hc|hc
   . exact .inl hc
   exact .inr (.inr hc)
 have:y=x:=by simpa using hy
 rw[this];exact⟨x,by simp,(hag x x).2 fun _ _=>rfl⟩
def qe6{G i g a}(hag:∀x y:List Int,jf G i (i+1) x y=true↔∀v∈zN g,x.getD v.toNat 0=y.getD v.toNat 0)(S):ChI G i (zN g) a S (jg G i g a S):=by
 have:∀(l S out:List (List Int)),ChI G i (zN g) a S out->ChI G i (zN g) a (S++l) (l.foldl (vR G i g a) out):=by
  intro l
  induction l with
  |nil=>intro S out h;simpa using h
  | cons x l ih=>
   intro S out h;rw[qBP];have:=ih (S++[x]) _ (qjq hag h x);simpa using this
 have:=this S [] [] (⟨fun c hc=>(by cases hc),List.Pairwise.nil,fun x hx=>(by cases hx)⟩);unfold jg;simpa using this
def Jd{p}(hv:qg p=0){x}(hx:x∈jM p.vars){i}(hi:i∈(NG p).flatten):x.getD i 0=(aN x i:Int):=by
 obtain⟨y,h1,h2,h3⟩:=ZC hv hx hi;rw[h3,qBi,h1];rfl
def qdJ{p}(hv:qg p=0){gi g}(hg:(NG p)[gi]?=some g)(x y):jf p.groups gi (gi+1) x y=true↔∀i∈g,x.getD i 0=y.getD i 0:=by
 unfold jf;have h1:(p.groups.drop gi).take (gi+1-gi)=[g.map fun n:Nat=>(n:Int)]:=by
  rw[Je hv,<- List.map_drop,<- List.map_take,show gi+1-gi=1 by omega];obtain⟨q1,q2⟩:=qBa.1 hg;rw[qBx q1,q2];rfl
 rw[h1];simp only[qCz,qFp,qDd];exact qfm
def qmc{p}(hv:qg p=0)(gi x y):jf p.groups 0 gi x y=true↔∀i∈((NG p).take gi).flatten,x.getD i 0=y.getD i 0:=by
 unfold jf;rw[qDM,qCq,Je hv,<- List.map_take,qBk];constructor
 . intro h i hi;obtain⟨g,h1,h2⟩:=qBH.1 hi;exact qfm.1 (h _ (qBA.2 ⟨g,h1,rfl⟩)) i h2
 intro h g' hg';obtain⟨g,h1,rfl⟩:=qBA.1 hg';exact qfm.2 fun i hi=>h i (qBH.2 ⟨g,h1,hi⟩)
def qmW{g:List Nat}{x y:List Int}:(∀v∈zN (g.map fun n:Nat=>(n:Int)),x.getD v.toNat 0=y.getD v.toNat 0)↔∀i∈g,x.getD i 0=y.getD i 0:=by
 constructor
 . intro h i hi;have:=h (i:Int) ((ZP _).2 (qBA.2 ⟨i,hi,rfl⟩));simpa using this
 intro h v hv;obtain⟨i,hi,rfl⟩:=qBA.1 ((ZP _).1 hv);simpa using h i hi
noncomputable def qpG(p:Problem):List (List Int):=(jM p.vars).filter (ku p.vars (qm p).1)
def qdv{p}(hv:qg p=0){gi g}(hg:(NG p)[gi]?=some g){a}(ha:a∈jM p.vars):
 Reps p (qm p).1 g (jU p a gi) (jg p.groups gi (g.map fun n:Nat=>(n:Int)) a (qpG p))/\(jg p.groups gi (g.map fun n:Nat=>(n:Int)) a (qpG p)).Pairwise fun x y=>js x y (zN (g.map fun n:Nat=>(n:Int)))=true:=by
 have hgm:∀i∈g,i∈(NG p).flatten:=fun i hi=>qBH.2 ⟨g,qBb hg,hi⟩
 have htk:∀i∈((NG p).take gi).flatten,i∈(NG p).flatten:=fun i hi=>by
  obtain⟨l,h1,h2⟩:=qBH.1 hi;exact qBH.2 ⟨l,qBW h1,h2⟩
 have hinv:=qe6 (G:=p.groups) (i:=gi) (g:=g.map fun n:Nat=>(n:Int)) (a:=a) (fun x y=>(qdJ hv hg x y).trans qmW.symm) (qpG p);have hpre:∀x∈jM p.vars,jf p.groups 0 gi x a=true↔∀q∈jU p a gi,aN x q.1=q.2:=fun x hx=>by
  rw[qmc hv];constructor
  . intro h q hq;obtain⟨i,hi,rfl⟩:=qBA.1 hq;have:=h i hi;rw[Jd hv hx (htk i hi),Jd hv ha (htk i hi)]at this;dsimp only;omega
  intro h i hi;have:=h (i,aN a i) (qBA.2 ⟨i,hi,rfl⟩);rw[Jd hv hx (htk i hi),Jd hv ha (htk i hi)];dsimp only at this;omega
 generalize jg p.groups gi (g.map fun n:Nat=>(n:Int)) a (qpG p)=C at *;have hmem:∀x∈C,x∈jM p.vars/\ku p.vars (qm p).1 x=true:=fun x hx=>by
  have:=(hinv.mem x hx).1;exact qCm.1 this
 refine⟨⟨fun x hx=>⟨(hmem x hx).1,(hmem x hx).2,(hpre x (hmem x hx).1).1 (hinv.mem x hx).2⟩,fun x h1 h2 h3=>?_,?_⟩,hinv.ord⟩
 . obtain⟨c,hc,hcx⟩:=hinv.cov x (qCm.2 ⟨h1,h2⟩) ((hpre x h1).2 h3);refine⟨c,hc,fun i hi=>?_⟩;have:=(qdJ hv hg c x).1 hcx i hi;rw[Jd hv (hmem c hc).1 (hgm i hi),Jd hv h1 (hgm i hi)]at this;omega
 refine hinv.ord.imp_of_mem ?_;intro x y hx hy h;obtain⟨v,h1,h2⟩:=qgo h;obtain⟨i,hi,rfl⟩:=qBA.1 ((ZP _).1 h1);rw[qBF,Jd hv (hmem x hx).1 (hgm i hi),Jd hv (hmem y hy).1 (hgm i hi)]at h2;exact⟨i,hi,fun e=>h2 (by rw[e])⟩
def qmt{p}(hv:qg p=0){i}(hi:i∈(NG p).flatten){x}(hpos:0<wtP p i x){A:Nat}(h1:1<=A)(h2:A<=1099511627776):
 Ka p.dists (i:Int) (x:Int) (some (A:Int))=if A*wtP p i x<=1099511627776 then some ((A*wtP p i x:Nat):Int) else none:=by
 obtain⟨v,hvi,hm⟩:=yg hv hi;obtain⟨o,ho⟩:∃o,(ja p.vars.length p.dists)[i]?=some o:=⟨_,qBc (by rw[ye];exact(qBa.1 hvi).1)⟩;have hwt:wtP p i x=wtO o (x:Int):=by unfold wtP;rw[qBi,ho];rfl
 have skip:∀(l:List Dist) (B:Option Int),(∀d∈l,d.var≠(i:Int))->Ka l (i:Int) (x:Int) B=B:=by
  intro l
  induction l with
  |nil=>intro B _;rfl
  | cons d l ih=>
   intro B h;show Ka l _ _ (B.bind fun n=>qiL (i:Int) (x:Int) n d)=B;rw[ih _ fun e he=>h e (by simp[he])]
   cases B with
   |none=>rfl
   | some n=>
    show qiL (i:Int) (x:Int) n d=_;unfold qiL;rw[if_pos (h d (by simp))]
 cases o with
 | none=>
  rw[skip _ _ fun d hd e=>?_,show wtP p i x=1 by rw[hwt];rfl,Nat.mul_one,if_pos h2];obtain⟨j,e1,_,_,e4⟩:=qcT hv hd;have:j=i:=by omega
  subst this;rw[ho]at e4;cases e4
 | some w=>
  obtain⟨d,hd,hdv,hdw⟩:=qcU ho;obtain⟨k,hk⟩:=qBT hd;obtain⟨j,e1,_,_,e4⟩:=qcT hv hd;have hji:j=i:=by omega
  have e:p.dists=p.dists.take k++d::p.dists.drop (k+1):=by
   obtain⟨x1,x2⟩:=qBa.1 hk;have:=qBX k p.dists;rw[qBx x1,x2]at this;exact this.symm
  have hbefore:∀y∈p.dists.take k,y.var≠(i:Int):=fun y hy=>by
   have:=(QX hv hk).2 y hy
   rwa[e1,hji]at this
  have hafter:∀y∈p.dists.drop (k+1),y.var≠(i:Int):=fun y hy e'=>by
   obtain⟨m,hm'⟩:=qBT hy;rw[qB8]at hm';refine(QX hv hm').2 d ?_ (by rw[e',e1,hji]);refine qBb (i:=k) ?_;rw[qDD (by omega),hk]
  have happ:∀(l m:List Dist) (B:Option Int),Ka (l++m) (i:Int) (x:Int) B=Ka m (i:Int) (x:Int) (Ka l (i:Int) (x:Int) B):=fun l m B=>by unfold Ka;rw[qCe]
  rw[e,happ,skip _ _ hbefore,show ∀(d:Dist) (m:List Dist) (B:Int),Ka (d::m) (i:Int) (x:Int) (some B)=Ka m (i:Int) (x:Int) (qiL (i:Int) (x:Int) B d) from fun _ _ _=>rfl,skip _ _ hafter];unfold qiL;rw[if_neg (by rw[e1,hji];simp),hdw];rw[hwt]at hpos⊢;unfold wtO at hpos⊢;dsimp only at hpos⊢;have hnn:=QH w (x:Int);obtain⟨n,er,hwd⟩:∃n er,zR w (x:Int)=(n,er):=⟨_,_,rfl⟩;simp only[hwd]at hpos hnn⊢;by_cases her:er=0
  case neg=>
   simp only[ne_eq,her,not_false_eq_true,if_true,true_or];rw[if_neg];unfold lim;have:=qCh 1099511627777 h1;omega
  subst her;simp only[ne_eq,not_true_eq_false,if_false,false_or]at hpos⊢;obtain⟨m,rfl⟩:=qBw hnn;rw[qBF]at hpos⊢;have hm0:0<m:=qDr fun e=>by rw[e]at hpos;simp[sat]at hpos
  have hdiv:((1099511627776:Int)/(m:Int)<(A:Int))↔1099511627776<A*m:=by
   rw[show(1099511627776:Int)/(m:Int)=((1099511627776/m:Nat):Int) by simp,Int.ofNat_lt];exact qFj hm0
  by_cases hbig:1099511627776<A*m
  . rw[if_pos ⟨by omega,hdiv.2 hbig⟩,if_neg];unfold sat lim;by_cases hml:m<=1099511627777
    . rw[qCw hml];omega
    rw[qEn (by omega)];have:=qCh 1099511627777 h1;omega
  have hml:m<=1099511627776:=by
   have:=qCh m h1;omega
  rw[if_neg (fun h=>hbig (hdiv.1 h.2)),show sat m=m by unfold sat lim;omega,if_pos (by omega)];simp
def qbO{p}(hv:qg p=0){x}(hx:x∈jM p.vars):∀(g:List Nat) (A:Nat),(∀i∈g,i∈(NG p).flatten/\0<wtP p i (aN x i))->1<=A->A<=1099511627776 ->
 (g.map fun n:Nat=>(n:Int)).foldl (fun s v=>Ka p.dists v (x.getD v.toNat 0) s) (some (A:Int))=if A*zZ p (aN x) g<=1099511627776 then some ((A*zZ p (aN x) g:Nat):Int) else none
 |[],A,_,h1,h2=>by simp[zZ,h2]
 | i::g,A,hg,h1,h2=>by
  obtain⟨hi,hp⟩:=hg i (by simp);have hgg:=fun j (hj:j∈g)=>hg j (by simp[hj])
  have hpw:0<zZ p (aN x) g:=YR fun j hj=>(hgg j hj).2
  rw[qBn,qBP,qBF,Jd hv hx hi,qmt hv hi hp h1 h2];unfold zZ;by_cases hA:A*wtP p i (aN x i)<=1099511627776
  . rw[if_pos hA,qbO hv hx g _ hgg (qEk h1 hp) hA,qDU]
  rw[if_neg hA,ZI,if_neg];rw[<- qDU];have:=Nat.mul_le_mul_left (A*wtP p i (aN x i)) hpw;omega
def qiS{p}(hv:qg p=0){g}(hgm:∀i∈g,i∈(NG p).flatten):∀(C) (out) (s:Nat),(∀x∈C,x∈jM p.vars/\∀i∈g,0<wtP p i (aN x i))->s<=1099511627776 ->
 qdU p.dists (g.map fun n:Nat=>(n:Int)) C out (s:Int)=if s+jh (fun x=>zZ p (aN x) g) C<=1099511627776 then some (out++C.map (fun x=>(zZ p (aN x) g:Int)),((s+jh (fun x=>zZ p (aN x) g) C:Nat):Int)) else none
 |[],out,s,_,hs=>by simp[qdU,jh,hs]
 | x::C,out,s,hC,hs=>by
  obtain⟨hx,hp⟩:=hC x (by simp);have ih:=fun out s hs=>qiS hv hgm C out s (fun y hy=>hC y (by simp[hy])) hs
  have hw:qmu p.dists x (g.map fun n:Nat=>(n:Int))=if zZ p (aN x) g<=1099511627776 then some ((zZ p (aN x) g:Nat):Int) else none:=by
   unfold qmu;have:=qbO hv hx g 1 (fun i hi=>⟨hgm i hi,hp i hi⟩) (qBl _) (by omega);rw[qEz]at this;exact this
  unfold qdU;rw[hw];simp only[jh,qBn];by_cases h1:zZ p (aN x) g<=1099511627776
  . rw[if_pos h1];dsimp only;by_cases h2:s+zZ p (aN x) g<=1099511627776
    . rw[if_neg (by omega),<- qEs,ih _ _ h2];rw[qDb,qBQ];rfl
    rw[if_pos (by omega),if_neg (by omega)]
  rw[if_neg h1,if_neg (by omega)]
noncomputable def qe5(p:Problem)(gi:Nat)(a:List Int):List (List Int):=jg p.groups gi (((NG p).getD gi []).map fun n:Nat=>(n:Int)) a (qpG p)
structure ChL(p gi g a C):Prop where
 reps:Reps p (qm p).1 g (jU p a gi) C
 ord:C.Pairwise fun x y=>js x y (zN (g.map fun n:Nat=>(n:Int)))=true
 all:∀x∈C,x∈jM p.vars/\∀i∈g,0<wtP p i (aN x i)
def qbm{p}(h0:(qm p).2=0){gi g}(hg:(NG p)[gi]?=some g){a}(ha:a∈jM p.vars):ChL p gi g a (qe5 p gi a):=by
 obtain⟨hv,_,hs,hneed⟩:=yz h0;obtain⟨h1,h2⟩:=qdv hv hg ha;unfold qe5;rw[show(NG p).getD gi []=g by rw[qBi,hg];rfl];refine⟨h1,h2,fun x hx=>?_⟩;obtain⟨a1,a2,_⟩:=h1.sol x hx;refine⟨a1,fun i hi=>?_⟩;have hev:∀e∈zw p,jB (yp p.vars x) e≠0:=fun e he=>by
  unfold ku at a2;exact of_decide_eq_true (qBk.1 a2 e (hneed e he))
 exact(qui hv a1 hev (qBH.2 ⟨g,qBb hg,hi⟩)).1
def qgf(g x):okF (fun _=>none) g x=true:=by
 unfold okF;simp
def qav{p}(h0:(qm p).2=0){gi g}(hg:(NG p)[gi]?=some g){a}(ha:a∈jM p.vars):WW p a gi=jh (fun x=>zZ p (aN x) g) (qe5 p gi a):=by
 obtain⟨hv,_,_,_⟩:=yz h0;have h:=qbm h0 hg ha;unfold WW;rw[show(NG p).getD gi []=g by rw[qBi,hg];rfl,Kk hv (fun _=>none) g _ _ (fun i hi=>qBH.2 ⟨g,qBb hg,hi⟩) (fun q hq=>by
  obtain⟨i,hi,rfl⟩:=qBA.1 hq;obtain⟨l,h1,h2⟩:=qBH.1 hi;exact qBH.2 ⟨l,qBW h1,h2⟩) h.reps]
 simp only[qgf,if_true]
def VD{p}(h0:(qm p).2=0){gi:Nat}{g}(hg:(NG p)[gi]?=some g){a}(ha:qB p.vars a=true):
 y8 p gi a=if qe5 p gi a=[] then([],[],0,11) else if WW p a gi<=1099511627776 then(qe5 p gi a,(qe5 p gi a).map (fun x=>(zZ p (aN x) g:Int)),((WW p a gi:Nat):Int),0) else([],[],0,3):=by
 obtain⟨hv,_,_,_⟩:=yz h0;have haA:=QD ha;have h:=qbm h0 hg haA;have hgi:=(qBa.1 hg).1;have hgl:p.groups.length=(NG p).length:=by simp[NG]
 have hG:p.groups.getD gi []=g.map fun n:Nat=>(n:Int):=by
  rw[Je hv,qBi,qBD,hg];rfl
 have hC:jg p.groups gi (g.map fun n:Nat=>(n:Int)) a (qpG p)=qe5 p gi a:=by unfold qe5;rw[show(NG p).getD gi []=g by rw[qBi,hg];rfl]
 unfold y8;rw[show Jw p=(qpG p,0) by unfold Jw;rw[if_pos h0];rfl,if_neg (by simp),if_neg (by rw[ha,hv];simp;omega),qBF,hG];simp only[hC];have hw:=qiS hv (fun i hi=>qBH.2 ⟨g,qBb hg,hi⟩) (qe5 p gi a) [] 0 h.all (by omega);rw[qCH,<- qav h0 hg haA,qBy,show((0:Nat):Int)=0 from rfl]at hw;rw[hw];by_cases hc:qe5 p gi a=[]
 . rw[if_pos hc,if_pos hc]
 rw[if_neg hc,if_neg hc];by_cases ht:WW p a gi<=1099511627776
 . rw[if_pos ht,if_pos ht]
 rw[if_neg ht,if_neg ht]
def VE(p gi a):(y8 p gi a).2.2=((jX p gi a).1,(jX p gi a).2):=by
 unfold jX;by_cases h0:(qm p).2=0
 case neg=>
  have hall:Jw p=([],(qm p).2):=by unfold Jw;rw[if_neg h0]
  rw[if_pos h0];unfold y8;rw[hall,if_pos h0]
 obtain⟨hv,_,_,_⟩:=yz h0;rw[if_neg (fun e=>e h0)];by_cases hbad:gi<0\/((NG p).length:Int)<=gi\/qB p.vars a=false
 . have hall:Jw p=(qpG p,0):=(by unfold Jw;rw[if_pos h0];rfl);unfold y8 kF;rw[hall,if_neg (by simp),if_pos hbad,if_pos (by rw[show p.groups.length=(NG p).length by simp[NG],hv];simpa using hbad)]
 have g1:¬((NG p).length:Int)<=gi:=fun e=>hbad (.inr (.inl e))
 have ha:qB p.vars a=true:=by
  cases hA:qB p.vars a with
  |true=>rfl
  |false=>exact absurd (.inr (.inr hA)) hbad
 obtain⟨k,rfl⟩:=qBw (qFk.1 fun e=>hbad (.inl e));obtain⟨g,hg⟩:∃g,(NG p)[k]?=some g:=⟨_,qBc (by omega)⟩;have haA:=QD ha;have hsum:=qav h0 hg haA;have hch:=qbm h0 hg haA;have hs:Kp p (fun _=>none) a k=sat (WW p a k):=ZK _ _ _ _;rw[VD h0 hg ha];unfold kF;rw[if_neg hbad,qBF,hs];have hzero:WW p a k=0↔qe5 p k a=[]:=by
  rw[hsum];constructor
  . intro h;apply qCO.2;intro x hx;have h1:=qaB (f:=fun x=>zZ p (aN x) g) hx;have h2:0<zZ p (aN x) g:=YR (hch.all x hx).2;omega
  intro h;rw[h];rfl
 by_cases hc:qe5 p k a=[]
 . rw[if_pos hc,if_pos (Zp.2 (hzero.2 hc))]
 rw[if_neg hc,if_neg (fun e=>hc (hzero.1 (Zp.1 e)))];by_cases ht:WW p a k<=1099511627776
 . have hsat:sat (WW p a k)=WW p a k:=(by unfold sat lim;omega);rw[if_pos ht,hsat,if_neg (by unfold lim;omega)]
 have hsat:sat (WW p a k)=lim:=by unfold sat lim;omega
 rw[if_neg ht,hsat,if_pos rfl]
def sel(w:List Int->Nat):List (List Int)->Int->List Int
 |[],_=>[]
 |c::r,k=>if k<(w c:Nat) then c else sel w r (k-(w c:Nat))
def qjD(w):∀(C) (k),C.getD (atW (C.map fun x=>((w x:Nat):Int)) k) []=sel w C k
 |[],k=>rfl
 | c::r,k=>by
  rw[qBn];unfold atW sel;split
  . rfl
  rw[List.getD_cons_succ];exact qjD w r _
def qfM(w c r k):sel w (c::r) k=if k<(w c:Nat) then c else sel w r (k-(w c:Nat)):=rfl
def qei(w):∀(A B) (k),0<=k->sel w (A++B) k=if k<(jh w A:Nat) then sel w A k else sel w B (k-(jh w A:Nat))
 |[],B,k,h=>by simp[jh,sel];omega
 | c::A,B,k,h=>by
  obtain⟨S,hS⟩:∃S,S=jh w (c::A):=⟨_,rfl⟩;have hS':S=w c+jh w A:=hS;rw[<- hS,qBB,qfM,qfM];by_cases h1:k<(w c:Nat)
  . rw[if_pos h1,if_pos (by omega),if_pos h1]
  rw[if_neg h1,if_neg h1,qei w A B _ (by omega)];by_cases h2:k-(w c:Nat)<(jh w A:Nat)
  . rw[if_pos h2,if_pos (by omega)]
  rw[if_neg h2,if_neg (by omega)];congr 1;omega
def qeh(w):∀(A:List (List Int)) (k:Int),0<=k->k<(jh w A:Nat)->sel w A k∈A
 |[],k,h0,h1=>by simp[jh]at h1;omega
 | c::A,k,h0,h1=>by
  simp only[jh]at h1;unfold sel;split
  . simp
  exact qCK _ (qeh w A _ (by omega) (by omega))
def qm3(w:List Int->Nat)(B:Nat->List (List Int)){N q:Nat}(hq:q<N){r:Int}(h0:0<=r)(h1:r<(jh w (B q):Nat)):sel w ((List.range N).flatMap B) ((jh (fun v=>jh w (B v)) (List.range' 0 q):Nat)+r)=sel w (B q) r:=by
 have e:List.range N=List.range q++q::List.range' (q+1) (N-(q+1)):=by
  rw[qCd,qCd];have h1:=List.range'_append (s:=0) (m:=q) (n:=N-q) (step:=1);obtain⟨m,hm⟩:∃m,N-q=m+1:=⟨N-q-1,by omega⟩;rw[hm,qCx]at h1;simp only[qCH,qEz]at h1;rw[show N-(q+1)=m by omega,h1,show q+(m+1)=N by omega]
 rw[e,List.flatMap_append,qBC];rw[qei w _ _ _ (by omega),show jh w ((List.range q).flatMap B)=jh (fun v=>jh w (B v)) (List.range' 0 q) by rw[J7,qCd],if_neg (by omega),qei w _ _ _ (by omega),if_pos (by omega)];congr 1;omega
def Ks(f:List Int->Nat):∀(N) (L),(L.Pairwise fun x y=>f x<=f y)->(∀x∈L,f x<N)->L=(List.range N).flatMap fun v=>L.filter fun x=>decide (f x=v)
 | 0,L,_,h=>by
  have:L=[]:=qCO.2 fun x hx=>by have:=h x hx;omega
  subst this;rfl
 | N+1,L,hp,h=>by
  rw[qCt,List.flatMap_append];have hsplit:∀L:List (List Int),(L.Pairwise fun x y=>f x<=f y)->(∀x∈L,f x<N+1)->L=(L.filter fun x=>decide (f x<N))++L.filter fun x=>decide (f x=N):=by
   intro L
   induction L with
   |nil=>intro _ _;rfl
   | cons x L ih=>
    intro hp h;rw[qEb]at hp;have hx:=h x (by simp);by_cases hxN:f x<N
    . have e1:decide (f x<N)=true:=(by simp[hxN]);have e2:decide (f x=N)=false:=(by simp;omega);rw[qDS,if_pos e1,qDS,if_neg (by rw[e2];simp),qBB,<- ih hp.2 fun y hy=>h y (by simp[hy])]
    have hall:∀y∈x::L,f y=N:=fun y hy=>by
     rcases qBz.1 hy with rfl|hy
     . omega
     have:=hp.1 y hy;have:=h y (by simp[hy]);omega
    have e1:(x::L).filter (fun x=>decide (f x<N))=[]:=by
     rw[List.filter_eq_nil_iff];intro y hy;simp[hall y hy]
    have e2:(x::L).filter (fun x=>decide (f x=N))=x::L:=by
     rw[List.filter_eq_self];intro y hy;simp[hall y hy]
    rw[e1,e2];rfl
  have ih:=Ks f N (L.filter fun x=>decide (f x<N)) (hp.filter _) (fun x hx=>by
   rw[qCm,decide_eq_true_eq]at hx;exact hx.2)
  have e:((List.range N).flatMap fun v=>(L.filter fun x=>decide (f x<N)).filter fun x=>decide (f x=v))=(List.range N).flatMap fun v=>L.filter fun x=>decide (f x=v):=by
   rw[qCF,qCF];congr 1;refine qCf fun v hv=>?_
   rw[List.filter_filter];refine qEL fun x _=>?_
   have:=qB5.1 hv;by_cases hx:f x=v
   . simp[hx,this]
   simp[hx]
  rw[e]at ih
  conv=>lhs;rw[hsplit L hp h]
  rw[ih];simp
def qr3{fx i v}(hf:fx i=none){g}(hi:i∈g)(x):okF (yj fx i v) g x=(okF fx g x&&decide (aN x i=v)):=by
 unfold okF;rw[qB7,qBf,qBk,qBk,decide_eq_true_eq];constructor
 . intro h;refine⟨fun j hj=>?_,?_⟩
   . by_cases hji:j=i
     . subst hji;rw[hf];rfl
     . have:=h j hj
       rwa[Zj hji]at this
   have:=h i hi;rw[qat]at this;simpa using this
 rintro⟨h1,h2⟩ j hj;by_cases hji:j=i
 . subst hji;rw[qat];simpa using h2
 rw[Zj hji];exact h1 j hj
def qth{p:Problem}(hv:qg p=0){a:List Int}{gi:Nat}{g:List Nat}(hgd:(NG p).getD gi []=g)(hgn:g.Nodup)(hgm:∀i∈g,i∈(NG p).flatten){C:List (List Int)}(hR:Reps p (qm p).1 g (jU p a gi) C):
 ∀ (l:List Nat) (fx:Nat->Option Nat) (idx:Int) (out:List Int),l.Nodup->(∀i∈l,fx i=none/\i∈g/\i<out.length)->(C.filter (okF fx g)).Pairwise (fun x y=>js x y (l.map fun n:Nat=>(n:Int))=true) ->
  0<=idx->idx<(jh (fun x=>zZ p (aN x) g) (C.filter (okF fx g)):Nat)->jh (fun x=>zZ p (aN x) g) (C.filter (okF fx g))<lim ->
  ∀i∈l,(chP p a gi l fx idx out)[i]?=some (aN (sel (fun x=>zZ p (aN x) g) (C.filter (okF fx g)) idx) i:Int):=by
 have hT:∀fx,jc p (qm p).1 fx g (jU p a gi)=jh (fun x=>zZ p (aN x) g) (C.filter (okF fx g)):=fun fx=>by
  rw[Kk hv fx g _ C hgm (fun q hq=>by
   obtain⟨i,hi,rfl⟩:=qBA.1 hq;obtain⟨l,h1,h2⟩:=qBH.1 hi;exact qBH.2 ⟨l,qBW h1,h2⟩) hR,Qb]
 intro l
 induction l with
 |nil=>intro fx idx out _ _ _ _ _ _ i hi;cases hi
 | cons i r ih=>
  intro fx idx out hl hm hord h0 h1 h2;rw[qC1]at hl;obtain⟨hfi,hig,hio⟩:=hm i (by simp);have hfil:∀v,C.filter (okF (yj fx i v) g)=(C.filter (okF fx g)).filter fun x=>decide (aN x i=v):=fun v=>by
   rw[List.filter_filter];refine qEL fun x _=>?_
   rw[qr3 hfi hig,Bool.and_comm]
  have hsp:=Zk (p:=p) (R:=(qm p).1) hfi g (jU p a gi) hgn hig;rw[hT]at hsp;have hle:∀x,x<2^ji p i->jc p (qm p).1 (yj fx i x) g (jU p a gi)<=jh (fun x=>zZ p (aN x) g) (C.filter (okF fx g)):=fun x hx=>by
   rw[hsp];exact qaB (f:=fun x=>jc p (qm p).1 (yj fx i x) g (jU p a gi)) (qB5.2 hx)
  have hF:∀x,x<2^ji p i->Kp p (yj fx i x) a gi=jc p (qm p).1 (yj fx i x) g (jU p a gi):=fun x hx=>by
   rw[ZK,hgd];have:=hle x hx;exact qCw (by unfold jU at this;omega)
  have hw:=qbP p i;have hcong:∀m,m<=2^wdN p i->jh (fun x=>Kp p (yj fx i x) a gi) (List.range' 0 m)=jh (fun v=>jh (fun x=>zZ p (aN x) g) ((C.filter (okF fx g)).filter fun x=>decide (aN x i=v))) (List.range' 0 m):=fun m hm=>by
   refine yc fun v hv'=>?_
   rw[<- qCd]at hv';have:=qB5.1 hv';rw[hF v (by rw[<- hw];omega),hT,hfil]
  have hsum:jh (fun x=>Kp p (yj fx i x) a gi) (List.range' 0 (2^wdN p i))=jh (fun x=>zZ p (aN x) g) (C.filter (okF fx g)):=by
   rw[hsp,hw,<- qCd];exact yc fun x hx=>hF x (qB5.1 hx)
  obtain⟨⟨_,q1⟩,q2,q3,q4⟩:=JE (fun x=>Kp p (yj fx i x) a gi) (2^wdN p i) 0 idx h0 (by rwa[hsum]);unfold chP;dsimp only;generalize yl (fun x=>Kp p (yj fx i x) a gi) (2^wdN p i) 0 idx=q at *;rw[qCH]at q1;rw[qDM,hcong _ (by omega)]at q4;have hq1:q.1<2^ji p i:=by rwa[<- hw]
  rw[hF _ hq1,hT,hfil]at q3
  -- the choices,by the first variable's value
  have hmemC:∀x∈C.filter (okF fx g),x∈jM p.vars:=fun x hx=>(hR.sol x (qCm.1 hx).1).1
  have hmono:(C.filter (okF fx g)).Pairwise fun x y=>aN x i<=aN y i:=by
   refine hord.imp_of_mem ?_;intro x y hx hy h;rw[qBn]at h;unfold js at h;rw[qBF,Jd hv (hmemC x hx) (hgm i hig),Jd hv (hmemC y hy) (hgm i hig)]at h;split at h
   . rename_i e;omega
   rename_i e;rw[decide_eq_true_eq]at h;omega
  have hflat:=Ks (fun x=>aN x i) (2^ji p i) _ hmono fun x hx=>by
   obtain⟨y,e1,e2,e3⟩:=ZC hv (hmemC x hx) (hgm i hig)
   rwa[e3]
  have hsel:sel (fun x=>zZ p (aN x) g) (C.filter (okF fx g)) idx=sel (fun x=>zZ p (aN x) g) ((C.filter (okF fx g)).filter fun x=>decide (aN x i=q.1)) q.2:=by
   conv=>lhs;rw[hflat]
   rw[q4];exact qm3 _ (fun v=>(C.filter (okF fx g)).filter fun x=>decide (aN x i=v)) hq1 q2 q3
  have hin:=qeh (fun x=>zZ p (aN x) g) _ q.2 q2 q3;have hord':(C.filter (okF (yj fx i q.1) g)).Pairwise fun x y=>js x y (r.map fun n:Nat=>(n:Int))=true:=by
   rw[hfil];refine(hord.filter _).imp_of_mem ?_;intro x y hx hy h;rw[qCm,decide_eq_true_eq]at hx hy;rw[qBn]at h;unfold js at h;rw[if_pos]at h
   . exact h
   rw[qBF,Jd hv (hmemC x hx.1) (hgm i hig),Jd hv (hmemC y hy.1) (hgm i hig),hx.2,hy.2]
  have hih:=ih (yj fx i q.1) q.2 (out.set i (q.1:Int)) hl.2 (fun k hk=>by
   obtain⟨a1,a2,a3⟩:=hm k (by simp[hk]);exact⟨by rw[Zj (by rintro rfl;exact hl.1 hk)];exact a1,a2,by simpa using a3⟩) hord' q2 (by rwa[hfil]) (by
    have:=hle _ hq1;rw[hT]at this;omega)
  rw[hfil]at hih;intro k hk;rw[hsel];rcases qBz.1 hk with rfl|hk
  . rw[qe7 p a gi r _ _ _ k hl.1,qBg hio];rw[qCm,decide_eq_true_eq]at hin;rw[hin.2]
  exact hih k hk
def qc3(x):∀A B:List Int,qdR x A B=(qeK A x).reverse++B
 |[],B=>by simp[qdR,qeK]
 | a::A,B=>by
  unfold qdR qeK;split
  . rw[qc3 x A];simp
  simp
def qeg(l):zN l=ww l:=by
 unfold zN ww;congr 1;funext S x;rw[qc3];simp[qeL]
def qrg(g):zN (g.map fun n:Nat=>(n:Int))=(yE g).map fun n:Nat=>(n:Int):=by
 rw[qeg,qaD]
def qfL(c):∀(g:List Nat) (a) (i),i<a.length->(qdN c (g.map fun n:Nat=>(n:Int)) a)[i]?=if i∈g then some (c.getD i 0) else a[i]?
 |[],a,i,h=>by simp[qdN]
 | j::g,a,i,h=>by
  show(qdN c (g.map fun n:Nat=>(n:Int)) (a.set ((j:Nat):Int).toNat (c.getD ((j:Nat):Int).toNat 0)))[i]?=_;rw[qBF,qfL c g _ i (by simpa using h)];by_cases hg:i∈g
  . rw[if_pos hg,if_pos (by simp[hg])]
  rw[if_neg hg];by_cases hj:i=j
  . subst hj;rw[if_pos (by simp),qBg h]
  rw[if_neg (by simp[hg,hj]),qBd (Ne.symm hj)]
def vF(g)(C:List (List Int)):C.filter (okF (fun _=>none) g)=C:=by
 rw[List.filter_eq_self];intro x _;exact qgf g x
def qlC(p gi a k):vK p gi a k=wQ p gi a k:=by
 have ht:=VE p gi a;unfold vK wQ;rw[ht];dsimp only;by_cases he:(jX p gi a).2=0
 case neg=>rw[if_pos he,if_pos he]
 simp only[he,ne_eq,not_true_eq_false,if_false];by_cases hk:k<0\/(jX p gi a).1<=k
 . simp only[if_pos hk]
 simp only[if_neg hk];have h0:(qm p).2=0:=by
  apply Classical.byContradiction;intro hn;unfold jX at he;rw[if_pos hn]at he;exact hn he
 rw[show jX p gi a=kF p gi a by unfold jX;rw[if_neg (fun e=>e h0)]]at he hk;obtain⟨g0,g1,has,_,_⟩:=YJ he;obtain⟨hv,_,_,_⟩:=yz h0;obtain⟨n,rfl⟩:=qBw g0;rw[qBF]at g1⊢;obtain⟨t1,t2,t3,t4,t5⟩:=qd9 he;change (kF p n a).1=(WW p a n:Nat) at t3;change WW p a n<lim at t5;obtain⟨g,hg,hgd,hgn,hgm⟩:=qzo hv g1;have haA:=QD has;have hal:=(yV.1 haA).len;have hch:=qbm h0 hg haA;have hsum:=qav h0 hg haA;rw[t3]at hk;have hne:qe5 p n a≠[]:=fun e=>by rw[hsum,e]at hk;simp[jh]at hk;omega
 have hpv:=VD h0 hg has;rw[if_neg hne,if_pos (by unfold lim at t5;omega)]at hpv;have hG:p.groups.getD n []=g.map fun n:Nat=>(n:Int):=by
  rw[Je hv,qBi,qBD,hg];rfl
 rw[hpv,hG];dsimp only;rw[qjD (fun x=>zZ p (aN x) g)];have hk0:=qFk.1 fun e=>hk (.inl e)
 have hk1:=Int.not_le.1 fun e=>hk (.inr e)
 have hmem:=qeh (fun x=>zZ p (aN x) g) (qe5 p n a) k hk0 (by rwa[<- hsum]);have hsel:=qth hv hgd hgn hgm hch.reps (yE g) (fun _=>none) k a (Ku hgn) (fun i hi=>by
  obtain⟨v,hv',_⟩:=yg hv (hgm i (we.1 hi));have:=(qBa.1 hv').1;exact⟨rfl,we.1 hi,by rw[hal];exact this⟩) (by rw[vF,<- qrg];exact hch.ord) hk0 (by rwa[vF,<- hsum]) (by rwa[vF,<- hsum])
 rw[vF]at hsel;generalize sel (fun x=>zZ p (aN x) g) (qe5 p n a) k=c at *;have hce:z9 p n a k=chP p a n (yE g) (fun _=>none) k a:=by unfold z9;rw[hgd]
 refine Prod.ext ?_ rfl;dsimp only;apply qCb;intro i;by_cases hi:i<a.length
 . rw[qfL c g a i hi];by_cases hig:i∈g
   . rw[if_pos hig,hce,hsel i (we.2 hig),Jd hv (hch.all c hmem).1 (hgm i hig)]
   rw[if_neg hig,hce,qe7 p a n _ _ _ _ i fun h=>hig (we.1 h)]
 rw[qBI (by rw[YO];omega),qBI (by rw[wm];omega)]
def KE:∀(n) (l),l.length=n->l.Pairwise (· < ·)->(QL l).length<=(l.filter fun x=>!decide (x-1∈l)).length/\∀r,(QL l).getLast?=some r->r.2∈l/\∀y∈l,y<=r.2
 | 0,l,h,_=>by
  have:=qBo h;subst this;exact⟨by simp[QL],fun r hr=>by simp[QL]at hr⟩
 | n+1,l,h,hp=>by
  obtain⟨d,x,rfl⟩:∃d x,l=d++[x]:=⟨l.dropLast,l.getLast (by rintro rfl;simp at h),(qCr _).symm⟩;rw[qEr]at hp;obtain⟨hp1,_,hp2⟩:=hp;have hlt:∀y∈d,y<x:=fun y hy=>hp2 y hy x (by simp)
  obtain⟨i1,i2⟩:=KE n d (by simpa using h) hp1;have hr:QL (d++[x])=vN (QL d) x:=by unfold QL;rw[qCe];rfl
  have hf:((d++[x]).filter fun y=>!decide (y-1∈d++[x])).length=(d.filter fun y=>!decide (y-1∈d)).length+if x-1∈d then 0 else 1:=by
   rw[qD8,qBe];congr 1
   . congr 1;refine qEL fun y hy=>?_
     have:=hlt y hy;have e:(y-1∈d++[x])↔y-1∈d:=by
      rw[qBp,qBR];exact⟨fun h=>h.resolve_right (by omega),.inl⟩
     simp only[e]
   have e:(x-1∈d++[x])↔x-1∈d:=by
    rw[qBp,qBR];exact⟨fun h=>h.resolve_right (by omega),.inl⟩
   rw[qDS];simp only[e];by_cases hx:x-1∈d<;>simp[hx]
  rw[hr,hf];unfold vN
  cases hl:(QL d).getLast? with
  | none=>
   have hn:QL d=[]:=qDz.1 hl;have hd:d=[]:=qCO.2 fun y hy=>by
    obtain⟨r,hr,_⟩:=(qfP y d).2 hy;rw[hn]at hr;cases hr
   subst hd;simp[QL]
  | some r=>
   dsimp only;obtain⟨a1,a2⟩:=i2 r hl;by_cases he:r.2=x-1
   . rw[if_pos he];obtain⟨m,hm⟩:=qDA.1 hl;rw[hm,qEt];rw[hm]at i1;simp only[qBe,qBr,qB0]at i1⊢;refine⟨by omega,fun q hq=>?_⟩;simp at hq;subst hq;refine⟨by simp,fun y hy=>?_⟩;rcases qBp.1 hy with hy|hy
     . have:=hlt y hy;dsimp only;omega
     have:y=x:=by simpa using hy
     dsimp only;omega
   rw[if_neg he];have hx:¬x-1∈d:=fun hx=>by
    have h1:=a2 _ hx;have h2:=hlt _ a1;omega
   rw[if_neg hx];simp only[qBe,qBr,qB0];refine⟨by omega,fun q hq=>?_⟩;simp at hq;subst hq;refine⟨by simp,fun y hy=>?_⟩;rcases qBp.1 hy with hy|hy
   . have:=hlt y hy;dsimp only;omega
   have:y=x:=by simpa using hy
   dsimp only;omega
def qhV{x y}:∀{l:List Weight},(∀w∈l,inW x w=inW y w)->vT l x=vT l y:=by
 intro l h;unfold vT;have:l.find? (inW x)=l.find? (inW y):=by
  induction l with
  |nil=>rfl
  | cons w l ih=>
   rw[qDI,qDI,h w (by simp),ih fun z hz=>h z (by simp[hz])]
 rw[this]
def qm7(v l):(QL (ZJ v l)).length<=2*l.length+1:=by
 obtain⟨hp,hr⟩:=qay v l;have h1:=(KE _ _ rfl hp).1;have hn:((ZJ v l).filter fun x=>!decide (x-1∈ZJ v l)).Nodup:=(hp.imp fun h e=>by omega:(ZJ v l).Pairwise (·≠·)).filter _;have hsub:∀x∈(ZJ v l).filter fun x=>!decide (x-1∈ZJ v l),x∈(0:Int)::l.flatMap fun w=>[w.lo,w.hi+1]:=fun x hx=>by
  rw[qCm]at hx;obtain⟨hx1,hx2⟩:=hx;have hx2:¬x-1∈ZJ v l:=by simpa using hx2
  have hx3:=hr x hx1;by_cases h0:x=0
  . simp[h0]
  have hpx:=(qCm.1 hx1).2;have hpy:vT l (x-1)=false:=by
   rw[qCu];intro hy;refine hx2 (qCm.2 ⟨?_,hy⟩);exact qBA.2 ⟨(x-1).toNat,qB5.2 (by omega),by omega⟩
  have:¬∀w∈l,inW x w=inW (x-1) w:=fun h=>by
   have:=qhV h;rw[hpx,hpy]at this;cases this
  have:∃w∈l,inW x w≠inW (x-1) w:=by
   apply Classical.byContradiction;intro hn;exact this fun w hw=>Classical.byContradiction fun he=>hn ⟨w,hw,he⟩
  obtain⟨w,hw,hne⟩:=this;refine qCK _ (qEY.2 ⟨w,hw,?_⟩);by_cases e1:x=w.lo
  . simp[e1]
  by_cases e2:x=w.hi+1
  . simp[e2]
  exfalso;refine hne ?_;unfold inW;rw[show decide (w.lo<=x)=decide (w.lo<=x-1) by rw[decide_eq_decide];omega,show decide (x<=w.hi)=decide (x-1<=w.hi) by rw[decide_eq_decide];omega]
 have h2:=KV hn hsub;have h3:(l.flatMap fun w=>[w.lo,w.hi+1]).length=2*l.length:=by
  clear h1 h2 hn hsub hp hr
  induction l with
  |nil=>rfl
  |cons w l ih=>rw[qBC,qBe,ih];simp;omega
 rw[qBr,h3]at h2;omega
def qsV{p}(h:VM p){b}(hb:b<=18)(hf:qoA p b=true):RfH p:=by
 obtain⟨hr,hvp⟩:=qla h hb hf;unfold qoA at hf;simp only[qBf]at hf;have hs:=hf.1;simp only[jY,qBf,qCA,qDy,decide_eq_false_iff_not,qBk,decide_eq_true_eq]at hs;obtain⟨⟨⟨⟨⟨⟨⟨⟨a1,a2⟩,a3⟩,a4⟩,a5⟩,b1⟩,b2⟩,b3⟩,b4⟩:=hs;refine⟨hr.q,by have:=hvp.flat;omega,hr.dl,hr.sl,fun d hd v=>?_⟩;have:=qm7 v d.weights;have:=b3 d hd;omega
