/- The tied card of RandomSatisfies: the law's function returns true for every input, and each argument reads afterwards as it read before. No condition. -/
import Derived.Test.YtkpkjbchlabaaaaGreatDoorSa43
import Derived.Test.YtkpkjbchlabaaaaGreatDoorRows
import Derived.ProofKit
import Derived.Stop.Joined
import Derived.SevenTiedAt
import Derived.Test.YtkpkjbchlabaaaaGreatDoorTie
import Derived.Test.YtkpkjbchlabaaaaGreatDoorCards
set_option linter.unusedVariables false
set_option linter.unusedSimpArgs false
set_option maxRecDepth 100000
set_option maxHeartbeats 16000000
set_option linter.defProp false
section
namespace Go.Proofs.YtkpkjbchlabaaaaGreatDoor
open Go Go.Abs
def wG:Ex:=.mk 17 0 [] [w9 [97],w9 [98]]
def p2 (b:Bool):Problem:={ vars:=[⟨[97],2,1,0⟩,⟨[98],2,1,0⟩],hard:=[wG],soft:=[],dists:=[],groups:=if b then [[0],[1]] else [[0,1]] }
theorem WM (b:Bool):qj (p2 b)=0:=by
 have hn:zQ [97]=true:=by kernel_rfl
 have hn2:zQ [98]=true:=by kernel_rfl
 have he:yI [97]=none:=YD (by decide);have he2:yI [98]=none:=YD (by decide);have hv:yX [97]=true:=by unfold yX;rw[hn];rfl
 have hv2:yX [98]=true:=by unfold yX;rw[hn2];rfl
 have hE:jH ⟨[97],2,1,0⟩=0:=by
  unfold jH;rw[hv];simp
 have hE2:jH ⟨[98],2,1,0⟩=0:=by
  unfold jH;rw[hv2];simp
 have hg:jL (p2 b).vars (p2 b).groups:=by
  cases b
  . refine⟨by simp[p2],by simp[p2,yi],by simp[p2],fun i hi _=>?_⟩;simp[p2]at hi ⊢;omega
  . refine⟨by simp[p2],by simp[p2,yi],by simp[p2],fun i hi _=>?_⟩;simp[p2]at hi ⊢;omega
 unfold qj;have h1:zV (p2 b).vars=0:=by
  unfold zV;simp[p2,qM,hE,hE2,qns,vK,vH,Z8,he,he2,j6];intro x hx;have:x=0\/x=1:=by omega
  rcases this with rfl|rfl<;>rfl
 have h2:zi (p2 b).vars wG=0:=by kernel_rfl
 have h3:qM (zi (p2 b).vars) ((p2 b).hard++(p2 b).soft)=0:=by
  show qM (zi (p2 b).vars) [wG]=0;simp[qM,h2]
 rw[h1,h3];unfold zz;rw[if_pos hg];simp[p2,qM,jZ]
theorem ww (b:Bool):qq (p2 b)=([wG],0):=by
 have:=qft (WM b) rfl rfl (by cases b<;>kernel_rfl);exact this
theorem sol_p2:jY (p2 true)=(6,0):=by
 unfold jY;rw[ww]
 kernel_rfl
theorem tot_p2:ku (p2 true) 1 [0,0]=(3,0):=by
 unfold ku;rw[qmG,ww]
 kernel_rfl
theorem chs_p2:QB (p2 false) 0 [0,0] 5=([2,3],0):=by
 unfold QB ku;rw[qmG,qi0,ww]
 kernel_rfl
theorem qer {b:Bool}{a:List Int}(h:yD (kQ (p2 b).vars a) wG≠0)(ha:qH (p2 b).vars a=true):([wG]:List Ex).all (jM (p2 b) a)=true:=by
 simp only[qrR,List.all_nil,qsu];exact Vt (WM b) h ha
theorem qcx {p:Problem}{R:List Ex}(h:(qq p).1=R)(a:List Int)(gi:Nat)(rest:List Nat)(n d:Nat):Jo p a (gi::rest) n d =
 if (Jh p R gi a).2≠0 then (0,0,(Jh p R gi a).2)
 else if (yG n d (yk (yp p gi a) (Jh p R gi a).1.toNat).1 (yk (yp p gi a) (Jh p R gi a).1.toNat).2).2.2≠0 then (0,0,3)
 else Jo p a rest (yG n d (yk (yp p gi a) (Jh p R gi a).1.toNat).1 (yk (yp p gi a) (Jh p R gi a).1.toNat).2).1 (yG n d (yk (yp p gi a) (Jh p R gi a).1.toNat).1 (yk (yp p gi a) (Jh p R gi a).1.toNat).2).2.1:=by
 subst h;rfl
theorem qoq:Qt (p2 true) [0,1]=(1,9,0):=by
 have h1:Jh (p2 true) [wG] ((0:Nat):Int) [0,1]=(3,0):=by kernel_rfl
 have h2:Jh (p2 true) [wG] ((1:Nat):Int) [0,1]=(3,0):=by kernel_rfl
 have hr:(qq (p2 true)).1=[wG]:=by rw[ww]
 have hev:yD (kQ (p2 true).vars [0,1]) wG=1:=by kernel_rfl
 have m1:yG 1 1 (yk (yp (p2 true) 0 [0,1]) 3).1 (yk (yp (p2 true) 0 [0,1]) 3).2=(1,3,0):=by kernel_rfl
 have m2:yG 1 3 (yk (yp (p2 true) 1 [0,1]) 3).1 (yk (yp (p2 true) 1 [0,1]) 3).2=(1,9,0):=by kernel_rfl
 unfold Qt;rw[ww,if_neg (by simp),if_neg (by rw[show qH (p2 true).vars [0,1]=true by kernel_rfl];simp),if_neg (by rw[qer (by rw[hev];decide) (by kernel_rfl)];simp)];show Jo (p2 true) [0,1] [0,1] 1 1=_;rw[qcx hr,h1,if_neg (by simp),show ((3:Int),(0:Int)).1.toNat=3 from rfl,m1,if_neg (by simp),qcx hr,h2,if_neg (by simp),show ((3:Int),(0:Int)).1.toNat=3 from rfl,m2,if_neg (by simp)];rfl
theorem qkp:Qt (p2 false) [2,3]=(1,6,0):=by
 have h1:Jh (p2 false) [wG] ((0:Nat):Int) [2,3]=(6,0):=by kernel_rfl
 have hr:(qq (p2 false)).1=[wG]:=by rw[ww]
 have hev:yD (kQ (p2 false).vars [2,3]) wG=1:=by kernel_rfl
 have m1:yG 1 1 (yk (yp (p2 false) 0 [2,3]) 6).1 (yk (yp (p2 false) 0 [2,3]) 6).2=(1,6,0):=by kernel_rfl
 unfold Qt;rw[ww,if_neg (by simp),if_neg (by rw[show qH (p2 false).vars [2,3]=true by kernel_rfl];simp),if_neg (by rw[qer (by rw[hev];decide) (by kernel_rfl)];simp)];show Jo (p2 false) [2,3] [0] 1 1=_;rw[qcx hr,h1,if_neg (by simp),show ((6:Int),(0:Int)).1.toNat=6 from rfl,m1,if_neg (by simp)];rfl
theorem qmX (b:Bool):Pure Tryz.prog GG 21 [.bool b] (.agg (qE (p2 b))):=by
 refine Pure.kO o0 false qe Tryz.func21 rfl (by kernel_rfl) ?_;cases b
 . simp[-getElem?_pos,zn,zS,qF,qk,qu];simp[p2,wG,w9,qr,j7,zu,Leq,qA,zG,qt,AV.atom]
 . simp[-getElem?_pos,zn,zS,qF,qk,qu];simp[p2,wG,w9,qr,j7,zu,Leq,qA,zG,qt,AV.atom]
theorem qaD (b:Bool):RnH (p2 b):=by
 refine⟨⟨by simp[p2],by simp[p2,Fits],by simp[p2],by simp[p2],?_,by simp[p2,Fits],by simp[p2],by cases b<;>simp[p2,Fits],by cases b<;>simp[p2,Fits]⟩,by simp[p2],?_,by simp[p2],by simp[p2],by simp[p2]⟩
 . intro e he;have:e=wG:=by simpa[p2] using he
   subst this;refine⟨?_,?_,?_⟩
   . intro x hx;have:x=wG\/x=w9 [97]\/x=w9 [98]:=by simpa[wG,pre,kx,w9] using hx
     rcases this with rfl|rfl|rfl<;>simp[wG,w9,Fits,Ex.args,Ex.name]
   . decide
   . decide
 . unfold qz;rw[if_neg (by simp[WM])];cases b<;>decide
theorem WG:Pure Tryz.prog GG 8 [] (.bool true):=by
 refine Pure.k qe Tryz.func8 rfl (by kernel_rfl) ?_;have hl:∀ b,qj (p2 b)=0->(NG (p2 b)).flatten.length<=12:=fun b _=>by cases b<;>decide
 have h1:=qdl (p2 true) (qaD true);have h2:=qp5 (p2 true) (qaD true) 1 [0,0];have h3:=qjx (p2 true) (qaD true) [0,1] (by simp[Fits]);have h4:=qjx (p2 false) (qaD false) [2,3] (by simp[Fits]);have h5:=qmD (p2 false) (qaD false) (hl false) 0 [0,0] 5;rw[sol_p2]at h1;rw[tot_p2]at h2;rw[qoq]at h3;rw[qkp]at h4;rw[chs_p2]at h5;have q1:=qmX true;have q2:=qmX false;simp only[qE,qqp,qqU,qt]at h1 h2 h3 h4 h5 q1 q2;simp[-getElem?_pos];refine qc.call q1 (by simp) ?_;simp[-getElem?_pos];refine qc.call h1 (by simp) ?_;simp[-getElem?_pos];refine qc.call q1 (by simp) ?_;simp[-getElem?_pos,qk,qu];refine qc.less h2 (by simp) (by simp[zu,Leq,j7]) ?_;simp[-getElem?_pos];refine qc.call q1 (by simp) ?_;simp[-getElem?_pos,qk,qu];refine qc.less h3 (by simp) (by simp[zu,Leq,j7]) ?_;simp[-getElem?_pos];refine qc.call q2 (by simp) ?_;simp[-getElem?_pos,qk,qu];refine qc.less h4 (by simp) (by simp[zu,Leq,j7]) ?_;simp[-getElem?_pos];refine qc.call q2 (by simp) ?_;simp[-getElem?_pos,qk,qu];refine qc.less h5 (by simp) (by simp[zu,Leq,j7]) ?_;simp[-getElem?_pos,qnn]
noncomputable def qlJ (p:Problem)(b:Int):Bool:=jA p&&decide (yP p.vars (qz p)<=b)
noncomputable def KT (p:Problem)(b:Int):Bool:=qlJ p b&&decide (qj p=0)
theorem few42 (p:Problem)(h:VM p)(b:Int):Pure Tryz.prog GG 19 [.agg (qE p),.int .i64 b] (.bool (qlJ p b)):=by
 refine Pure.k qe Tryz.func19 rfl (by kernel_rfl) ?_;have hs:=qob p h.h.exprs;obtain⟨res,hres⟩:∃ res,res=qlJ p b:=⟨_,rfl⟩;rw[<- hres];unfold qlJ at hres;simp only[qE]at hs;simp[-getElem?_pos];refine qc.call hs (by simp) ?_
 cases hsm:jA p with
 | false=>
  rw[hsm,qrV]at hres;subst hres;simp[-getElem?_pos]
 | true=>
  have hb:=bits25 p (h.h.small hsm);rw[hsm,qrg]at hres;simp only[qE]at hb;simp[-getElem?_pos];refine qc.call hb (by simp) ?_;simp[-getElem?_pos];exact hres.symm
theorem qoa (p:Problem)(h:VM p)(b:Int):Pure Tryz.prog GG 7 [.agg (qE p),.int .i64 b] (.bool (KT p b)):=by
 refine Pure.k qe Tryz.func7 rfl (by kernel_rfl) ?_;have hs:=few42 p h b;obtain⟨res,hres⟩:∃ res,res=KT p b:=⟨_,rfl⟩;rw[<- hres];unfold KT at hres;simp only[qE]at hs;simp[-getElem?_pos];refine qc.call hs (by simp) ?_
 cases hsm:qlJ p b with
 | false=>
  rw[hsm,qrV]at hres;subst hres;simp[-getElem?_pos]
 | true=>
  have hsm':jA p=true:=by
   unfold qlJ at hsm;simp only[qqi]at hsm;exact hsm.1
  have hb:=qn1 p (h.h.small hsm');rw[hsm,qrg]at hres;simp only[qE]at hb;simp[-getElem?_pos];refine qc.call hb (by simp) ?_;simp[-getElem?_pos];rw[hres];rfl
theorem qps {p:Problem}(h:VM p){b:Int}(hb:b<=18)(hf:qlJ p b=true):RnH p/\VP p:=by
 unfold qlJ at hf;simp only[qqi,decide_eq_true_eq]at hf;have hvp:=h.h.small hf.1;have hs:=hf.1;simp only[jA,qqi,qrv,qs9,decide_eq_false_iff_not,qqo,decide_eq_true_eq]at hs;obtain⟨⟨⟨⟨⟨⟨⟨⟨a1,a2⟩,a3⟩,a4⟩,a5⟩,b1⟩,b2⟩,b3⟩,b4⟩:=hs;exact⟨⟨hvp.q,by omega,by omega,by omega,by omega,fun d hd=>by have:=b3 d hd;omega⟩,hvp⟩
theorem qgZ {p:Problem}(h:VM p){b:Int}(hb:b<=18)(hf:KT p b=true):RnH p/\VP p/\qj p=0/\yP p.vars (qz p)<=b:=by
 unfold KT at hf;simp only[qqi,decide_eq_true_eq]at hf;have h1:=qps h hb hf.1;have h2:=hf.1;unfold qlJ at h2;simp only[qqi,decide_eq_true_eq]at h2;exact⟨h1.1,h1.2,hf.2,h2.2⟩
noncomputable def qh6 (p:Problem)(a:List Int):Bool:=decide ((qq p).2=0)&&(qq p).1.all (jM p a)
theorem qaC {p:Problem}(h:(qq p).2≠0):(qq p).1=[]:=by
 unfold qq at h⊢;split
 . rename_i hv;rw[if_pos hv]at h;split
   . rename_i hs;rw[if_pos hs]at h;exact absurd rfl h
   . rfl
 . rfl
theorem qfs {p:Problem}(h:RnH p):∀ e∈(qq p).1,Wen e/\hgt e<=1000/\(pre e).length<=100000:=by
 intro e he;by_cases h0:(qq p).2=0
 . exact ((Qr h.q h.dl h.sl h0).2.1 e he).2
 . rw[qaC h0]at he;cases he
theorem qhe {p:Problem}(h:RnH p):(qq p).1.length<=50000:=by
 by_cases h0:(qq p).2=0
 . exact (Qr h.q h.dl h.sl h0).2.2.1
 . rw[qaC h0];simp
theorem qfn (p:Problem)(h:RnH p)(a:List Int)(ha:Fits a):Pure Tryz.prog GG 14 [.agg (qE p),.sl 1 (a.map qt) .none] (.bool (qh6 p a)):=by
 refine Pure.k qe Tryz.func14 rfl (by kernel_rfl) ?_;have hr:=qdm p h.q h.v20 h.bits h.dl h.sl;have hx:=qfs h;obtain⟨res,hres⟩:∃ res,res=qh6 p a:=⟨_,rfl⟩;rw[<- hres];unfold qh6 at hres;have hho:=fun e (he:e∈(qq p).1)=>Vo p a e h.q ha (hx e he).1 (hx e he).2.1 (hx e he).2.2
 have hRl:(qq p).1.length<=50000:=qhe h;generalize qq p=RR at *;obtain⟨R,e⟩:=RR;dsimp only at hr hres hho hRl;simp only[qE]at hr hho;simp[-getElem?_pos];refine qc.call hr (by simp) ?_;by_cases he:e=0
 case neg=>
  rw[decide_eq_false he,qrV]at hres;subst hres;simp[-getElem?_pos,he]
 subst he;rw[decide_eq_true rfl,qrg]at hres;simp[-getElem?_pos];refine qX.listR R (fun d ev U=>ev 1=.sl 1 (a.map qt) .none/\ev 2=.ptr 0 0/\ev 5=.sl 4 (R.map qr) .none/\ev 7=.int .i64 d.length/\U=⟨[.cells (qE p)],[]⟩/\res=(R.drop d.length).all (jM p a)) ?_ ?_ ?_
 . exact⟨by simp,by simp,by simp,by simp,by simp[qE],by simpa using hres⟩
 . rintro d x rest ev U Rr hR hd hxx hlt ⟨e1,e2,e5,e7,rfl,hr2⟩;have hdw:=wr (n:=(d.length:Int)+1) (by omega) (by omega);have hlt':(d.length:Int)<R.length:=(by omega);have hh:=hho x (qqd hxx);have hdr:R.drop d.length=x::R.drop (d.length+1):=by
    obtain⟨h1,h2⟩:=qqc.1 hxx;rw[qqu h1,h2]
   rw[hdr,qrR]at hr2;simp[-getElem?_pos,-qQ,e1,e2,e5,e7,hlt,hlt',hxx,zc,yh,Zm,qE];refine qc.call hh (by simp) ?_
   cases hq:jM p a x with
   | false=>
    rw[hq,qrV]at hr2;subst hr2;simp[-getElem?_pos,unA]
   | true=>
    rw[hq,qrg]at hr2;simp[-getElem?_pos,unA,e7,hdw];exact hR _ _ ⟨by simp[e1],by simp[e2],by simp[e5],by simp,by simp[qE],by rw[qqg];exact hr2⟩
 . rintro ev U ⟨e1,e2,e5,e7,rfl,hr2⟩;have:res=true:=by rw[hr2,qr1];rfl
   subst this;simp[-getElem?_pos,e1,e2,e5,e7]
theorem qdh {p:Problem}(hv:qj p=0){a:List Int}(ha:a∈yl p.vars){i:Nat}(hi:i∈(NG p).flatten):∃ x:Nat,a[i]?=some (x:Int)/\x<2 ^ z0 p i/\aN a i=x:=by
 obtain⟨v,hvi,hm⟩:=yx hv hi;obtain⟨x,h1,h2⟩:=wE (wY.1 ha) hvi;rw[if_neg hm]at h2;obtain⟨n,rfl⟩:=qqL h2.1;refine⟨n,h1,?_,by unfold aN;rw[qqm,h1];simp⟩;rw[(qnR hv hvi).1];unfold jx at h2;omega
theorem qdz {p:Problem}{R:List Ex}{val:Nat->Nat}:∀ (g:List Nat) (c:List (Nat×Nat)),(∀ i∈g,val i<2 ^ z0 p i)->vA p val g*(if okC p R (c++g.map fun i=>(i,val i))=true then 1 else 0)<=ji p R (fun _=>none) g c
 | [],c,_=>by
  unfold ji vA;simp
 | i::r,c,h=>by
  have ih:=qdz (p:=p) (R:=R) r (c++[(i,val i)]) fun k hk=>h k (by simp[hk])
  unfold ji vA;rw[qqI]at ih;have hm:val i∈List.range (2 ^ z0 p i):=qri.2 (h i (by simp));have:=qgV (f:=fun v=>wtP p i v*ji p R (fun _=>none) r (c++[(i,v)])) hm;refine qq6 ?_ this;rw[qtk];exact Nat.mul_le_mul_left _ ih
theorem W4 {p:Problem}{val:Nat->Nat}:∀ {g:List Nat},(∀ i∈g,0<wtP p i (val i))->0<vA p val g
 | [],_=>Nat.one_pos
 | i::r,h=>qte (h i (by simp)) (W4 fun k hk=>h k (by simp[hk]))
theorem qmA {p:Problem}(hv:qj p=0){gi i:Nat}(hgi:gi<(NG p).length)(hi:i∈((NG p).take gi).flatten):i∉(NG p).getD gi []:=fun h'=>by
 obtain⟨g,hg⟩:∃ g,(NG p)[gi]?=some g:=⟨_,qqe hgi⟩;rw[show (NG p).getD gi []=g by rw[qqm,hg];rfl]at h';have hnf:=JV hv;obtain⟨post,hpost⟩:=JU hg;rw[hpost]at hnf;exact (qq9.1 (qq9.1 hnf).1).2.2 i hi i h' rfl
theorem qj5 {p:Problem}{g gi i:Nat}(h:g<=gi)(hi:i∈((NG p).take g).flatten):i∈((NG p).take gi).flatten:=by
 obtain⟨l,h1,h2⟩:=qqM.1 hi;exact qqM.2 ⟨l,(List.take_sublist_take_left h).subset h1,h2⟩
noncomputable def qcg (p:Problem)(a:List Int)(g:Nat):Nat:=ji p (qq p).1 (fun _=>none) ((NG p).getD g []) (yq p a g)
theorem qev {p:Problem}(hv:qj p=0):∀ (k gi:Nat) (a:List Int) (r:Rng),gi+k=(NG p).length->EndA p a gi->(∀ g<gi,qcg p a g<lim)->(qcO p (List.range' gi k) a r).2.2=0->∀ g<(NG p).length,qcg p (qcO p (List.range' gi k) a r).1 g<lim
 | 0,gi,a,r,hk,h,ht,_=>by
  have:gi=(NG p).length:=by omega
  subst this;exact ht
 | k+1,gi,a,r,hk,h,ht,he=>by
  rw[qrt]at he ⊢;unfold qcO at he ⊢;split at he
  . exact absurd he (by assumption)
  . rename_i h1;rw[if_neg h1];split at he
    . exact absurd he (by assumption)
    . rename_i h2;rw[if_neg h2];obtain⟨t1,t2,t3,t4,t5⟩:=qgQ (qqY.1 h1);have hb:0<=(j4 (kI p gi a).1 r).1/\(j4 (kI p gi a).1 r).1<(kI p gi a).1:=by
       unfold j4 at h2 ⊢;split at h2
       . exact absurd (show ((1:Int))≠0 by decide) h2
       . rename_i hc;rw[if_neg hc];exact vN (by rw[t3];omega) r
      rw[t3]at hb;obtain⟨c1,c2,c3,c4⟩:=qbG hv t1 h.good (idx:=(j4 (kI p gi a).1 r).1) (by rw[t3];exact hb.1) (by rw[t3];exact hb.2) t5;have same:∀ i∈((NG p).take gi).flatten,aN (jn p gi a (j4 (kI p gi a).1 r).1) i=aN a i:=fun i hi=>by
       unfold aN;rw[qqm,qqm,c3 i (qmA hv t1 hi)]
      have pre:∀ g≤gi,qcg p (jn p gi a (j4 (kI p gi a).1 r).1) g=qcg p a g:=fun g hg=>by
       unfold qcg;congr 1;unfold yq;exact qrk fun i hi=>by rw[same i (qj5 hg hi)]
      refine qev hv k (gi+1) _ _ (by omega) ⟨c1,c2,fun i hi=>?_⟩ (fun g hg=>?_) he
      . obtain⟨g,hg⟩:∃ g,(NG p)[gi]?=some g:=⟨_,qqe t1⟩;have hgd:(NG p).getD gi []=g:=(by rw[qqm,hg];rfl);rw[qqH,hg]at hi;simp only[Option.toList,qrC,qqA]at hi;rcases hi with hi|hi
        . rw[same i hi];exact h.pos i hi
        . rw[hgd]at c4;exact c4 i (by simpa using hi)
      . rw[pre g (by omega)];by_cases hgg:g=gi
        . subst hgg;exact t5
        . exact ht g (by omega)
theorem qg1 {p:Problem}{r:Rng}(h:(ya p r).2.2=0):∀ g<(NG p).length,qcg p (ya p r).1 g<lim:=by
 unfold ya at h⊢;split at h
 . exact absurd h (by assumption)
 . rename_i h1;rw[if_neg h1];have h0:=qqY.1 h1;obtain⟨hv,_,hs,_⟩:=Zo h0;rw[qrr]at h ⊢;exact qev hv (NG p).length 0 (qP p.vars) r (by omega) ⟨Wo p,by
    have:yq p (qP p.vars) 0=[]:=by simp[yq]
    rw[this,qhz];exact hs,fun i hi=>by simp at hi⟩ (fun g hg=>by omega) h
theorem qdU {p:Problem}{val:Nat->Nat}:∀ {g:List Nat},(∀ i∈g,0<wtP p i (val i))->∀ i∈g,wtP p i (val i)<=vA p val g
 | [],_,i,hi=>by cases hi
 | j::g,h,i,hi=>by
  have hp:0<vA p val g:=W4 fun i hi=>h i (by simp[hi])
  unfold vA;rcases qqE.1 hi with rfl|hi
  . exact qtC _ hp
  . have ih:=qdU (g:=g) (fun i hi=>h i (by simp[hi])) i hi;exact qq6 ih (Nat.le_mul_of_pos_left _ (h j (by simp)))
structure SolA (p:Problem)(a:List Int):Prop where
 all:a∈yl p.vars
 sat:wu p.vars (qq p).1 a=true
 pos:∀ i∈(NG p).flatten,0<wtP p i (aN a i)/\aN a i<2 ^ z0 p i
 tot:∀ g<(NG p).length,0<qcg p a g/\qcg p a g<lim
theorem qkX {p:Problem}{R:List Ex}{a:List Int}(ha:a∈yl p.vars)(hs:wu p.vars R a=true)(hv:qj p=0){l:List Nat}(hl:∀ i∈l,i∈(NG p).flatten):okC p R (l.map fun i=>(i,aN a i))=true:=by
 unfold okC;refine qqF.2 ⟨a,ha,?_⟩;rw[qqi];refine⟨hs,qqo.2 fun q hq=>?_⟩;obtain⟨i,hi,rfl⟩:=qqG.1 hq;obtain⟨x,h1,h2,h3⟩:=qdh hv ha (hl i hi);simp[h1,h3]
theorem qmK {p:Problem}(hv:qj p=0){a:List Int}(ha:a∈yl p.vars)(hs:wu p.vars (qq p).1 a=true){g:Nat}(hg:g<(NG p).length):vA p (aN a) ((NG p).getD g [])<=qcg p a g:=by
 have hin:∀ i∈(NG p).getD g [],i∈(NG p).flatten:=fun i hi=>by
  rw[qqm,qqe hg]at hi;exact qqM.2 ⟨_,qrQ hg,hi⟩
 have h:=qdz (p:=p) (R:=(qq p).1) (val:=aN a) ((NG p).getD g []) (yq p a g) fun i hi=>by
  obtain⟨x,h1,h2,h3⟩:=qdh hv ha (hin i hi);rw[h3];exact h2
 have hok:okC p (qq p).1 (yq p a g++((NG p).getD g []).map fun i=>(i,aN a i))=true:=by
  unfold yq;rw[<- qrb];refine qkX ha hs hv fun i hi=>?_
  rcases qqA.1 hi with hi|hi
  . obtain⟨l,h1,h2⟩:=qqM.1 hi;exact qqM.2 ⟨l,qrf h1,h2⟩
  . exact hin i hi
 rw[hok,if_pos rfl,Nat.mul_one]at h;exact h
theorem qg2 {p:Problem}{r:Rng}(h:(ya p r).2.2=0):qj p=0/\(qq p).2=0/\SolA p (ya p r).1:=by
 obtain⟨hv,h0,he,hall,hsat⟩:=qkd h;have ht:=qg1 h;have hpos:=he.pos;rw[qqk (qqn _)]at hpos;refine⟨hv,h0,hall,hsat,hpos,fun g hg=>⟨?_,ht g hg⟩⟩;have h1:=qmK hv hall hsat hg;have h2:0<vA p (aN (ya p r).1) ((NG p).getD g []):=W4 fun i hi=>by
  rw[qqm,qqe hg]at hi;exact (hpos i (qqM.2 ⟨_,qrQ hg,hi⟩)).1
 omega
theorem qg5 {p:Problem}(hv:qj p=0){a:List Int}(h:SolA p a){g:Nat}(hg:g<(NG p).length):kI p g a=(((qcg p a g:Nat):Int),0):=by
 have ha:=kg hv h.all;obtain⟨t1,t2⟩:=h.tot g hg;have hs:VY p (fun _=>none) a g=qcg p a g:=by
  rw[J9];show sat (qcg p a g)=_;unfold sat;omega
 unfold kI;rw[if_neg (by rw[ha];simp;omega),qqT,hs,if_neg (by omega),if_neg (by omega)]
theorem wt_lt {p:Problem}(hv:qj p=0){a:List Int}(h:SolA p a){i:Nat}(hi:i∈(NG p).flatten):wtP p i (aN a i)<lim:=by
 obtain⟨l,h1,h2⟩:=qqM.1 hi;obtain⟨g,hg⟩:=qqN h1;have hgl:=(qqc.1 hg).1;have hgd:(NG p).getD g []=l:=by rw[qqm,hg];rfl
 have h3:=qmK hv h.all h.sat hgl;rw[hgd]at h3;have h4:=qdU (p:=p) (val:=aN a) (g:=l) (fun i hi=>(h.pos i (qqM.2 ⟨l,h1,hi⟩)).1) i h2;have h5:=(h.tot g hgl).2;omega
theorem qhn {p:Problem}{gi:Nat}{a:List Int}(h:∀ i∈(NG p).getD gi [],0<wtP p i (aN a i)):0<yp p gi a:=by
 have:∀ (l:List Nat) (n:Nat),0<n->(∀ i∈l,0<wtP p i (aN a i))->0<l.foldl (fun n i=>sat (n*wtP p i (aN a i))) n:=by
  intro l
  induction l with
  | nil=>intro n hn _;exact hn
  | cons i l ih=>
   intro n hn h;rw[qqR];refine ih _ ?_ fun i hi=>h i (by simp[hi])
   have h1:=qte hn (h i (by simp));exact qsy fun e=>by rw[Yh]at e;omega
 exact this _ 1 (by decide) h
theorem qaI {p:Problem}(hv:qj p=0){a:List Int}(h:SolA p a):∀ (l:List Nat) (n d:Nat),(∀ g∈l,g<(NG p).length)->0<n->(Jo p a l n d).2.2=3\/(Jo p a l n d).2.2=0/\0<(Jo p a l n d).1
 | [],n,d,_,hn=>.inr ⟨rfl,hn⟩
 | g::l,n,d,hl,hn=>by
  have hg:=hl g (by simp);unfold Jo;rw[qg5 hv h hg,if_neg (by simp)];split
  . exact .inl rfl
  . rename_i he;refine qaI hv h l _ _ (fun g hg=>hl g (by simp[hg])) ?_;have hp:0<yp p g a:=qhn fun i hi=>by
     rw[qqm,qqe hg]at hi;exact (h.pos i (qqM.2 ⟨_,qrQ hg,hi⟩)).1
    have he':=qqY.1 he;rw[qqT]at he' ⊢;have hm:0<(yk (yp p g a) (qcg p a g)).1:=qsA (qsc hp (qsh _ _)) (qss _ hp);generalize (yk (yp p g a) (qcg p a g)).1=x at *;generalize (yk (yp p g a) (qcg p a g)).2=y at *;unfold yG qdS at he' ⊢;split
    . dsimp only;exact qte (qsA (qsc hn (qsh _ _)) (qss _ hn)) (qsA (qsc hm (qsh _ _)) (qss _ hm))
    . rename_i hc;rw[if_neg hc]at he';cases he'
theorem Yg {p:Problem}(hv:qj p=0){a:List Int}(ha:a∈yl p.vars){R:List Ex}(hs:wu p.vars R a=true):R.all (jM p a)=true:=by
 unfold wu at hs;rw[qqo]at hs ⊢;exact fun e he=>Vt hv (by simpa using hs e he) (kg hv ha)
theorem qko {p:Problem}(hv:qj p=0)(h0:(qq p).2=0){a:List Int}(h:SolA p a):(Qt p a).2.2=3\/(Qt p a).2.2=0/\0<(Qt p a).1:=by
 unfold Qt;rw[if_neg (fun e=>e h0),if_neg (by rw[kg hv h.all];simp),if_neg (by rw[Yg hv h.all h.sat];simp)];exact qaI hv h _ 1 1 (fun g hg=>qri.1 hg) (by decide)
theorem Ww {p:Problem}(h:qj p=0){k:Nat}{d:Dist}(hk:p.dists[k]?=some d):yi p.vars d.var=true/\∀ y∈p.dists.take k,y.var≠d.var:=by
 have hd:jZ p.vars p.dists=0:=by
  unfold qj at h;split at h
  . exact absurd h (by assumption)
  . split at h
    . rename_i h1;exact absurd h h1
    . split at h
      . rename_i h1;exact absurd h h1
      . rename_i h1;exact qqY.1 h1
 have hkl:=(qqc.1 hk).1;unfold jZ at hd;have:=zr.1 hd k (by simp;omega);unfold jz at this;rw[hk]at this;simp only at this;split at this
 . cases this
 . rename_i hr;split at this
   . cases this
   . rename_i ht;refine⟨by simpa using hr,fun y hy e=>ht (qqF.2 ⟨y,hy,by simp[e]⟩)⟩
theorem qhT {p:Problem}(h:qj p=0){d:Dist}(hd:d∈p.dists):∃ i:Nat,d.var=i/\i<p.vars.length/\i∈(NG p).flatten/\(jf p.vars.length p.dists)[i]?=some (some d.weights):=by
 obtain⟨k,hk⟩:=qqN hd;have hkl:=(qqc.1 hk).1;obtain⟨h1,h2⟩:=Ww h hk;simp only[yi,qqi,decide_eq_true_eq]at h1;obtain⟨i,hi⟩:=qqL h1.1;rw[hi,qqT]at h1;obtain⟨v,hvi,hm⟩:∃ v,p.vars[i]?=some v/\v.mode≠0:=by
  cases hv:p.vars[i]? with
  | none=>rw[hv]at h1;simp at h1
  | some v=>rw[hv]at h1;exact⟨v,rfl,by simpa using h1.2⟩
 have hil:=(qqc.1 hvi).1;refine⟨i,hi,hil,JD h hvi hm,?_⟩;have later:∀ y∈p.dists.drop (k+1),y.var.toNat≠i:=fun y hy e=>by
  obtain⟨j,hj⟩:=qqN hy;rw[qq1]at hj;obtain⟨g1,g2⟩:=Ww h hj;simp only[yi,qqi,decide_eq_true_eq]at g1;refine g2 d ?_ (by omega);refine qqd (i:=k) ?_;rw[qty (by omega),hk]
 have keep:∀ (l:List Dist) (o:List (Option (List Weight))),(∀ y∈l,y.var.toNat≠i)->(l.foldl (fun o d=>o.set d.var.toNat (some d.weights)) o)[i]?=o[i]? := by
  intro l
  induction l with
  | nil=>intro o _;rfl
  | cons y l ih=>
   intro o hl;rw[qqR,ih _ fun z hz=>hl z (by simp[hz]),qqf (hl y (by simp))]
 have e:p.dists=p.dists.take k++d::p.dists.drop (k+1):=by
  obtain⟨x1,x2⟩:=qqc.1 hk;have:=qq8 k p.dists;rw[qqu x1,x2]at this;exact this.symm
 unfold jf;rw[e,qrp,qqR,keep _ _ later,hi,qqT];refine qqh ?_;have:=yr p.vars.length (p.dists.take k);unfold jf at this;rw[this];exact hil
theorem qg3 {p:Problem}{r:Rng}(h:(ya p r).2.2≠0):(ya p r).1=[]:=by
 have:∀ (l:List Nat) (a:List Int) (r:Rng),(qcO p l a r).2.2≠0->(qcO p l a r).1=[]:=by
  intro l
  induction l with
  | nil=>intro a r h;exact absurd rfl h
  | cons g l ih=>
   intro a r h;unfold qcO at h⊢;split
   . rfl
   . rename_i h1;rw[if_neg h1]at h;split
     . rfl
     . rename_i h2;rw[if_neg h2]at h;exact ih _ _ h
 unfold ya at h⊢;split
 . rfl
 . rename_i h1;rw[if_neg h1]at h;exact this _ _ _ h
theorem dist_w {p:Problem}(hv:qj p=0){a:List Int}(h:SolA p a){d:Dist}(hd:d∈p.dists):∃ (i:Nat) (x:Int),d.var=i/\a[i]?=some x/\(jT d.weights x).2=0/\1<=(jT d.weights x).1:=by
 obtain⟨i,h1,h2,h3,h4⟩:=qhT hv hd;obtain⟨x,g1,g2,g3⟩:=qdh hv h.all h3;refine⟨i,x,h1,g1,?_⟩;have hp:=(h.pos i h3).1;have hl:=wt_lt hv h h3;unfold wtP at hp hl;rw[qqm,h4,g3]at hp hl;dsimp only[Option.getD,wtO]at hp hl;split at hl
 . omega
 . rename_i he;rw[if_neg he]at hp;refine⟨qqY.1 he,?_⟩;have:sat (jT d.weights (x:Int)).1.toNat≠0:=by omega
   rw[Ne,Yh]at this;omega
theorem qfl {p:Problem}(hr:RnH p)(hv:qj p=0)(hb:yP p.vars (qz p)<=10):(NG p).flatten.length<=12:=by
 have h1:=qdn hv hr.q.vars;have:∀ l:List Nat,(∀ i∈l,i∈(NG p).flatten)->l.length<=LW p l:=by
  intro l
  induction l with
  | nil=>intro _;simp
  | cons i l ih=>
   intro h;have h2:=ih fun j hj=>h j (by simp[hj])
   obtain⟨v,hvi,hm⟩:=yx hv (h i (by simp));have hw:=(zd (jl hv v (qqd hvi))).2;have h3:=(qnR hv hvi).1;have e:LW p (i::l)=z0 p i+LW p l:=(by simp[LW]);rw[e,qqs];omega
 have:=this _ fun i hi=>hi
 omega
theorem qcr (p:Problem)(r:Rng)(h:VM p):Pure Tryz.prog GG 6 [.agg (qE p),.agg (wW r)] (.bool true):=by
 refine Pure.k qe Tryz.func6 rfl (by kernel_rfl) ?_;have hs:=qoa p h 10;simp only[qE]at hs;simp[-getElem?_pos,wW];refine qc.call hs (by simp) ?_
 cases hso:KT p 10 with
 | false=>
  simp[-getElem?_pos,unA];refine qc.call WG (by simp) ?_;simp[-getElem?_pos]
 | true=>
  obtain⟨hr,hvp,hv,hb⟩:=qgZ h (by decide) hso;have hl12:=qfl hr hv hb;have s1:=qp7 p hr.q hr.v20 (fun _=>hl12) hr.bits hr.dl hr.sl hr.wl r;have hnil:=qg3 (p:=p) (r:=r);have hsol:=qg2 (p:=p) (r:=r);unfold slvV at s1;generalize ya p r=sr at *;obtain⟨a,r',e⟩:=sr;dsimp only at s1 hnil hsol;simp only[qE,wW]at s1;simp[-getElem?_pos,unA];refine qc.call s1 (by simp) ?_;by_cases he:e=0
  case neg=>
   have:=hnil he;subst this;simp[-getElem?_pos,he];refine qc.call WG (by simp) ?_;simp[-getElem?_pos]
  subst he;obtain⟨-,h0,hsa⟩:=hsol rfl;have hal:a.length=p.vars.length:=(wY.1 hsa.all).len;have hal':(a.length:Int)=p.vars.length:=by omega
  have hvl:=hr.q.vars;have haf:Fits a:=by unfold Fits;omega
  have hass:=kg hv hsa.all;have hneed:=(Zo h0).2.2.2;have hhard:∀ e∈p.hard,jM p a e=true:=fun e he=>qqo.1 (Yg hv hsa.all hsa.sat) e (hneed e (by unfold zM;simp[he]))
  have hq:=hr.q;simp[-getElem?_pos,hal'];refine qX.listR p.hard (fun d ev U=>ev 2=.ptr 0 0/\ev 5=.sl 1 (a.map qt) .none/\ev 8=.int .i64 d.length/\∃ u,U=⟨.cells (qE p)::u,[]⟩) ?_ ?_ ?_
  . exact⟨by simp,by simp,by simp,by simp[qE]⟩
  . rintro d x rest ev U Rr hR hd hxx hlt ⟨e2,e5,e8,u,rfl⟩;have hhl:=hq.hard;have hdw:=wr (n:=(d.length:Int)+1) (by omega) (by omega);have hlt':(d.length:Int)<p.hard.length:=(by omega);have hm:=qqd hxx;have hex:=hq.exprs x (by simp[hm]);have hh:=Vo p a x hq haf hex.1 hex.2.1 hex.2.2;rw[hhard x hm]at hh;simp only[qE]at hh;simp[-getElem?_pos,-qQ,e2,e5,e8,hlt,hlt',hxx,zc,yh,Zm,qE];refine qc.call hh (by simp) ?_;simp[-getElem?_pos,unA,e8,hdw];exact hR _ _ ⟨by simp[e2],by simp[e5],by simp,u,by simp[qE]⟩
  . rintro ev U ⟨e2,e5,e8,u,rfl⟩;simp[-getElem?_pos,e2,e5,e8,qE];refine qX.listR p.dists (fun d ev U=>ev 2=.ptr 0 0/\ev 5=.sl 1 (a.map qt) .none/\ev 9=.int .i64 d.length/\∃ u,U=⟨.cells (qE p)::u,[]⟩) ?_ ?_ ?_
    . exact⟨by simp[e2],by simp[e5],by simp,by simp[qE]⟩
    . rintro d x rest ev U Rr hR hd hxx hlt ⟨e2,e5,e9,u,rfl⟩;have hdl:=hr.dl;have hdw:=wr (n:=(d.length:Int)+1) (by omega) (by omega);have hlt':(d.length:Int)<p.dists.length:=(by omega);have hm:=qqd hxx;obtain⟨i,y,g1,g2,g3,g4⟩:=dist_w hv hsa hm;have hil:=(qqc.1 g2).1;have hil':(i:Int)<a.length:=(by omega);have hw:=qdr x.weights (hr.wl x hm) y;generalize jT x.weights y=wd at *;obtain⟨w1,w2⟩:=wd;dsimp only at g3 g4 hw;subst g3;have g4':¬ w1<1:=(by omega);simp[-getElem?_pos,e2,e5,e9,hlt,hlt',hxx,qE,g1,g2,hil,hil'];refine qc.call hw (by simp) ?_;simp[-getElem?_pos,unA,e9,hdw,g4'];exact hR _ _ ⟨by simp[e2],by simp[e5],by simp,u,by simp[qE]⟩
    . rintro ev U ⟨e2,e5,e9,u,rfl⟩;have s4:=qjx p hr a haf;have s5:=qfn p hr a haf;have hpp:=qko hv h0 hsa;have his:qh6 p a=true:=by
       unfold qh6;rw[decide_eq_true h0,Yg hv hsa.all hsa.sat];rfl
      rw[his]at s5;generalize Qt p a=pb at *;obtain⟨n,d,e⟩:=pb;dsimp only at s4 hpp;simp only[qE]at s4 s5;simp[-getElem?_pos,e2,e5,e9,qE];refine qc.call s4 (by simp) ?_;rcases hpp with rfl|⟨rfl,hn⟩
      . simp[-getElem?_pos,e2,e5];refine qc.call s5 (by simp) ?_;simp[-getElem?_pos];refine qc.call WG (by simp) ?_;simp[-getElem?_pos]
      . have hn':(0:Int)<n:=(by omega);simp[-getElem?_pos,e2,e5,hn,hn'];refine qc.call s5 (by simp) ?_;simp[-getElem?_pos];refine qc.call WG (by simp) ?_;simp[-getElem?_pos]
end Go.Proofs.YtkpkjbchlabaaaaGreatDoor
end
section
namespace Go.Proofs.YtkpkjbchlabaaaaGreatDoor
open Go Go.Abs Go.ChangeShapes Go.WideShapes Go.ChangeAt Go.RowKit
theorem qka {H:Type}{enc:TypeId×Value->H}{W W':World}{v:Value}{d:DataW H}{ps:List MemPlace}{sp:Nat->Bool}(h:DataW.Trod enc Tryz.prog W 0 (fun _=>true) true 27 v d ps)(hb:Go.RowKit.Below W.heap.size W W')(hlt:∀ x∈ps,x.block<W.heap.size)(hs:∀ p∈ps,sp p.block=true) :
 DataW.Trod enc Tryz.prog W' 0 sp true 27 v d ps :=
 WideElems.Trod_stays YI (by kernel_rfl) (of_decide_eq_true (by kernel_rfl)) h (fun x hx=>hb.same (hlt x hx)) hs
theorem qj9 {H:Type}{enc:TypeId×Value->H}{W W':World}{v:Value}{d:DataW H}{ps:List MemPlace}{sp:Nat->Bool}(h:DataW.Trod enc Tryz.prog W 0 (fun _=>true) true 47 v d ps)(hb:Go.RowKit.Below W.heap.size W W')(hlt:∀ x∈ps,x.block<W.heap.size)(hs:∀ p∈ps,sp p.block=true) :
 DataW.Trod enc Tryz.prog W' 0 sp true 47 v d ps :=
 WideElems.Trod_stays YI (by kernel_rfl) (of_decide_eq_true (by kernel_rfl)) h (fun x hx=>hb.same (hlt x hx)) hs
theorem qoY (os:Os)(started:os.Started)(H:Type)(enc:TypeId×Value->H) :
 ReturnsInHanded {} Tryz.checked os 6 .any (fun w args=>(Rows.randomSatisfiesSpec.pre enc Tryz.prog Tryz.f6 [] false w args/\laidMetH Tryz.prog qfR w)/\sizedMet enc Tryz.prog Tryz.f6 (OpenSpec.ofChange Rows.randomSatisfiesSpec) false w args)
  (Rows.randomSatisfiesSpec.post enc Tryz.prog Tryz.f6 false true false false):=by
 refine returnsInHanded_of_change_and (C:=Tryz.checked) (X:=fun w _=>laidMetH Tryz.prog qfR w) (fun _ _ _ hh h=>h.of_heap hh) qoA started (by kernel_rfl) Tryz.func6
  (ChangeSpec.witness_shaped (enc:=enc) (C:=Tryz.checked) (os:=os) (X:=fun w _=>laidMetH Tryz.prog qfR w) false (World.doorLaid Tryz.prog 400 os) #[.agg #[.slice none 0 0,.slice none 0 0,.slice none 0 0,.slice none 0 0,.slice none 0 0],.agg #[.int .u64 0,.int .u64 0]] 8 rfl (World.shaped_of_RefB (by kernel_rfl) (by kernel_rfl)) (by kernel_rfl) (by kernel_rfl) (by kernel_rfl) (qlV os _)) ?_
 intro W base args ds gs before hval0 hW _ hWt hL _;have hval:∀ (j:Nat) t v,Tryz.f6.params[j]?=some t->args[j]?=some v->Value.okWide Tryz.prog W .any base t v:=hval0;have hwt:(DataW.weightsEach Tryz.prog (Tryz.f6.params.toList++Rows.randomSatisfiesSpec.plain.varTypes Tryz.prog) (ds++gs)).all (·<=reachBytes)=true:=hWt;have hW':=hW;obtain⟨p,q,hA0,hV,rfl,hfz,hnd⟩:=hW;have hA:DataW.TrodAll enc Tryz.prog W 0 (fun _=>true) true Tryz.f6.params.toList args.toList ds p:=hA0;rw[Tryz.params6]at hA hval hwt;obtain⟨v0,v1,d0,d1,p0,p1,rfl,rfl,rfl,h0,h1⟩:=trodAll_two hA;obtain⟨rfl,rfl⟩:=trodVars_none hV;have hv0:=hval 0 27 v0 rfl rfl;unfold Value.okWide at hv0;rw[Tryz.underlying27]at hv0;obtain⟨cs0,rfl,_,_⟩:=hv0;have h0':=h0;obtain⟨fuel0,hf0⟩:=h0;have hw0:∀ k∈d0.weights Tryz.prog 27,k<=reachBytes:=fun k hk=>of_decide_eq_true (qqo.1 hwt k (DataW.weights_mem_each (j:=0) (t:=27) rfl rfl k hk))
 obtain⟨x0,hrel0,hg0⟩:=rdP hf0 hw0;have hv1:=hval 1 47 v1 rfl rfl;unfold Value.okWide at hv1;rw[Tryz.underlying47]at hv1;obtain⟨cs1,rfl,_,_⟩:=hv1;have h1':=h1;obtain⟨fuel1,hf1⟩:=h1;obtain⟨x1,hrel1,hg1⟩:=rdR hf1;have hpure:=qcr x0 x1 hg0;have hargs:qh (KMw W) [.agg (qE x0),.agg (wW x1)] (#[Value.agg cs0,Value.agg cs1]:Array Value).toList:=by
  simp only[qh];have g0:qg (KMw W) (.agg (qE x0)) (Value.agg cs0):=by
   unfold qg;exact⟨cs0,rfl,hrel0⟩
  have g1:qg (KMw W) (.agg (wW x1)) (Value.agg cs1):=by
   unfold qg;exact⟨cs1,rfl,hrel1⟩
  exact⟨_,_,rfl,g0,_,_,rfl,g1,rfl⟩
 refine (hpure.2 W (qcs W) #[Value.agg cs0,Value.agg cs1] (qii hL) (fun _ _ _ e=>e) hargs).mono ?_;rintro e W' ⟨v,ro',rfl,hb,_,_,_,hv⟩;have hv1:v=.bool true:=by simpa only[qg] using hv
 subst hv1;have hW2:=hW';simp only[qqV]at hW2;have hlt:=fun x hx=>hW2.lt x hx
 refine⟨_,rfl,[d0,d1],[],p0++p1,[],p0++p1,[],hW2,?_,?_,?_,hb.frame _,fun h=>by cases h⟩
 . exact trodAll_mk1 (shut_bool Tryz.underlying4 true)
 . exact trodAll_mk2 (qka h0' hb (fun x hx=>hlt x (qq5 _ hx)) (fun x hx=>by simpa using hlt x (qq5 _ hx))) (qj9 h1' hb (fun x hx=>hlt x (qrE _ hx)) (fun x hx=>by simpa using hlt x (qrE _ hx)))
 . rfl
end Go.Proofs.YtkpkjbchlabaaaaGreatDoor
end
section
namespace Go.Proofs.YtkpkjbchlabaaaaGreatDoor
open Go
theorem fn6 : Tryz.prog.funcNamed "testbench/testbenchlaw23.RandomSatisfies" = some 6 := by kernel_rfl
theorem inst6:Tryz.f6.isInstance Tryz.prog Rows.randomSatisfiesRow.origin Rows.randomSatisfiesRow.targs:=of_decide_eq_true (by kernel_rfl)
theorem wrap6:Tryz.f6.isWrapper Tryz.prog Rows.randomSatisfiesRow.wrapper Rows.randomSatisfiesRow.mainSum:=by unfold Func.isWrapper;first | (rw[if_pos (by decide +kernel)];kernel_rfl) | (rw[if_neg (by decide +kernel)];exact⟨rfl,rfl⟩)
theorem KA:(Rows.randomSatisfiesRow.inPlace==Tryz.prog.inPlace 6)=true:=by kernel_rfl
theorem ZE:(Rows.randomSatisfiesRow.unfollowed==Tryz.prog.unfollowed 6)=true:=by kernel_rfl
theorem Y1:(Rows.randomSatisfiesRow.recurses==Tryz.prog.recurses 6)=true:=by kernel_rfl
theorem qbx:(Rows.randomSatisfiesRow.named==Tryz.prog.varsNamed 6)=true:=by kernel_rfl
theorem qcY:(Rows.randomSatisfiesRow.wf (OpenSpec.ofChange Rows.randomSatisfiesSpec)&&laidOutB Tryz.prog&&mapsRowed Tryz.prog &&
 Tryz.f6.params.all (Tryz.prog.readableRec ·)&&namedTie Tryz.prog Rows.randomSatisfiesRow.named Rows.randomSatisfiesSpec.vars &&
 (Rows.randomSatisfiesRow.stops == [])&&(Tryz.prog.stops == [])&&(Rows.randomSatisfiesRow.knobs == [])&&(Tryz.prog.stopKnobs == []))=true:=by kernel_rfl
theorem qcX:((Rows.randomSatisfiesRow.maps==(Tryz.f6.params.toList++Rows.randomSatisfiesSpec.plain.varTypes Tryz.prog).any (Tryz.prog.mapsRec ·))&&(Rows.randomSatisfiesRow.ifaces==(Tryz.f6.params.toList++Rows.randomSatisfiesSpec.plain.varTypes Tryz.prog).any (Tryz.prog.ifacesRec ·))&&(Rows.randomSatisfiesRow.mapsOut==Tryz.prog.mapsAmong Tryz.f6.resultTypes.toList) &&
 (Rows.randomSatisfiesRow.loops==(Tryz.f6.params.toList++Rows.randomSatisfiesSpec.plain.varTypes Tryz.prog).any (Tryz.prog.loopsFrom ·))&&(Rows.randomSatisfiesRow.wideKeys==(Tryz.f6.params.toList++Rows.randomSatisfiesSpec.plain.varTypes Tryz.prog++Tryz.f6.resultTypes.toList).any (Tryz.prog.wideKeysFrom ·)) &&
 Rows.randomSatisfiesSpec.vars.all (Tryz.prog.varReadable ·)&&Tryz.f6.resultTypes.all (fun t=>Tryz.prog.readableRec t&&decide (t<Tryz.prog.types.size))&&(Rows.randomSatisfiesRow.ifacesOut==Tryz.f6.resultTypes.toList.any (Tryz.prog.ifacesRec ·))&&(Rows.randomSatisfiesRow.loopsOut==Tryz.f6.resultTypes.toList.any (Tryz.prog.loopsFrom ·))&&(Rows.randomSatisfiesRow.plainKeys==Tryz.prog.plainKeys)&&Rows.randomSatisfiesRow.shortTexts.isNone&&Tryz.prog.stopsHeard&&Tryz.prog.mayEnter&&(Rows.randomSatisfiesRow.lifted==Tryz.prog.liftsFinal)&&(Tryz.prog.make==some Rows.randomSatisfiesRow.make))=true:=by kernel_rfl
theorem qf1:((Rows.randomSatisfiesRow.kinds==(if Rows.randomSatisfiesRow.domain.isEmpty then [] else Tryz.f6.params.toList.map fun t=>match Tryz.prog.underlying t with | some (.int k)=>some k | _=>none))&&(Rows.randomSatisfiesRow.pinned==Rows.randomSatisfiesRow.pinnedBy) &&
 (Rows.randomSatisfiesRow.veiled==(Tryz.f6.params.toList++Rows.randomSatisfiesSpec.plain.varTypes Tryz.prog++Tryz.f6.resultTypes.toList).any (Tryz.prog.veiledRec ·))&&Rows.randomSatisfiesRow.veiledFits Tryz.prog Tryz.f6.params.toList (Tryz.f6.params.toList++Rows.randomSatisfiesSpec.plain.varTypes Tryz.prog++Tryz.f6.resultTypes.toList))=true:=by kernel_rfl
theorem facts6:joinedFacts Tryz.prog 6 Tryz.f6 Rows.randomSatisfiesSpec Rows.randomSatisfiesRow=true:=by
 have h1:=qcY;have h2:=qcX;have h3:=qf1;simp only[Bool.and_eq_true,and_assoc]at h1 h2 h3;unfold joinedFacts;simp only[Bool.and_eq_true,and_assoc];obtain⟨a1,a2,a3,a4,a5,a6,a7,a8,a9⟩:=h1;obtain⟨b1,b2,b3,b4,b5,b6,b7,b8,b9,b10,b11,b12,b13,b14,b15⟩:=h2;obtain⟨c1,c2,c3,c4⟩:=h3;exact⟨a1,a2,a3,a4,a5,a6,a7,a8,a9,KA,ZE,Y1,qbx,b1,b2,b3,b4,b5,b6,b7,b8,b9,b10,b11,b12,b13,b14,b15,c1,c2,c3,c4⟩
theorem Qs:Rows.RandomSatisfiesSaid :=
 OpenClaim.holds_of_wide 6 Tryz.f6 rfl rfl rfl rfl rfl rfl rfl ⟨rfl,rfl,rfl,rfl,rfl⟩ rfl rfl rfl rfl rfl fn6 Tryz.func6 facts6 inst6 wrap6
  (fun os started H enc _=>qoY os started H enc)
theorem qgb:Rows.randomSatisfiesRow.wfByText (OpenSpec.ofChange Rows.randomSatisfiesSpec)=true:=by kernel_rfl
theorem qgc : Tryz.prog.mainIs = some (true, "987bd91778cffe5dc9b1873c32978561209d0255da7ae84461e49386f51b4fc8".toList) := by kernel_rfl
theorem qc9:true=Tryz.prog.looks []:=by kernel_rfl
theorem qbI:([27,47].all fun u=>!Tryz.prog.wantsStandIn u)=true:=by kernel_rfl
theorem qgd:false=Rows.randomSatisfiesRow.goesBy Tryz.prog:=by kernel_rfl
theorem randomSatisfies_card:Rows.RandomSatisfiesCardSaid :=
 Claim7.holds_tied_plain_at .later [] [.data, .data, .data, .widerDeep] true (true, "987bd91778cffe5dc9b1873c32978561209d0255da7ae84461e49386f51b4fc8") true
  Qs (fun _ h=>by cases h) qgb (fun _ h=>by cases h) randomSatisfies_row_tie rfl ⟨rfl,rfl⟩ qgc rfl
  (fun f fn hf hfn=>by
    obtain rfl:f=6:=Option.some.inj (fn6.symm.trans hf) |>.symm;obtain rfl:fn=Tryz.f6:=(Option.some.inj (Tryz.func6.symm.trans hfn)).symm;exact⟨qc9,fun j t ht=>by
     rw[Tryz.params6]at ht;have hm:t∈[27,47]:=(by simpa using Array.mem_of_getElem? ht);exact (show Tryz.prog.wantsStandIn t=false by simpa using List.all_eq_true.1 qbI t hm)⟩)
  qgd
#print axioms randomSatisfies_card
end Go.Proofs.YtkpkjbchlabaaaaGreatDoor
end
