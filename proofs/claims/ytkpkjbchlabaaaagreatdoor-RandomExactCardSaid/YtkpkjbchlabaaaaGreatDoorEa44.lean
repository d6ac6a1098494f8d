/- The tied card of RandomExact: the law's function returns true for every input, and each argument reads afterwards as it read before. No condition. -/
import Derived.Test.YtkpkjbchlabaaaaGreatDoorEa43
import Derived.Test.YtkpkjbchlabaaaaGreatDoorRows
import Derived.ProofKit
import Derived.Stop.Joined
import Derived.SevenTiedAt
import Derived.Test.YtkpkjbchlabaaaaGreatDoorTie
import Derived.Test.YtkpkjbchlabaaaaGreatDoorCards
set_option linter.unusedVariables false
set_option linter.unusedSimpArgs false
set_option maxRecDepth 100000
set_option maxHeartbeats 16000000
set_option linter.defProp false
section
namespace Go.Proofs.YtkpkjbchlabaaaaGreatDoor
open Go Go.Abs
def wH:Ex:=.mk 17 0 [] [wR [97],wR [98]]
def p2 (b:Bool):Problem:={ vars:=[⟨[97],2,1,0⟩,⟨[98],2,1,0⟩],hard:=[wH],soft:=[],dists:=[],groups:=if b then [[0],[1]] else [[0,1]] }
theorem WZ (b:Bool):qk (p2 b)=0:=by
 have hn:zV [97]=true:=by kernel_rfl
 have hn2:zV [98]=true:=by kernel_rfl
 have he:yI [97]=none:=YL (by decide);have he2:yI [98]=none:=YL (by decide);have hv:y8 [97]=true:=by unfold y8;rw[hn];rfl
 have hv2:y8 [98]=true:=by unfold y8;rw[hn2];rfl
 have hE:jO ⟨[97],2,1,0⟩=0:=by
  unfold jO;rw[hv];simp
 have hE2:jO ⟨[98],2,1,0⟩=0:=by
  unfold jO;rw[hv2];simp
 have hg:jW (p2 b).vars (p2 b).groups:=by
  cases b
  . refine⟨by simp[p2],by simp[p2,yg],by simp[p2],fun i hi _=>?_⟩;simp[p2]at hi ⊢;omega
  . refine⟨by simp[p2],by simp[p2,yg],by simp[p2],fun i hi _=>?_⟩;simp[p2]at hi ⊢;omega
 unfold qk;have h1:z0 (p2 b).vars=0:=by
  unfold z0;simp[p2,qN,hE,hE2,qnC,vJ,vF,Jl,he,he2,yd];intro x hx;have:x=0\/x=1:=by omega
  rcases this with rfl|rfl<;>rfl
 have h2:zo (p2 b).vars wH=0:=by kernel_rfl
 have h3:qN (zo (p2 b).vars) ((p2 b).hard++(p2 b).soft)=0:=by
  show qN (zo (p2 b).vars) [wH]=0;simp[qN,h2]
 rw[h1,h3];unfold zE;rw[if_pos hg];simp[p2,qN,yb]
theorem wz (b:Bool):qm (p2 b)=([wH],0):=by
 have:=qfA (WZ b) rfl rfl (by cases b<;>kernel_rfl);exact this
theorem sol_p2:jS (p2 true)=(6,0):=by
 unfold jS;rw[wz]
 kernel_rfl
theorem tot_p2:yp (p2 true) 1 [0,0]=(3,0):=by
 unfold yp;rw[qmP,wz]
 kernel_rfl
theorem chs_p2:yK (p2 false) 0 [0,0] 5=([2,3],0):=by
 unfold yK yp;rw[qmP,qja,wz]
 kernel_rfl
theorem qey {b:Bool}{a:List Int}(h:yo (yY (p2 b).vars a) wH≠0)(ha:qH (p2 b).vars a=true):([wH]:List Ex).all (j4 (p2 b) a)=true:=by
 simp only[qr0,List.all_nil,qsK];exact VD (WZ b) h ha
theorem qcH {p:Problem}{R:List Ex}(h:(qm p).1=R)(a:List Int)(gi:Nat)(rest:List Nat)(n d:Nat):qaU p a (gi::rest) n d =
 if (Jt p R gi a).2≠0 then (0,0,(Jt p R gi a).2)
 else if (yR n d (yG (kl p gi a) (Jt p R gi a).1.toNat).1 (yG (kl p gi a) (Jt p R gi a).1.toNat).2).2.2≠0 then (0,0,3)
 else qaU p a rest (yR n d (yG (kl p gi a) (Jt p R gi a).1.toNat).1 (yG (kl p gi a) (Jt p R gi a).1.toNat).2).1 (yR n d (yG (kl p gi a) (Jt p R gi a).1.toNat).1 (yG (kl p gi a) (Jt p R gi a).1.toNat).2).2.1:=by
 subst h;rfl
theorem qoF:KH (p2 true) [0,1]=(1,9,0):=by
 have h1:Jt (p2 true) [wH] ((0:Nat):Int) [0,1]=(3,0):=by kernel_rfl
 have h2:Jt (p2 true) [wH] ((1:Nat):Int) [0,1]=(3,0):=by kernel_rfl
 have hr:(qm (p2 true)).1=[wH]:=by rw[wz]
 have hev:yo (yY (p2 true).vars [0,1]) wH=1:=by kernel_rfl
 have m1:yR 1 1 (yG (kl (p2 true) 0 [0,1]) 3).1 (yG (kl (p2 true) 0 [0,1]) 3).2=(1,3,0):=by kernel_rfl
 have m2:yR 1 3 (yG (kl (p2 true) 1 [0,1]) 3).1 (yG (kl (p2 true) 1 [0,1]) 3).2=(1,9,0):=by kernel_rfl
 unfold KH;rw[wz,if_neg (by simp),if_neg (by rw[show qH (p2 true).vars [0,1]=true by kernel_rfl];simp),if_neg (by rw[qey (by rw[hev];decide) (by kernel_rfl)];simp)];show qaU (p2 true) [0,1] [0,1] 1 1=_;rw[qcH hr,h1,if_neg (by simp),show ((3:Int),(0:Int)).1.toNat=3 from rfl,m1,if_neg (by simp),qcH hr,h2,if_neg (by simp),show ((3:Int),(0:Int)).1.toNat=3 from rfl,m2,if_neg (by simp)];rfl
theorem qkC:KH (p2 false) [2,3]=(1,6,0):=by
 have h1:Jt (p2 false) [wH] ((0:Nat):Int) [2,3]=(6,0):=by kernel_rfl
 have hr:(qm (p2 false)).1=[wH]:=by rw[wz]
 have hev:yo (yY (p2 false).vars [2,3]) wH=1:=by kernel_rfl
 have m1:yR 1 1 (yG (kl (p2 false) 0 [2,3]) 6).1 (yG (kl (p2 false) 0 [2,3]) 6).2=(1,6,0):=by kernel_rfl
 unfold KH;rw[wz,if_neg (by simp),if_neg (by rw[show qH (p2 false).vars [2,3]=true by kernel_rfl];simp),if_neg (by rw[qey (by rw[hev];decide) (by kernel_rfl)];simp)];show qaU (p2 false) [2,3] [0] 1 1=_;rw[qcH hr,h1,if_neg (by simp),show ((6:Int),(0:Int)).1.toNat=6 from rfl,m1,if_neg (by simp)];rfl
theorem qm6 (b:Bool):Pure Tryz.prog GG 21 [.bool b] (.agg (qD (p2 b))):=by
 refine Pure.kO o0 false qe Tryz.func21 rfl (by kernel_rfl) ?_;cases b
 . simp[-getElem?_pos,zt,zX,qG,qj,qt];simp[p2,wH,wR,qr,j9,zA,Leq,qz,zF,qo,AV.atom]
 . simp[-getElem?_pos,zt,zX,qG,qj,qt];simp[p2,wH,wR,qr,j9,zA,Leq,qz,zF,qo,AV.atom]
theorem qaP (b:Bool):RnH (p2 b):=by
 refine⟨⟨by simp[p2],by simp[p2,Fits],by simp[p2],by simp[p2],?_,by simp[p2,Fits],by simp[p2],by cases b<;>simp[p2,Fits],by cases b<;>simp[p2,Fits]⟩,by simp[p2],?_,by simp[p2],by simp[p2],by simp[p2]⟩
 . intro e he;have:e=wH:=by simpa[p2] using he
   subst this;refine⟨?_,?_,?_⟩
   . intro x hx;have:x=wH\/x=wR [97]\/x=wR [98]:=by simpa[wH,pre,kE,wR] using hx
     rcases this with rfl|rfl|rfl<;>simp[wH,wR,Fits,Ex.args,Ex.name]
   . decide
   . decide
 . unfold qC;rw[if_neg (by simp[WZ])];cases b<;>decide
theorem J4:Pure Tryz.prog GG 8 [] (.bool true):=by
 refine Pure.k qe Tryz.func8 rfl (by kernel_rfl) ?_;have hl:∀ b,qk (p2 b)=0->(NG (p2 b)).flatten.length<=12:=fun b _=>by cases b<;>decide
 have h1:=KA (p2 true) (qaP true);have h2:=qjI (p2 true) (qaP true) 1 [0,0];have h3:=qnT (p2 true) (qaP true) [0,1] (by simp[Fits]);have h4:=qnT (p2 false) (qaP false) [2,3] (by simp[Fits]);have h5:=V8 (p2 false) (qaP false) (hl false) 0 [0,0] 5;rw[sol_p2]at h1;rw[tot_p2]at h2;rw[qoF]at h3;rw[qkC]at h4;rw[chs_p2]at h5;have q1:=qm6 true;have q2:=qm6 false;simp only[qD,qqC,qq8,qo]at h1 h2 h3 h4 h5 q1 q2;simp[-getElem?_pos];refine qc.call q1 (by simp) ?_;simp[-getElem?_pos];refine qc.call h1 (by simp) ?_;simp[-getElem?_pos];refine qc.call q1 (by simp) ?_;simp[-getElem?_pos,qj,qt];refine qc.less h2 (by simp) (by simp[zA,Leq,j9]) ?_;simp[-getElem?_pos];refine qc.call q1 (by simp) ?_;simp[-getElem?_pos,qj,qt];refine qc.less h3 (by simp) (by simp[zA,Leq,j9]) ?_;simp[-getElem?_pos];refine qc.call q2 (by simp) ?_;simp[-getElem?_pos,qj,qt];refine qc.less h4 (by simp) (by simp[zA,Leq,j9]) ?_;simp[-getElem?_pos];refine qc.call q2 (by simp) ?_;simp[-getElem?_pos,qj,qt];refine qc.less h5 (by simp) (by simp[zA,Leq,j9]) ?_;simp[-getElem?_pos,qnx]
noncomputable def qlT (p:Problem)(b:Int):Bool:=jD p&&decide (kc p.vars (qC p)<=b)
noncomputable def Wc (p:Problem)(b:Int):Bool:=qlT p b&&decide (qk p=0)
theorem few42 (p:Problem)(h:VM p)(b:Int):Pure Tryz.prog GG 19 [.agg (qD p),.int .i64 b] (.bool (qlT p b)):=by
 refine Pure.k qe Tryz.func19 rfl (by kernel_rfl) ?_;have hs:=qoq p h.h.exprs;obtain⟨res,hres⟩:∃ res,res=qlT p b:=⟨_,rfl⟩;rw[<- hres];unfold qlT at hres;simp only[qD]at hs;simp[-getElem?_pos];refine qc.call hs (by simp) ?_
 cases hsm:jD p with
 | false=>
  rw[hsm,qr3]at hres;subst hres;simp[-getElem?_pos]
 | true=>
  have hb:=bits25 p (h.h.small hsm);rw[hsm,qrp]at hres;simp only[qD]at hb;simp[-getElem?_pos];refine qc.call hb (by simp) ?_;simp[-getElem?_pos];exact hres.symm
theorem qop (p:Problem)(h:VM p)(b:Int):Pure Tryz.prog GG 7 [.agg (qD p),.int .i64 b] (.bool (Wc p b)):=by
 refine Pure.k qe Tryz.func7 rfl (by kernel_rfl) ?_;have hs:=few42 p h b;obtain⟨res,hres⟩:∃ res,res=Wc p b:=⟨_,rfl⟩;rw[<- hres];unfold Wc at hres;simp only[qD]at hs;simp[-getElem?_pos];refine qc.call hs (by simp) ?_
 cases hsm:qlT p b with
 | false=>
  rw[hsm,qr3]at hres;subst hres;simp[-getElem?_pos]
 | true=>
  have hsm':jD p=true:=by
   unfold qlT at hsm;simp only[qqt]at hsm;exact hsm.1
  have hb:=qoe p (h.h.small hsm');rw[hsm,qrp]at hres;simp only[qD]at hb;simp[-getElem?_pos];refine qc.call hb (by simp) ?_;simp[-getElem?_pos];rw[hres];rfl
theorem qpH {p:Problem}(h:VM p){b:Int}(hb:b<=18)(hf:qlT p b=true):RnH p/\VP p:=by
 unfold qlT at hf;simp only[qqt,decide_eq_true_eq]at hf;have hvp:=h.h.small hf.1;have hs:=hf.1;simp only[jD,qqt,qrK,qtr,decide_eq_false_iff_not,qqA,decide_eq_true_eq]at hs;obtain⟨⟨⟨⟨⟨⟨⟨⟨a1,a2⟩,a3⟩,a4⟩,a5⟩,b1⟩,b2⟩,b3⟩,b4⟩:=hs;exact⟨⟨hvp.q,by omega,by omega,by omega,by omega,fun d hd=>by have:=b3 d hd;omega⟩,hvp⟩
theorem qhe {p:Problem}(h:VM p){b:Int}(hb:b<=18)(hf:Wc p b=true):RnH p/\VP p/\qk p=0/\kc p.vars (qC p)<=b:=by
 unfold Wc at hf;simp only[qqt,decide_eq_true_eq]at hf;have h1:=qpH h hb hf.1;have h2:=hf.1;unfold qlT at h2;simp only[qqt,decide_eq_true_eq]at h2;exact⟨h1.1,h1.2,hf.2,h2.2⟩
noncomputable def qif (p:Problem)(a:List Int):Bool:=decide ((qm p).2=0)&&(qm p).1.all (j4 p a)
theorem qaO {p:Problem}(h:(qm p).2≠0):(qm p).1=[]:=by
 unfold qm at h⊢;split
 . rename_i hv;rw[if_pos hv]at h;split
   . rename_i hs;rw[if_pos hs]at h;exact absurd rfl h
   . rfl
 . rfl
theorem qfz {p:Problem}(h:RnH p):∀ e∈(qm p).1,Wen e/\hgt e<=1000/\(pre e).length<=100000:=by
 intro e he;by_cases h0:(qm p).2=0
 . exact ((Qx h.q h.dl h.sl h0).2.1 e he).2
 . rw[qaO h0]at he;cases he
theorem qhq {p:Problem}(h:RnH p):(qm p).1.length<=50000:=by
 by_cases h0:(qm p).2=0
 . exact (Qx h.q h.dl h.sl h0).2.2.1
 . rw[qaO h0];simp
theorem qfu (p:Problem)(h:RnH p)(a:List Int)(ha:Fits a):Pure Tryz.prog GG 14 [.agg (qD p),.sl 1 (a.map qo) .none] (.bool (qif p a)):=by
 refine Pure.k qe Tryz.func14 rfl (by kernel_rfl) ?_;have hr:=qdv p h.q h.v20 h.bits h.dl h.sl;have hx:=qfz h;obtain⟨res,hres⟩:∃ res,res=qif p a:=⟨_,rfl⟩;rw[<- hres];unfold qif at hres;have hho:=fun e (he:e∈(qm p).1)=>qez p a e h.q ha (hx e he).1 (hx e he).2.1 (hx e he).2.2
 have hRl:(qm p).1.length<=50000:=qhq h;generalize qm p=RR at *;obtain⟨R,e⟩:=RR;dsimp only at hr hres hho hRl;simp only[qD]at hr hho;simp[-getElem?_pos];refine qc.call hr (by simp) ?_;by_cases he:e=0
 case neg=>
  rw[decide_eq_false he,qr3]at hres;subst hres;simp[-getElem?_pos,he]
 subst he;rw[decide_eq_true rfl,qrp]at hres;simp[-getElem?_pos];refine qV.listR R (fun d ev U=>ev 1=.sl 1 (a.map qo) .none/\ev 2=.ptr 0 0/\ev 5=.sl 4 (R.map qr) .none/\ev 7=.int .i64 d.length/\U=⟨[.cells (qD p)],[]⟩/\res=(R.drop d.length).all (j4 p a)) ?_ ?_ ?_
 . exact⟨by simp,by simp,by simp,by simp,by simp[qD],by simpa using hres⟩
 . rintro d x rest ev U Rr hR hd hxx hlt ⟨e1,e2,e5,e7,rfl,hr2⟩;have hdw:=wr (n:=(d.length:Int)+1) (by omega) (by omega);have hlt':(d.length:Int)<R.length:=(by omega);have hh:=hho x (qqq hxx);have hdr:R.drop d.length=x::R.drop (d.length+1):=by
    obtain⟨h1,h2⟩:=qqp.1 hxx;rw[qqF h1,h2]
   rw[hdr,qr0]at hr2;simp[-getElem?_pos,-qO,e1,e2,e5,e7,hlt,hlt',hxx,zc,yA,K8,qD];refine qc.call hh (by simp) ?_
   cases hq:j4 p a x with
   | false=>
    rw[hq,qr3]at hr2;subst hr2;simp[-getElem?_pos,unA]
   | true=>
    rw[hq,qrp]at hr2;simp[-getElem?_pos,unA,e7,hdw];exact hR _ _ ⟨by simp[e1],by simp[e2],by simp[e5],by simp,by simp[qD],by rw[qqu];exact hr2⟩
 . rintro ev U ⟨e1,e2,e5,e7,rfl,hr2⟩;have:res=true:=by rw[hr2,qrZ];rfl
   subst this;simp[-getElem?_pos,e1,e2,e5,e7]
def KQ (x y:Int):Int:=IntKind.i64.wrap ((BitVec.ofInt IntKind.i64.bits x &&& BitVec.ofInt IntKind.i64.bits y).toNat:Int)
theorem qcP (x y:Int):zk .and .i64 x y=some (.int .i64 (KQ x y)):=rfl
theorem qp9 (n:Int):0<=KQ n 15:=by
 have e:((BitVec.ofInt 64 n &&& 15#64).toNat:Int)=n % 16:=by
  rw[BitVec.toNat_and,BitVec.toNat_ofInt];have e:(15#64).toNat=2 ^ 4-1:=by decide
  rw[e,qr6];omega
 have h:KQ n 15=IntKind.i64.wrap ((BitVec.ofInt 64 n &&& 15#64).toNat:Int):=rfl;rw[h,e,wr (by omega) (by omega)];omega
def qlM (v:Var)(n:Int):Int:=if v.mode=0 then v.value else KQ n (IntKind.i64.wrap (IntKind.i64.wrap (1*2 ^ (min (KQ v.width 15).toNat IntKind.i64.bits))-1))
def WH:List Var->List Int->List Int
 | [],_=>[]
 | v::r,[]=>qlM v 0::WH r []
 | v::r,x::xs=>qlM v x::WH r xs
theorem Vz:∀ (l:List Var) (xs:List Int),(WH l xs).length=l.length
 | [],_=>by simp[WH]
 | v::r,[]=>by simp[WH,Vz r []]
 | v::r,x::xs=>by simp[WH,Vz r xs]
theorem VA:∀ {l:List Var} {xs:List Int} {i:Nat} {v:Var},l[i]?=some v->(WH l xs)[i]?=some (qlM v ((xs[i]?).getD 0))
 | v::r,[],0,w,h=>by simp at h;simp[WH,h]
 | v::r,x::xs,0,w,h=>by simp at h;simp[WH,h]
 | v::r,[],i+1,w,h=>by
  have:=VA (l:=r) (xs:=[]) (i:=i) (v:=w) (by simpa using h);simpa[WH] using this
 | v::r,x::xs,i+1,w,h=>by
  have:=VA (l:=r) (xs:=xs) (i:=i) (v:=w) (by simpa using h);simpa[WH] using this
theorem qiC (p:List Var)(xs:List Int){i:Nat}{v:Var}(h:p[i]?=some v):(WH p xs).take (i+1)=(WH p xs).take i++[qlM v ((xs[i]?).getD 0)]:=by
 rw[qqU,VA h];rfl
theorem fit36 (p:Problem)(xs:List Int)(hl:p.vars.length<=1000)(ha:Fits xs):Pure Tryz.prog GG 9 [.agg (qD p),.sl 1 (xs.map qo) .none] (.sl 1 ((WH p.vars xs).map qo) .none):=by
 refine Pure.k qe Tryz.func9 rfl (by kernel_rfl) ?_;have hlen:=Vz p.vars xs;simp[-getElem?_pos];refine qV.list p.vars (fun d ev U=>ev 1=.sl 1 (xs.map qo) .none/\ev 2=.ptr 0 0/\ev 5=qcL 1 qo 0 ((WH p.vars xs).take d.length)/\ev 6=.int .i64 d.length/\∃ u,U=⟨.cells (qD p)::u,ZE [] ((WH p.vars xs).take d.length)⟩) ?_ ?_ ?_
 . simp[qD]
 . rintro d v rest ev U hd hx hlt ⟨e1,e2,e5,e6,u,rfl⟩;have hlt':(d.length:Int)<p.vars.length:=(by omega);have hw:=wr (n:=(d.length:Int)+1) (by omega) (by omega);have hsn:=qiC p.vars xs hx;have htl:((WH p.vars xs).take d.length).length<2 ^ 30:=(by simp;omega);have h15:=qp9 v.width;have h15':¬ KQ v.width 15<0:=(by omega);have happ:∀ (H:List Blk) (s:List Int),s.length<2 ^ 30->∀ n,qL (Dof Tryz.prog) ⟨H,ZE [] s⟩ 28 (qcL 1 qo 0 s) (.sl 1 [[.int .i64 n]] .tight)=some (qcL 1 qo 0 (s++[n]),⟨H,ZE [] (s++[n])⟩):=fun H s hs n=>
    Ku (D:=Dof Tryz.prog) (sz:=1) (T:=[]) (H:=H) (m:=[n]) (en:=qo) D28 rfl D3 rfl (by decide) rfl (by decide) (by simp only[qqV];omega) 1 (.inl rfl)
   generalize (WH p.vars xs).take d.length=S at *;rw[qqu,qqV,hsn];generalize hX:(xs[d.length]?).getD 0=X at *;have hm1:¬ v.mode=0->KQ X (IntKind.i64.wrap (IntKind.i64.wrap (2 ^ (min (KQ v.width 15).toNat IntKind.i64.bits))-1))=qlM v X:=fun h=>by unfold qlM;rw[if_neg h,Int.one_mul]
   have hm0:v.mode=0->v.value=qlM v X:=fun h=>by unfold qlM;rw[if_pos h]
   by_cases hxl:d.length<xs.length
   . have hgx:xs[d.length]?=some X:=by
      rw[qqr hxl]at hX ⊢;simpa using hX
     have hxl':(d.length:Int)<xs.length:=(by omega);by_cases hm:v.mode=0
     . simp[-getElem?_pos,e1,e2,e5,e6,hlt,hlt',hx,hxl,hxl',hgx,hm,qj,qt,happ _ _ htl,hw,qD];rw[hm0 hm];exact⟨rfl,rfl⟩
     . simp[-getElem?_pos,-zk,qcP,Qh,Q5,YF,YG,e1,e2,e5,e6,hlt,hlt',hx,hxl,hxl',hgx,hm,qj,qt,happ _ _ htl,hw,qD,h15'];rw[hm1 hm];exact⟨rfl,rfl⟩
   . have hxl':¬ (d.length:Int)<xs.length:=(by omega);have hX0:X=0:=by
      rw[qqS (by omega)]at hX;exact hX.symm
     subst hX0;by_cases hm:v.mode=0
     . simp[-getElem?_pos,e1,e2,e5,e6,hlt,hlt',hx,hxl,hxl',hm,qj,qt,happ _ _ htl,hw,qD];rw[hm0 hm];exact⟨rfl,rfl⟩
     . simp[-getElem?_pos,-zk,qcP,Qh,Q5,YF,YG,e1,e2,e5,e6,hlt,hlt',hx,hxl,hxl',hm,qj,qt,happ _ _ htl,hw,qD,h15'];rw[hm1 hm];exact⟨rfl,rfl⟩
 . rintro ev U ⟨e1,e2,e5,e6,u,rfl⟩;rw[qqx (by omega)]at e5;simp[-getElem?_pos,-fin,-kQ,-Zx,e1,e2,e5,e6]
theorem qbf {n i:Nat}{w:List Weight}:∀ {l:List Dist},(zR n l)[i]?=some (some w)->∃ d∈l,d.var.toNat=i/\d.weights=w:=by
 intro l
 induction hn:l.length generalizing l with
 | zero=>
  have:l=[]:=qqG hn;subst this;intro h;simp[zR]at h;have:=List.eq_of_mem_replicate (qqq h);cases this
 | succ k ih=>
  obtain⟨d,x,rfl⟩:∃ d x,l=d++[x]:=⟨l.dropLast,l.getLast (by rintro rfl;simp at hn),(qsv _).symm⟩;intro h;rw[YO]at h;by_cases hi:x.var.toNat=i
  . have hl:x.var.toNat<(zR n d).length:=by
     have:=(qqp.1 h).1;rw[qrF]at this;omega
    subst hi;rw[qqv hl]at h;simp at h;exact⟨x,by simp,rfl,h⟩
  . rw[qqs hi]at h;obtain⟨y,hy,h1,h2⟩:=ih (by simpa using hn) h;exact⟨y,by simp[hy],h1,h2⟩
theorem ZA:∀ (l:List Weight) (s:Nat),(je l s).2=0->∃ m:Nat,(je l s).1=m/\s∣m/\∀ w∈l,w.each≠true->wsz w∣m
 | [],s,_=>⟨s,rfl,Nat.dvd_refl _,by simp⟩
 | w::r,s,h=>by
  unfold je at h⊢;by_cases he:w.each=true
  . rw[if_pos he]at h ⊢;obtain⟨m,h1,h2,h3⟩:=ZA r s h;refine⟨m,h1,h2,fun x hx hne=>?_⟩;rcases qqQ.1 hx with rfl|hx
    . exact absurd he hne
    . exact h3 x hx hne
  . rw[if_neg he]at h ⊢;by_cases hl:Nat.lcm s (wsz w)<9223372036854775808
    . rw[if_pos hl]at h ⊢;obtain⟨m,h1,h2,h3⟩:=ZA r _ h;refine⟨m,h1,Nat.dvd_trans (Nat.dvd_lcm_left _ _) h2,fun x hx hne=>?_⟩;rcases qqQ.1 hx with rfl|hx
      . exact Nat.dvd_trans (Nat.dvd_lcm_right _ _) h2
      . exact h3 x hx hne
    . rw[if_neg hl]at h;cases h
theorem qcd {l:List Weight}{v:Int}(hp:qac l v=true)(h:(j7 l v).2=0):1<=(j7 l v).1:=by
 unfold j7 at h⊢;split at h
 . exact absurd h (by assumption)
 rename_i h1;split at h
 . exact absurd h (by assumption)
 rename_i h2;rw[if_neg h1,if_neg h2];obtain⟨hw,_,_⟩:=Yb (qrl.1 h1);have hs:=kz l 1 hw (by omega) (by omega);obtain⟨m,m1,_,m3⟩:=ZA l 1 (qrl.1 h2);have hm0:0<m:=by
  rcases hs with ⟨_,h3,_⟩|h3
  . rw[m1]at h3;omega
  . rw[h3]at h2;exact absurd (show ((3:Int))≠0 by decide) h2
 rw[m1]at h ⊢;have hmm:((m:Int)).toNat=m:=by omega
 rw[hmm]at h ⊢;unfold Qn at h⊢;have ho:YD l v=l.find? (inW v):=rfl;unfold qac at hp;rw[<- ho]at hp
 cases hO:YD l v with
 | none=>rw[hO]at hp;cases hp
 | some w=>
  rw[hO]at hp h;dsimp only at hp h ⊢;have hwp:0<w.weight:=of_decide_eq_true hp;have hwm:w∈l:=qtM hO;have hwl:=hw w hwm;have hsz:0<wsz w:=WT hwl.2.1;by_cases he:w.each=true
  . rw[if_pos he]at h ⊢;unfold qaf at h⊢;split at h
    . rename_i hlt;rw[if_pos hlt];have:0<w.weight.toNat*m:=qtw (by omega) hm0;dsimp only;omega
    . cases h
  . rw[if_neg he]at h ⊢;unfold qaf at h⊢;split at h
    . rename_i hlt;rw[if_pos hlt];have hd:=qti (qsL hm0 (m3 w hwm he)) hsz;have:0<w.weight.toNat*(m / wsz w):=qtw (by omega) hd;dsimp only;omega
    . cases h
theorem qnV {l:List Weight}{v:Int}(hp:qac l v=true):0<wtO (some l) v:=by
 unfold wtO;dsimp only;split
 . unfold lim;omega
 . rename_i h;have:=qcd hp (qrl.1 h);exact qsN fun e=>by
    rw[Yl]at e;omega
theorem wt_pos {p:Problem}(hv:qk p=0){b:List Int}(hb:b∈yC p.vars)(hs:∀ e∈zM p,yo (yY p.vars b) e≠0){i:Nat}(hi:i∈(NG p).flatten):0<wtP p i (aN b i)/\aN b i<2 ^ z5 p i/\b[i]?=some (aN b i:Int):=by
 obtain⟨v,hv',hm⟩:=jh hv hi;obtain⟨x,hx,hc⟩:=kF (wX.1 hb) hv';rw[if_neg hm]at hc;have hax:aN b i=x.toNat:=by unfold aN;rw[qqz,hx];rfl
 have hxx:((aN b i:Nat):Int)=x:=by rw[hax];omega
 refine⟨?_,?_,by rw[hxx];exact hx⟩
 . unfold wtP;have hil:i<(zR p.vars.length p.dists).length:=(by rw[jU];exact (qqp.1 hv').1);obtain⟨o,ho⟩:∃ o,(zR p.vars.length p.dists)[i]?=some o:=⟨_,qqr hil⟩;rw[qqz,ho];show 0<wtO o _
   cases o with
   | none=>exact Nat.one_pos
   | some w=>
    obtain⟨d,hd,hdv,hdw⟩:=qbf ho;have hsup:JK p.vars d∈zM p:=by
     unfold zM yn w6;rw[if_pos hv];exact qrJ _ (qqT.2 ⟨d,hd,rfl⟩)
    have hev:=(qeN (hs _ hsup)).2;have hse:JK p.vars d=kx v.name (qcD (qb9 v w)):=by
     unfold JK;rw[hdv,hv',hdw]
    rw[hse]at hev;have hmem:=(qfi _ _ _).1 hev;rcases qpC hv hb hv' hx with ⟨hf,_⟩|h0
    . rw[hf]at hmem;have:qac w x=true:=(qsM.1 hmem).2;rw[hxx];exact qnV this
    . exact absurd h0 hm
 . have:=(qmM hv hv').1;rw[this,hax];unfold jr at hc;omega
theorem qdI {p:Problem}{R:List Ex}{val:Nat->Nat}:∀ (g:List Nat) (c:List (Nat×Nat)),(∀ i∈g,val i<2 ^ z5 p i)->zJ p val g*(if okC p R (c++g.map fun i=>(i,val i))=true then 1 else 0)<=zD p R (fun _=>none) g c
 | [],c,_=>by
  unfold zD zJ;simp
 | i::r,c,h=>by
  have ih:=qdI (p:=p) (R:=R) r (c++[(i,val i)]) fun k hk=>h k (by simp[hk])
  unfold zD zJ;rw[qqW]at ih;have hm:val i∈List.range (2 ^ z5 p i):=qrr.2 (h i (by simp));have:=qcw (f:=fun v=>wtP p i v*zD p R (fun _=>none) r (c++[(i,v)])) hm;refine qrf ?_ this;rw[qtk];exact Nat.mul_le_mul_left _ ih
theorem Ve {p:Problem}{val:Nat->Nat}:∀ {g:List Nat},(∀ i∈g,0<wtP p i (val i))->0<zJ p val g
 | [],_=>Nat.one_pos
 | i::r,h=>qtw (h i (by simp)) (Ve fun k hk=>h k (by simp[hk]))
theorem qbt {p:Problem}(hv:qk p=0){a:List Int}(h:GoodA p a)(hr:∀ i∈(NG p).flatten,aN a i<2 ^ z5 p i):qH p.vars a=true:=by
 unfold qH;simp only[qqt,decide_eq_true_eq,qqA];refine⟨h.len,?_⟩;rintro⟨v,x⟩ hx;obtain⟨i,hi⟩:=qqZ hx;obtain⟨h1,h2⟩:=qrR.1 hi;dsimp only at h1 h2;have hve:=jc hv v (qqq h1);have h3:((2 ^ v.width.toNat:Nat):Int)=(2:Int) ^ v.width.toNat:=by simp
 unfold z7;by_cases hm:v.mode=0
 . have:=h.st i v h1 hm;rw[h2]at this;cases this;have hvv:=KX hve;simp[hm,hvv]
 . have hn:=h.nn i v x h1 hm h2;have hl:=hr i (QZ hv h1 hm);rw[(qmM hv h1).1]at hl;have hax:aN a i=x.toNat:=(by unfold aN;rw[qqz,h2];rfl);rw[hax]at hl;have:x<(2:Int) ^ v.width.toNat:=by omega
   simp[hm,hn,this]
structure MidA (p:Problem)(a:List Int)(gi:Nat):Prop where
 e:EndA p a gi
 rest:∀ i∈((NG p).drop gi).flatten,aN a i=0
theorem MidA.assigns {p:Problem}(hv:qk p=0){a:List Int}{gi:Nat}(h:MidA p a gi):qH p.vars a=true:=by
 refine qbt hv h.e.good fun i hi=>?_
 have:(NG p).flatten=((NG p).take gi).flatten++((NG p).drop gi).flatten:=by rw[<- qrS,qq4]
 rw[this]at hi;rcases qqJ.1 hi with hi|hi
 . exact (h.e.pos i hi).2
 . rw[h.rest i hi];exact qsy _
theorem MidA.tot {p:Problem}(hv:qk p=0){a:List Int}{gi:Nat}(hgi:gi<(NG p).length)(h:MidA p a gi)(hneed:∀ e∈zM p,e∈(qm p).1):(wY p gi a).2=0\/(wY p gi a).2=3:=by
 have hass:=h.assigns hv;have hpos:0<zD p (qm p).1 (fun _=>none) ((NG p).getD gi []) (yh p a gi):=by
  have hok:=h.e.ok;unfold okC at hok;obtain⟨b,hb,hs⟩:=qqR.1 hok;rw[qqt]at hs;obtain⟨g,hg⟩:∃ g,(NG p)[gi]?=some g:=⟨_,qqr hgi⟩;have hgd:(NG p).getD gi []=g:=by rw[qqz,hg];rfl
  obtain⟨post,hpost⟩:=Zu hg;have hgm:∀ i∈g,i∈(NG p).flatten:=fun i hi=>by rw[hpost];simp[hi]
  have hev:∀ e∈zM p,yo (yY p.vars b) e≠0:=fun e he=>by
   have:=hs.1;unfold w7 at this;exact of_decide_eq_true (qqA.1 this e (hneed e he))
  have hw:=fun i (hi:i∈g)=>wt_pos hv hb hev (hgm i hi)
  rw[hgd];have h1:=qdI (p:=p) (R:=(qm p).1) (val:=aN b) g (yh p a gi) fun i hi=>(hw i hi).2.1
  have h2:okC p (qm p).1 (yh p a gi++g.map fun i=>(i,aN b i))=true:=by
   unfold okC;refine qqR.2 ⟨b,hb,?_⟩;rw[qqt,qrU,qqt];refine⟨hs.1,hs.2,qqA.2 fun q hq=>?_⟩;obtain⟨i,hi,rfl⟩:=qqT.1 hq;exact decide_eq_true (hw i hi).2.2
  rw[if_pos h2,Nat.mul_one]at h1;exact qqE (Ve fun i hi=>(hw i hi).1) h1
 have e:Zv p (fun _=>none) a (gi:Int).toNat=sat (zD p (qm p).1 (fun _=>none) ((NG p).getD gi []) (yh p a gi)):=vt _ _ _ _;unfold wY;rw[if_neg (by rintro (h1 | h1 | h1);omega;omega;rw[hass]at h1;cases h1),e];rw[if_neg (by rw[Yl];omega)];split
 . exact .inr rfl
 . exact .inl rfl
noncomputable def qax (p:Problem)(a:List Int)(g:Nat):Nat:=zD p (qm p).1 (fun _=>none) ((NG p).getD g []) (yh p a g)
theorem qhp {p:Problem}(hv:qk p=0){a:List Int}(ha:a∈yC p.vars){R:List Ex}(hs:w7 p.vars R a=true):R.all (j4 p a)=true:=by
 unfold w7 at hs;rw[qqA]at hs ⊢;exact fun e he=>VD hv (by simpa using hs e he) (Kv hv ha)
theorem qdj (p:Problem)(a:List Int)(gi:Nat):∀ (l:List Nat) (fx:Nat->Option Nat) (idx:Int) (out:List Int) (k:Nat),k∉l->(chP p a gi l fx idx out)[k]?=out[k]?
 | [],_,_,_,_,_=>rfl
 | i::r,fx,idx,out,k,hk=>by
  unfold chP;dsimp only;rw[qdj p a gi r _ _ _ k fun h=>hk (by simp[h]),qqs fun e=>hk (by simp[e])]
noncomputable def ZP (p:Problem)(a:List Int)(gi:Nat)(l:List Nat)(fx:Nat->Option Nat)(idx:Int)(out:List Int)(k:Nat):Option Nat:=if k∈l then some (aN (chP p a gi l fx idx out) k) else fx k
theorem qg9 (F:Nat->Nat){m n:Nat}(h:m<=n):yN F (List.range' 0 m)<=yN F (List.range' 0 n):=by
 obtain⟨k,rfl⟩:=Nat.exists_eq_add_of_le h;have:List.range' 0 (m+k)=List.range' 0 m++List.range' m k:=by
  have:=List.range'_append (s:=0) (m:=m) (n:=k) (step:=1);simpa using this.symm
 rw[this,Qr];omega
theorem qok (F:Nat->Nat)(m:Nat):yN F (List.range' 0 (m+1))=yN F (List.range' 0 m)+F m:=by
 rw[<- qrD,<- qrD,qrO,Qr];simp[yN]
theorem qmn {p:Problem}{a:List Int}{gi:Nat}{g:List Nat}{c:List (Nat×Nat)}(hc:(((NG p).take gi).flatten.map fun i=>(i,aN a i))=c)(hg:(NG p).getD gi []=g)(hn:g.Nodup):∀ (l:List Nat) (fx:Nat->Option Nat) (idx:Int) (out:List Int),l.Nodup->(∀ i∈l,fx i=none/\i∈g/\i<out.length) ->
 0<=idx->idx<(zD p (qm p).1 fx g c:Nat)->zD p (qm p).1 fx g c<lim ->
 ∃ lo:Int,0<=lo/\lo<=idx/\idx<lo+(zD p (qm p).1 (ZP p a gi l fx idx out) g c:Nat)/\lo+(zD p (qm p).1 (ZP p a gi l fx idx out) g c:Nat)<=(zD p (qm p).1 fx g c:Nat) /\
  ∀ (j:Int) (out':List Int),out'.length=out.length->0<=j->j<(zD p (qm p).1 fx g c:Nat)->((∀ i∈l,(chP p a gi l fx j out')[i]?=(chP p a gi l fx idx out)[i]?)↔lo<=j/\j<lo+(zD p (qm p).1 (ZP p a gi l fx idx out) g c:Nat)):=by
 intro l
 induction l with
 | nil=>
  intro fx idx out _ _ h0 h1 _;have e:ZP p a gi [] fx idx out=fx:=by funext k;simp[ZP]
  rw[e];exact⟨0,qsW _,h0,by omega,by omega,fun j out' _ j0 j1=>⟨fun _=>⟨j0,by omega⟩,fun _ i hi=>by cases hi⟩⟩
 | cons i r ih=>
  intro fx idx out hl hm h0 h1 h2;rw[qr4]at hl;obtain⟨hfi,hig,hio⟩:=hm i (by simp);have hsp:=Qo (p:=p) (R:=(qm p).1) hfi g c hn hig;have hle:∀ x,x<2 ^ z5 p i->zD p (qm p).1 (jJ fx i x) g c<=zD p (qm p).1 fx g c:=fun x hx=>by
   rw[hsp];exact qcw (f:=fun x=>zD p (qm p).1 (jJ fx i x) g c) (qrr.2 hx)
  have hF:∀ x,x<2 ^ z5 p i->Zv p (jJ fx i x) a gi=zD p (qm p).1 (jJ fx i x) g c:=fun x hx=>by
   rw[vt,hg,hc];have:=hle x hx;exact qrN (by omega)
  have hw:wdN p i=z5 p i:=qak p i;have hsum:yN (fun x=>Zv p (jJ fx i x) a gi) (List.range' 0 (2 ^ wdN p i))=zD p (qm p).1 fx g c:=by
   rw[hsp,hw,<- qrD];exact yW fun x hx=>hF x (qrr.1 hx)
  have hmono:=fun {m n:Nat} (h:m<=n)=>qg9 (fun x=>Zv p (jJ fx i x) a gi) h
  have hnx:=fun m:Nat=>qok (fun x=>Zv p (jJ fx i x) a gi) m
  have spec:=fun (idx:Int) h0 h1=>ZD (fun x=>Zv p (jJ fx i x) a gi) (2 ^ wdN p i) 0 idx h0 h1
  have unf:∀ idx out,chP p a gi (i::r) fx idx out=chP p a gi r (jJ fx i (jG (fun x=>Zv p (jJ fx i x) a gi) (2 ^ wdN p i) 0 idx).1) (jG (fun x=>Zv p (jJ fx i x) a gi) (2 ^ wdN p i) 0 idx).2 (out.set i ((jG (fun x=>Zv p (jJ fx i x) a gi) (2 ^ wdN p i) 0 idx).1:Nat)):=fun _ _=>rfl
  obtain⟨⟨_,q1⟩,q2,q3,q4⟩:=spec idx h0 (by rw[hsum];exact h1);obtain⟨q,hq⟩:∃ q,q=jG (fun x=>Zv p (jJ fx i x) a gi) (2 ^ wdN p i) 0 idx:=⟨_,rfl⟩;have unf1:=unf idx out;rw[<- hq]at q1 q2 q3 q4 unf1;have hq1:q.1<2 ^ z5 p i:=by rw[<- hw];omega
  have hFq:=hF _ hq1;rw[hFq]at q3;rw[qs5]at q4;have hfxq:∀ k∈r,jJ fx i q.1 k=none/\k∈g/\k<(out.set i (q.1:Int)).length:=fun k hk=>by
   obtain⟨a1,a2,a3⟩:=hm k (by simp[hk]);exact⟨by rw[Zz (by rintro rfl;exact hl.1 hk)];exact a1,a2,by simpa using a3⟩
  obtain⟨lo,l0,l1,l2,l3,l4⟩:=ih (jJ fx i q.1) q.2 (out.set i (q.1:Int)) hl.2 hfxq q2 q3 (by have:=hle _ hq1;omega);have hat:(chP p a gi (i::r) fx idx out)[i]?=some (q.1:Int):=by
   rw[unf1,qdj p a gi r _ _ _ i hl.1,qqv hio]
  have hfx:zD p (qm p).1 (ZP p a gi (i::r) fx idx out) g c=zD p (qm p).1 (ZP p a gi r (jJ fx i q.1) q.2 (out.set i (q.1:Int))) g c:=by
   refine Qq g c fun k _=>?_
   unfold ZP;by_cases hk:k∈r
   . rw[if_pos (by simp[hk]),if_pos hk,unf1]
   . rw[if_neg hk];by_cases hki:k=i
     . subst hki;rw[if_pos (by simp),qcq];unfold aN;rw[qqz,hat];simp
     . rw[if_neg (by simp[hk,hki]),Zz hki]
  rw[hfx];generalize zD p (qm p).1 (ZP p a gi r (jJ fx i q.1) q.2 (out.set i (q.1:Int))) g c=W at *;have hS1:=hnx q.1;have hS2:=hmono (show q.1+1<=2 ^ wdN p i by omega);rw[hsum]at hS2;refine⟨(yN (fun x=>Zv p (jJ fx i x) a gi) (List.range' 0 q.1):Nat)+lo,by omega,by omega,by omega,by omega,fun j out' ho j0 j1=>?_⟩;obtain⟨⟨_,r1⟩,r2,r3,r4⟩:=spec j j0 (by rw[hsum];exact j1);obtain⟨y,hy⟩:∃ y,y=jG (fun x=>Zv p (jJ fx i x) a gi) (2 ^ wdN p i) 0 j:=⟨_,rfl⟩;have unf2:=unf j out';rw[<- hy]at r1 r2 r3 r4 unf2;rw[qs5]at r4;have hat2:(chP p a gi (i::r) fx j out')[i]?=some (y.1:Int):=by
   rw[unf2,qdj p a gi r _ _ _ i hl.1,qqv (by omega)]
  have hT1:=hnx y.1;constructor
  . intro h;have hi:=h i (by simp);rw[hat,hat2]at hi;have hyq:y.1=q.1:=(by have:=Option.some.inj hi;omega);have:=(l4 y.2 (out'.set i (q.1:Int)) (by simp[ho]) r2 (by rw[<- hFq,<- hyq];exact r3)).1 fun k hk=>by
     have:=h k (by simp[hk]);rw[unf1,unf2,hyq]at this;exact this
    rw[hyq]at r4;omega
  . rintro⟨h1,h2⟩;have hyq:y.1=q.1:=by
     rcases qtF y.1 q.1 with h|h|h
     . have:=hmono (show y.1+1<=q.1 by omega);omega
     . exact h
     . have:=hmono (show q.1+1<=y.1 by omega);omega
    rw[hyq]at r4 r3 unf2;rw[hFq]at r3;have:=(l4 y.2 (out'.set i (q.1:Int)) (by simp[ho]) r2 r3).2 (by omega);intro k hk;rcases qqQ.1 hk with rfl|hk
    . rw[hat,hat2,hyq]
    . rw[unf1,unf2];exact this k hk
theorem vZ {p:Problem}(h:qk p=0){k:Nat}{d:Dist}(hk:p.dists[k]?=some d):yg p.vars d.var=true/\∀ y∈p.dists.take k,y.var≠d.var:=by
 have hd:yb p.vars p.dists=0:=by
  unfold qk at h;split at h
  . exact absurd h (by assumption)
  . split at h
    . rename_i h1;exact absurd h h1
    . split at h
      . rename_i h1;exact absurd h h1
      . rename_i h1;exact qrl.1 h1
 have hkl:=(qqp.1 hk).1;unfold yb at hd;have:=zx.1 hd k (by simp;omega);unfold jC at this;rw[hk]at this;simp only at this;split at this
 . cases this
 . rename_i hr;split at this
   . cases this
   . rename_i ht;refine⟨by simpa using hr,fun y hy e=>ht (qqR.2 ⟨y,hy,by simp[e]⟩)⟩
theorem qh2 {p:Problem}(h:qk p=0){d:Dist}(hd:d∈p.dists):∃ i:Nat,d.var=i/\i<p.vars.length/\i∈(NG p).flatten/\(zR p.vars.length p.dists)[i]?=some (some d.weights):=by
 obtain⟨k,hk⟩:=qqZ hd;have hkl:=(qqp.1 hk).1;obtain⟨h1,h2⟩:=vZ h hk;simp only[yg,qqt,decide_eq_true_eq]at h1;obtain⟨i,hi⟩:=qq0 h1.1;rw[hi,qq1]at h1;obtain⟨v,hvi,hm⟩:∃ v,p.vars[i]?=some v/\v.mode≠0:=by
  cases hv:p.vars[i]? with
  | none=>rw[hv]at h1;simp at h1
  | some v=>rw[hv]at h1;exact⟨v,rfl,by simpa using h1.2⟩
 have hil:=(qqp.1 hvi).1;refine⟨i,hi,hil,QZ h hvi hm,?_⟩;have later:∀ y∈p.dists.drop (k+1),y.var.toNat≠i:=fun y hy e=>by
  obtain⟨j,hj⟩:=qqZ hy;rw[qrg]at hj;obtain⟨g1,g2⟩:=vZ h hj;simp only[yg,qqt,decide_eq_true_eq]at g1;refine g2 d ?_ (by omega);refine qqq (i:=k) ?_;rw[qta (by omega),hk]
 have keep:∀ (l:List Dist) (o:List (Option (List Weight))),(∀ y∈l,y.var.toNat≠i)->(l.foldl (fun o d=>o.set d.var.toNat (some d.weights)) o)[i]?=o[i]? := by
  intro l
  induction l with
  | nil=>intro o _;rfl
  | cons y l ih=>
   intro o hl;rw[qq5,ih _ fun z hz=>hl z (by simp[hz]),qqs (hl y (by simp))]
 have e:p.dists=p.dists.take k++d::p.dists.drop (k+1):=by
  obtain⟨x1,x2⟩:=qqp.1 hk;have:=qq4 k p.dists;rw[qqF x1,x2]at this;exact this.symm
 unfold zR;rw[e,qrB,qq5,keep _ _ later,hi,qq1];refine qqv ?_;have:=jU p.vars.length (p.dists.take k);unfold zR at this;rw[this];exact hil
theorem qfs {p:Problem}(hr:RnH p)(hv:qk p=0)(hb:kc p.vars (qC p)<=10):(NG p).flatten.length<=12:=by
 have h1:=qdw hv hr.q.vars;have:∀ l:List Nat,(∀ i∈l,i∈(NG p).flatten)->l.length<=LW p l:=by
  intro l
  induction l with
  | nil=>intro _;simp
  | cons i l ih=>
   intro h;have h2:=ih fun j hj=>h j (by simp[hj])
   obtain⟨v,hvi,hm⟩:=jh hv (h i (by simp));have hw:=(za (jc hv v (qqq hvi))).2;have h3:=(qmM hv hvi).1;have e:LW p (i::l)=z5 p i+LW p l:=(by simp[LW]);rw[e,qqH];omega
 have:=this _ fun i hi=>hi
 omega
theorem qjM {p:Problem}(hv:qk p=0){gi:Nat}(hgi:gi<(NG p).length):∃ g,(NG p)[gi]?=some g/\(NG p).getD gi []=g/\g.Nodup/\∀ i∈g,i∈(NG p).flatten:=by
 obtain⟨g,hg⟩:∃ g,(NG p)[gi]?=some g:=⟨_,qqr hgi⟩;refine⟨g,hg,by rw[qqz,hg];rfl,?_,fun i hi=>qrd.2 ⟨g,qqq hg,hi⟩⟩;have hnf:=J3 hv;obtain⟨post,hpost⟩:=Zu hg;rw[hpost]at hnf;exact (qra.1 (qra.1 hnf).1).2.1
theorem qdh {p:Problem}(hv:qk p=0){gi:Nat}(hgi:gi<(NG p).length){a:List Int}(hal:a.length=p.vars.length)(ht:qax p a gi<lim){idx:Int}(h0:0<=idx)(h1:idx<(qax p a gi:Nat)) :
 ∃ lo:Int,0<=lo/\lo<=idx/\idx<lo+(zJ p (aN (qv p gi a idx)) ((NG p).getD gi []):Nat)/\lo+(zJ p (aN (qv p gi a idx)) ((NG p).getD gi []):Nat)<=(qax p a gi:Nat) /\
  ∀ j:Int,0<=j->j<(qax p a gi:Nat)->((∀ i∈(NG p).getD gi [],(qv p gi a j)[i]?=(qv p gi a idx)[i]?)↔lo<=j/\j<lo+(zJ p (aN (qv p gi a idx)) ((NG p).getD gi []):Nat)):=by
 obtain⟨g,hg,hgd,hgn,hgm⟩:=qjM hv hgi;have hs1:∀ i,i∈jR g↔i∈g:=fun i=>QR
 have hce:∀ j,qv p gi a j=chP p a gi (jR g) (fun _=>none) j a:=fun j=>by unfold qv;rw[hgd]
 unfold qax at ht h1 ⊢;rw[hgd]at ht h1 ⊢;obtain⟨lo,l0,l1,l2,l3,l4⟩:=qmn (p:=p) (a:=a) (gi:=gi) (c:=yh p a gi) rfl hgd hgn (jR g) (fun _=>none) idx a (Yh hgn) (fun i hi=>by
  obtain⟨v,hv',_⟩:=jh hv (hgm i ((hs1 i).1 hi));have:=(qqp.1 hv').1;exact⟨rfl,(hs1 i).1 hi,by rw[hal];exact this⟩) h0 h1 ht
 have hfix:=Qp (p:=p) (R:=(qm p).1) (fx:=ZP p a gi (jR g) (fun _=>none) idx a) (val:=aN (qv p gi a idx)) g (yh p a gi) (fun i hi=>by
  unfold ZP;rw[if_pos ((hs1 i).2 hi),hce])
 have hpos:0<zD p (qm p).1 (ZP p a gi (jR g) (fun _=>none) idx a) g (yh p a gi):=by omega
 have hW:zD p (qm p).1 (ZP p a gi (jR g) (fun _=>none) idx a) g (yh p a gi)=zJ p (aN (qv p gi a idx)) g:=by
  rw[hfix]at hpos ⊢;split
  . rw[Nat.mul_one]
  . rename_i hc;rw[if_neg hc,qtT]at hpos;omega
 rw[hW]at l2 l3 l4;refine⟨lo,l0,l1,l2,l3,fun j j0 j1=>?_⟩;rw[<- l4 j a rfl j0 j1,hce,hce];exact⟨fun h i hi=>h i ((hs1 i).1 hi),fun h i hi=>h i ((hs1 i).2 hi)⟩
theorem MidA.choose {p:Problem}(hv:qk p=0){a:List Int}{gi:Nat}(hgi:gi<(NG p).length)(h:MidA p a gi)(ht:qax p a gi<lim){idx:Int}(h0:0<=idx)(h1:idx<(qax p a gi:Nat)) :
 MidA p (qv p gi a idx) (gi+1)/\(∀ i,i∉(NG p).getD gi []->(qv p gi a idx)[i]?=a[i]?)/\∀ i∈(NG p).getD gi [],0<wtP p i (aN (qv p gi a idx) i)/\aN (qv p gi a idx) i<2 ^ z5 p i:=by
 obtain⟨c1,c2,c3,c4⟩:=qi9 hv hgi h.e.good h0 h1 ht;obtain⟨g,hg,hgd,hgn,hgm⟩:=qjM hv hgi;have hnf:=J3 hv;obtain⟨post,hpost⟩:=Zu hg;have haN:∀ i,i∉g->aN (qv p gi a idx) i=aN a i:=fun i hi=>by
  unfold aN;rw[qqz,qqz,c3 i (by rw[hgd];exact hi)]
 refine⟨⟨⟨c1,c2,fun i hi=>?_⟩,fun i hi=>?_⟩,c3,c4⟩
 . rw[qqU,hg]at hi;simp only[Option.toList,qrS,qqJ]at hi;rcases hi with hi|hi
   . have hni:i∉g:=fun h'=>by
      rw[hpost]at hnf;exact (qra.1 (qra.1 hnf).1).2.2 i hi i h' rfl
     rw[haN i hni];exact h.e.pos i hi
   . rw[hgd]at c4;exact c4 i (by simpa using hi)
 . have hdr:(NG p).drop gi=g::(NG p).drop (gi+1):=by
    obtain⟨h2,h3⟩:=qqp.1 hg;rw[qqF h2,h3]
   have hni:i∉g:=fun h'=>by
    have e:(NG p).flatten=((NG p).take gi).flatten++(g++((NG p).drop (gi+1)).flatten):=by
     have:=qq4 gi (NG p);rw[hdr]at this
     conv=>lhs;rw[<- this]
     simp
    rw[e]at hnf;exact (qra.1 (qra.1 hnf).2.1).2.2 i h' i hi rfl
   rw[haN i hni];exact h.rest i (by rw[hdr];simp[hi])
theorem Yy (p:Problem)(val:Nat->Nat):∀ l m:List Nat,zJ p val (l++m)=zJ p val l*zJ p val m
 | [],m=>by simp[zJ]
 | i::l,m=>by rw[qqK,zJ,zJ,Yy p val l m,qtk]
theorem qfF {p:Problem}{val:Nat->Nat}{l m:List Nat}(h:l.Perm m):zJ p val l=zJ p val m:=by
 induction h with
 | nil=>rfl
 | cons x _ ih=>unfold zJ;rw[ih]
 | swap x y l=>unfold zJ;unfold zJ;rw[Nat.mul_left_comm]
 | trans _ _ h1 h2=>rw[h1,h2]
theorem qhy {p:Problem}{val:Nat->Nat}{l m:List Nat}(h:l.Sublist m)(hp:∀ i∈m,0<wtP p i (val i)):zJ p val l<=zJ p val m:=by
 induction h with
 | slnil=>exact qqB _
 | cons x h ih=>
  have:=ih fun i hi=>hp i (by simp[hi])
  exact qrf this (qt3 _ (hp x (by simp)))
 | cons_cons x h ih=>
  have:=ih fun i hi=>hp i (by simp[hi])
  exact Nat.mul_le_mul_left _ this
theorem Wk {p:Problem}{val:Nat->Nat}(q:Nat->Bool):∀ {l:List Nat},(∀ i∈l,q i=false->wtP p i (val i)=1)->zJ p val (l.filter q)=zJ p val l
 | [],_=>rfl
 | i::l,h=>by
  have ih:=Wk q (l:=l) fun j hj=>h j (by simp[hj])
  cases hq:q i with
  | true=>rw[qtQ,if_pos hq,zJ,zJ,ih]
  | false=>rw[qtQ,if_neg (by simp[hq]),zJ,ih,h i (by simp) hq,qtZ]
def ve (g:List Nat)(l:List Dist):List Nat:=(l.filter fun d=>decide (d.var.toNat∈g)).map fun d=>d.var.toNat
theorem qgg {p:Problem}(hv:qk p=0){g:List Nat}(hgn:g.Nodup)(hgm:∀ i∈g,i∈(NG p).flatten)(val:Nat->Nat):zJ p val (ve g p.dists)=zJ p val g:=by
 have hone:∀ i∈g,decide (i∈p.dists.map fun d=>d.var.toNat)=false->wtP p i (val i)=1:=fun i hi hn=>by
  unfold wtP;obtain⟨v,hvi,_⟩:=jh hv (hgm i hi);have hil:i<(zR p.vars.length p.dists).length:=by rw[jU];exact (qqp.1 hvi).1
  obtain⟨o,ho⟩:∃ o,(zR p.vars.length p.dists)[i]?=some o:=⟨_,qqr hil⟩;rw[qqz,ho]
  cases o with
  | none=>rfl
  | some w=>
   obtain⟨d,hd,hdv,_⟩:=qbf ho;have:i∈p.dists.map fun d=>d.var.toNat:=qqT.2 ⟨d,hd,hdv⟩
   rw[decide_eq_true this]at hn;cases hn
 rw[<- Wk (fun i=>decide (i∈p.dists.map fun d=>d.var.toNat)) hone];apply qfF;have hdn:(p.dists.map fun d=>d.var.toNat).Nodup:=by
  have:∀ k,((p.dists.take k).map fun d=>d.var.toNat).Nodup:=by
   intro k
   induction k with
   | zero=>simp
   | succ k ih=>
    rw[qqU]
    cases hk:p.dists[k]? with
    | none=>simpa using ih
    | some d=>
     obtain⟨h1,h2⟩:=vZ hv hk;rw[Option.toList,qrj,qra];refine⟨ih,by simp,fun x hx y hy e=>?_⟩;obtain⟨d',hd',rfl⟩:=qqT.1 hx;have hy:y=d.var.toNat:=(by simpa using hy);subst hy;obtain⟨j,hj⟩:=qqZ hd';have hjp:p.dists[j]?=some d':=by
      have hl:=(qqp.1 hj).1;rw[qta (by simp at hl;omega)]at hj;exact hj
     obtain⟨g1,g2⟩:=vZ hv hjp;simp only[yg,qqt,decide_eq_true_eq]at h1 g1;exact h2 d' hd' (by omega)
  have:=this p.dists.length
  rwa[qqx (qqB _)]at this
 refine (qtD ?_ (hgn.sublist List.filter_sublist)).2 fun i=>?_
 . exact hdn.sublist (List.filter_sublist.map _)
 . unfold ve;simp only[qqT,qsM,decide_eq_true_eq];constructor
   . rintro⟨d,⟨h1,h2⟩,rfl⟩;exact⟨h2,d,h1,rfl⟩
   . rintro⟨h1,d,h2,rfl⟩;exact⟨d,⟨h2,h1⟩,rfl⟩
theorem has83 (g:List Nat)(n:Int)(hl:g.length<=1000):Pure Tryz.prog GG 27 [.sl 1 (g.map ze) .none,.int .i64 n] (.bool (g.any fun x=>decide ((x:Int)=n))):=by
 refine Pure.k qe Tryz.func27 rfl (by kernel_rfl) ?_;simp[-getElem?_pos];obtain⟨r,hr⟩:∃ r,r=g.any fun x=>decide ((x:Int)=n):=⟨_,rfl⟩
 rw[<- hr];refine qV.listR g (fun d env U=>env 0=.sl 1 (g.map ze) .none/\env 1=.int .i64 n/\env 5=.int .i64 d.length/\U=⟨[],[]⟩/\r=(g.drop d.length).any fun x=>decide ((x:Int)=n)) ?_ ?_ ?_
 . exact⟨by simp,by simp,by simp,by simp,by simpa using hr⟩
 . rintro d v s env U R hR hd hv hlt ⟨e0,e1,e5,rfl,hn⟩;have hw:=wr (n:=(d.length:Int)+1) (by omega) (by omega);have hlt':(d.length:Int)<g.length:=(by omega);have hdr:g.drop d.length=v::g.drop (d.length+1):=by
    obtain⟨h1,h2⟩:=qqp.1 hv;rw[qqF h1,h2]
   rw[hdr,qsp]at hn;by_cases hvn:(v:Int)=n
   . have:r=true:=by rw[hn,decide_eq_true hvn,Bool.true_or]
     simp[-getElem?_pos,e0,e1,e5,hlt,hlt',hv,hvn,this,ze]
   . rw[decide_eq_false hvn,qsB]at hn;simp[-getElem?_pos,e0,e1,e5,hlt,hlt',hv,hvn,hw,ze];exact hR _ _ ⟨by simp[e0],by simp[e1],by simp,by simp,by rw[qqu];exact hn⟩
 . rintro env U ⟨e0,e1,e5,rfl,hn⟩;have:r=false:=by rw[hn,qrZ];rfl
   simp[-getElem?_pos,e0,e1,e5,this]
def qnJ (g:List Nat)(a b:List Int):Bool:=g.all fun i=>decide (a[i]?=b[i]?)
theorem qqb (p:Problem)(hv:qk p=0)(hq:VQ p){gi:Nat}{g:List Nat}(hg:(NG p)[gi]?=some g){a b:List Int}(ha:a.length=p.vars.length)(hb:b.length=p.vars.length) :
 Pure Tryz.prog GG 28 [.agg (qD p),.int .i64 gi,.sl 1 (a.map qo) .none,.sl 1 (b.map qo) .none] (.bool (qnJ g a b)):=by
 refine Pure.k qe Tryz.func28 rfl (by kernel_rfl) ?_;have hG:=Qm hv;have hl:=QJ hv hq.vars;have hgl:=hl.1 g (qqq hg);have hgi:=(qqp.1 hg).1;have hgi':(gi:Int)<(NG p).length:=by omega
 have hin:∀ i∈g,i<p.vars.length:=fun i hi=>by
  obtain⟨v,hv',_⟩:=jh hv (qrd.2 ⟨g,qqq hg,hi⟩);exact (qqp.1 hv').1
 obtain⟨r,hr⟩:∃ r,r=qnJ g a b:=⟨_,rfl⟩;rw[<- hr];unfold qnJ at hr;simp only[qD,hG];simp[-getElem?_pos];refine qV.listR g (fun d env U=>env 1=.int .i64 gi/\env 2=.sl 1 (a.map qo) .none/\env 3=.sl 1 (b.map qo) .none/\env 4=.ptr 0 0/\env 9=.int .i64 d.length/\U=⟨[.cells [.sl 4 (p.vars.map qz) .none,.sl 4 (p.hard.map qr) .none,.sl 4 (p.soft.map qr) .none,.sl 2 (p.dists.map zj) .none,.sl 1 ((NG p).map zr) .none]],[]⟩/\r=(g.drop d.length).all fun i=>decide (a[i]?=b[i]?)) ?_ ?_ ?_
 . exact⟨by simp,by simp,by simp,by simp,by simp,by simp,by simpa using hr⟩
 . rintro d i s env U R hR hd hvi hlt ⟨e1,e2,e3,e4,e9,rfl,hn⟩;have hw:=wr (n:=(d.length:Int)+1) (by omega) (by omega);have hlt':(d.length:Int)<g.length:=(by omega);have hdr:g.drop d.length=i::g.drop (d.length+1):=by
    obtain⟨h1,h2⟩:=qqp.1 hvi;rw[qqF h1,h2]
   rw[hdr,qr0]at hn;have hil:=hin i (qqq hvi);have hia:i<a.length:=(by omega);have hib:i<b.length:=(by omega);have hia':(i:Int)<a.length:=(by omega);have hib':(i:Int)<b.length:=(by omega);obtain⟨x,hx⟩:∃ x,a[i]?=some x:=⟨_,qqr hia⟩;obtain⟨y,hy⟩:∃ y,b[i]?=some y:=⟨_,qqr hib⟩;rw[hx,hy]at hn;by_cases hxy:x=y
   . rw[hxy,decide_eq_true rfl,qrp]at hn;subst hxy;simp[-getElem?_pos,e1,e2,e3,e4,e9,hg,hgi,hgi',hlt,hlt',hvi,hx,hy,hia,hib,hia',hib',zr,ze,hw];exact hR _ _ ⟨by simp[e1],by simp[e2],by simp[e3],by simp[e4],by simp,by simp[zr],by rw[qqu];exact hn⟩
   . have:r=false:=by rw[hn,decide_eq_false (by simpa using hxy),qr3]
     subst this;simp[-getElem?_pos,e1,e2,e3,e4,e9,hg,hgi,hgi',hlt,hlt',hvi,hx,hy,hia,hib,hia',hib',zr,ze,hxy]
 . rintro env U ⟨e1,e2,e3,e4,e9,rfl,hn⟩;have:r=true:=by rw[hn,qrZ];rfl
   simp[-getElem?_pos,e1,e2,e3,e4,e9,hg,hgi,hgi',zr,this]
theorem qnn {g:List Nat}{n:Nat}:(g.any fun x=>decide ((x:Int)=(n:Int)))=decide (n∈g):=by
 rw[qre,qqR,decide_eq_true_eq];constructor
 . rintro⟨x,hx,h⟩;have:x=n:=by have:=of_decide_eq_true h;omega
   subst this;exact hx
 . intro h;exact⟨n,h,by simp⟩
theorem qgf (g:List Nat)(l:List Dist)(d:Dist):ve g (l++[d])=ve g l++if d.var.toNat∈g then [d.var.toNat] else []:=by
 unfold ve;rw[qtC,qrj];congr 1;by_cases h:d.var.toNat∈g<;>simp[h]
theorem qj1 (p:Problem)(hv:qk p=0)(hr:RnH p){gi:Nat}{g:List Nat}(hg:(NG p)[gi]?=some g){a:List Int}(ha:a.length=p.vars.length)(hpos:∀ i∈g,0<wtP p i (aN a i)/\a[i]?=some (aN a i:Int))(hle:zJ p (aN a) g<=600) :
 Pure Tryz.prog GG 29 [.agg (qD p),.int .i64 gi,.sl 1 (a.map qo) .none] (.int .i64 (zJ p (aN a) g:Nat)):=by
 refine Pure.k qe Tryz.func29 rfl (by kernel_rfl) ?_;have hG:=Qm hv;have hq:=hr.q;have hl:=QJ hv hq.vars;have hgl:=hl.1 g (qqq hg);have hgi:=(qqp.1 hg).1;have hgi':(gi:Int)<(NG p).length:=by omega
 have hvl:=hq.vars;obtain⟨g',hg',hgd,hgn,hgm⟩:=qjM hv hgi;rw[hg]at hg';cases hg';have hprod:=qgg hv hgn hgm (aN a);have hdl:=hr.dl;have hnr:∀ l:List Nat,zi (l.map ze)=true:=zh (fun x=>by simp[ze]);simp only[qD,hG];simp[-getElem?_pos];refine qV.listR p.dists (fun d env U=>env 1=.int .i64 gi/\env 2=.sl 1 (a.map qo) .none/\env 3=.ptr 0 0/\env 7=.int .i64 (zJ p (aN a) (ve g d):Nat)/\env 8=.int .i64 d.length/\d <+: p.dists/\∃ u,U=⟨.cells [.sl 4 (p.vars.map qz) .none,.sl 4 (p.hard.map qr) .none,.sl 4 (p.soft.map qr) .none,.sl 2 (p.dists.map zj) .none,.sl 1 ((NG p).map zr) .none]::u,[]⟩) ?_ ?_ ?_
 . exact⟨by simp,by simp,by simp,by simp[ve,zJ],by simp,by simp,[],by simp⟩
 . rintro d x rest env U R hR hd hvx hlt ⟨e1,e2,e3,e7,e8,hpre,u,rfl⟩;have hw:=wr (n:=(d.length:Int)+1) (by omega) (by omega);have hlt':(d.length:Int)<p.dists.length:=(by omega);have hm:=qqq hvx;obtain⟨i,h1,h2,h3,h4⟩:=qh2 hv hm;have hh:=has83 g x.var hgl;rw[h1,qnn]at hh;have hsn:=qgf g d x;rw[h1,qq1]at hsn;have hpre2:d++[x] <+: p.dists:=⟨rest,by rw[hd];simp⟩;have hppos:∀ j∈ve g p.dists,0<wtP p j (aN a j):=fun j hj=>by
    unfold ve at hj;obtain⟨y,hy,rfl⟩:=qqT.1 hj;rw[qsM]at hy;exact (hpos _ (of_decide_eq_true hy.2)).1
   have hbound:∀ l:List Dist,l <+: p.dists->zJ p (aN a) (ve g l)<=600:=fun l hl=>by
    have:(ve g l).Sublist (ve g p.dists):=(hl.sublist.filter _).map _;have:=qhy (val:=aN a) this hppos;rw[hprod]at this;omega
   have hb1:=hbound d hpre;have hb2:=hbound _ hpre2;by_cases hig:i∈g
   . obtain⟨w0,w1⟩:=hpos i hig;have hil:=(qqp.1 w1).1;have hil':(i:Int)<a.length:=(by omega);have hwt:=qdA x.weights (hr.wl x hm) (aN a i:Int);rw[if_pos hig]at hsn;rw[hsn,Yy]at hb2;have hp1:0<zJ p (aN a) (ve g d):=Ve fun j hj=>hppos j (by
      have:(ve g d).Sublist (ve g p.dists):=(hpre.sublist.filter _).map _;exact this.subset hj)
     have hone:zJ p (aN a) [i]=wtP p i (aN a i):=(by simp[zJ]);rw[hone]at hb2;have hwle:wtP p i (aN a i)<=600:=qrf (qt3 _ hp1) hb2;have hwd:j7 x.weights (aN a i:Int)=(((wtP p i (aN a i):Nat):Int),0):=by
      have hwp:wtP p i (aN a i)=wtO (some x.weights) (aN a i:Int):=(by unfold wtP;rw[qqz,h4];rfl);rw[hwp]at w0 hwle ⊢;unfold wtO at w0 hwle ⊢;dsimp only at w0 hwle ⊢;split at hwle
      . unfold lim at hwle;omega
      . rename_i he;rw[if_neg he]at w0 ⊢;unfold sat lim at w0 hwle ⊢;refine Prod.ext ?_ (qrl.1 he);dsimp only;omega
     rw[hwd]at hwt;have hnew:zJ p (aN a) (ve g (d++[x]))=zJ p (aN a) (ve g d)*wtP p i (aN a i):=(by rw[hsn,Yy,hone]);rw[decide_eq_true hig]at hh;dsimp only at hwt;generalize wtP p i (aN a i)=W at *;generalize zJ p (aN a) (ve g d)=A at *;have hwm:=wr (n:=((A*W:Nat):Int)) (by omega) (by omega);rw[qsx]at hwm;have n1:¬ (W:Int)<0:=(by omega);have n2:¬ (1000000:Int)<W:=(by omega);have n3:¬ (1000000:Int)<A:=(by omega);simp[-getElem?_pos,e1,e2,e3,e7,e8,hg,hgi,hgi',hlt,hlt',hvx,zr,h1];refine qc.call hh (by simp[hnr]) ?_;simp[-getElem?_pos,unA,e1,e2,e3,e7,e8,w1,hil,hil',h1];refine qc.call hwt (by simp) ?_;simp[-getElem?_pos,unA,e1,e2,e3,e7,e8,n1,n2,n3,hwm,hw];exact hR _ _ ⟨by simp[e1],by simp[e2],by simp[e3],by simp[hnew],by simp,hpre2,u++[.cells [.int .i64 x.var,.sl 4 (x.weights.map qA) .none]],by simp[zr,h1]⟩
   . rw[if_neg hig,qq6]at hsn;rw[decide_eq_false hig]at hh;simp[-getElem?_pos,e1,e2,e3,e7,e8,hg,hgi,hgi',hlt,hlt',hvx,zr,h1];refine qc.call hh (by simp[hnr]) ?_;simp[-getElem?_pos,unA,e1,e2,e3,e7,e8,hw];exact hR _ _ ⟨by simp[e1],by simp[e2],by simp[e3],by simp[e7,hsn],by simp,hpre2,u++[.cells [.int .i64 x.var,.sl 4 (x.weights.map qA) .none]],by simp[zr,h1]⟩
 . rintro env U ⟨e1,e2,e3,e7,e8,hpre,u,rfl⟩;rw[hprod]at e7;simp[-getElem?_pos,e1,e2,e3,e7,e8]
def LoP (p:Problem)(a:List Int)(gi:Nat)(g:List Nat)(t:Nat)(idx lo:Int):Prop :=
 0<=lo/\lo<=idx/\idx<lo+(zJ p (aN (qv p gi a idx)) g:Nat)/\lo+(zJ p (aN (qv p gi a idx)) g:Nat)<=(t:Nat) /\
  ∀ j:Int,0<=j->j<(t:Nat)->((∀ i∈g,(qv p gi a j)[i]?=(qv p gi a idx)[i]?)↔lo<=j/\j<lo+(zJ p (aN (qv p gi a idx)) g:Nat))
theorem qjG {g:List Nat}{a b:List Int}:qnJ g a b=true↔∀ i∈g,a[i]?=b[i]? := by
 unfold qnJ;simp[qqA]
structure ChsOk (p:Problem)(g:List Nat)(a b:List Int):Prop where
 len:b.length=p.vars.length
 out:∀ i,i∉g->b[i]?=a[i]?
 pos:∀ i∈g,0<wtP p i (aN b i)/\b[i]?=some (aN b i:Int)
theorem chs_ok {p:Problem}(hv:qk p=0){a:List Int}{gi:Nat}{g:List Nat}(hg:(NG p)[gi]?=some g)(h:MidA p a gi)(ht:qax p a gi<lim){idx:Int}(h0:0<=idx)(h1:idx<(qax p a gi:Nat)):ChsOk p g a (qv p gi a idx):=by
 have hgi:=(qqp.1 hg).1;obtain⟨g',hg',hgd,hgn,hgm⟩:=qjM hv hgi;rw[hg]at hg';cases hg';obtain⟨c1,c2,c3⟩:=h.choose hv hgi ht h0 h1;rw[hgd]at c2 c3;refine⟨c1.e.good.len,c2,fun i hi=>⟨(c3 i hi).1,?_⟩⟩;obtain⟨v,hvi,hm⟩:=jh hv (hgm i hi);have hil:=(qqp.1 hvi).1;obtain⟨x,hx⟩:∃ x,(qv p gi a idx)[i]?=some x:=⟨_,qqr (by rw[c1.e.good.len];exact hil)⟩;have hx0:=c1.e.good.nn i v x hvi hm hx;rw[hx];unfold aN;rw[qqz,hx];dsimp only[Option.getD];congr 1;omega
theorem qg3 (p:Problem)(hv:qk p=0)(hr:RnH p)(h0:(qm p).2=0)(hl12:(NG p).flatten.length<=12){gi:Nat}{g:List Nat}(hg:(NG p)[gi]?=some g){a:List Int}(h:MidA p a gi){t:Nat}(ht:qax p a gi=t)(h1:1<=t)(h600:t<=600) :
 Pure Tryz.prog GG 12 [.agg (qD p),.int .i64 gi,.int .i64 t,.sl 1 (a.map qo) .none] (.bool true):=by
 refine Pure.k qe Tryz.func12 rfl (by kernel_rfl) ?_;have hG:=Qm hv;have hq:=hr.q;have hgi:=(qqp.1 hg).1;have hgi':(gi:Int)<(NG p).length:=by omega
 have hgl:=(QJ hv hq.vars).1 g (qqq hg);obtain⟨g',hg',hgd,hgn,hgm⟩:=qjM hv hgi;rw[hg]at hg';cases hg';have hvl:=hq.vars;have htl:qax p a gi<lim:=by rw[ht];unfold lim;omega
 have hal:=h.e.good.len;have hass:=h.assigns hv;have hgne:g≠[]:=by
  obtain⟨g',h2,rfl⟩:=qqT.1 (qqq hg);have:=(jX hv).1 g' h2;simpa using this
 have hv1:0<p.vars.length:=by
  obtain⟨x,hx⟩:=qtJ g hgne;obtain⟨v,hvi,_⟩:=jh hv (hgm x hx);have:=(qqp.1 hvi).1;omega
 have htot:wY p gi a=((t:Int),0):=by
  have hs:Zv p (fun _=>none) a gi=t:=by
   rw[vt];show sat (qax p a gi)=t;rw[ht];unfold sat lim;omega
  unfold wY;rw[if_neg (by rw[hass];simp;omega),qq1,hs,if_neg (by omega),if_neg (by unfold lim;omega)]
 have hto:yp p gi a=((t:Int),0):=by
  unfold yp;rw[if_neg (fun e=>e h0),htot]
 have hcho:∀ k:Int,yK p gi a k=if k<0\/(t:Int)<=k then ([],12) else (qv p gi a k,0):=fun k=>by
  unfold yK;rw[hto,if_neg (by simp),qq1]
 have hcall:=fun k=>V8 p hr (fun _=>hl12) gi a k
 have hlo:∀ k:Int,0<=k->k<(t:Nat)->∃ lo,LoP p a gi g t k lo:=fun k k0 k1=>by
  have:=qdh hv hgi hal htl k0 (by rw[ht];exact k1);rw[hgd,ht]at this;exact this
 have hok:∀ k:Int,0<=k->k<(t:Nat)->ChsOk p g a (qv p gi a k):=fun k k0 k1=>chs_ok hv hg h htl k0 (by rw[ht];exact k1)
 have hhas:=fun n:Int=>has83 g n hgl
 have hagr:=fun (x y:List Int) hx hy=>qqb p hv hq hg (a:=x) (b:=y) hx hy
 have hwgt:=fun (x:List Int) hx hp hle=>qj1 p hv hr hg (a:=x) hx hp hle
 have hnr:∀ l:List Nat,zi (l.map ze)=true:=zh (fun x=>by simp[ze]);have hnr2:zi ((NG p).map zr)=true:=zh (fun x=>by simp[zr,hnr]) _;simp only[qD,hG]at hcall hagr hwgt ⊢;have hbad1:=hcall t;have hbad2:=hcall (-1);rw[hcho,if_pos (.inr (qsW _))]at hbad1;rw[hcho,if_pos (.inl (by omega))]at hbad2;dsimp only at hbad1 hbad2;obtain⟨P,hP⟩:∃ P:List AV,P=[AV.sl 4 (p.vars.map qz) .none,.sl 4 (p.hard.map qr) .none,.sl 4 (p.soft.map qr) .none,.sl 2 (p.dists.map zj) .none,.sl 1 ((NG p).map zr) .none]:=⟨_,rfl⟩;simp[-getElem?_pos];refine ym t (fun k ev U=>ev 1=.int .i64 gi/\ev 2=.int .i64 t/\ev 3=.sl 1 (a.map qo) .none/\ev 4=.ptr 0 0/\ev 11=.int .i64 k/\U=⟨[.cells P],[]⟩ /\
  ((k=0/\ev 9=.sl 0 [] .nil/\ev 10=.int .i64 0)\/(∃ m lo:Int,0<=m/\m<k/\LoP p a gi g t m lo/\(k:Int)<=lo+(zJ p (aN (qv p gi a m)) g:Nat)/\lo<k/\ev 9=.sl 1 ((qv p gi a m).map qo) .none/\ev 10=.int .i64 (k-lo)))) ?_ ?_ ?_
 . exact⟨by simp,by simp,by simp,by simp,by simp,by simp[hP],.inl ⟨rfl,by simp,by simp⟩⟩
 . rintro k ev U R hR hkt ⟨e1,e2,e3,e4,e11,rfl,hst⟩;subst hP;have hkt':(k:Int)<t:=(by omega);have hwk:=wr (n:=(k:Int)+1) (by omega) (by omega);have hck:=hcall k;rw[hcho,if_neg (by omega)]at hck;dsimp only at hck;have hbk:=hok k (by omega) hkt';have hlen:(qv p gi a k).length=a.length:=(by rw[hbk.len,hal]);simp[-getElem?_pos,e1,e2,e3,e4,e11,hkt'];refine qc.call hck (by simp[hnr,hnr2]) ?_;simp[-getElem?_pos,e1,e2,e3,e4,e11,hlen];obtain⟨b,hb⟩:∃ b,b=qv p gi a k:=⟨_,rfl⟩;have hgetb:∀ i:Nat,i<a.length->∃ y,b[i]?=some y:=fun i hi=>⟨_,qqr (by rw[hb,hlen];exact hi)⟩
   have hout:∀ i:Nat,i∉g->b[i]?=a[i]? :=(by rw[hb];exact hbk.out);have hbl:b.length=a.length:=(by rw[hb,hlen]);rw[<- hb];refine qV.listR a (fun d env U=>env 1=.int .i64 gi/\env 2=.int .i64 t/\env 3=.sl 1 (a.map qo) .none/\env 4=.ptr 0 0/\env 9=ev 9/\env 10=ev 10/\env 11=.int .i64 k/\env 12=.sl 1 (b.map qo) .none/\env 14=.int .i64 d.length/\U=⟨[.cells [.sl 4 (p.vars.map qz) .none,.sl 4 (p.hard.map qr) .none,.sl 4 (p.soft.map qr) .none,.sl 2 (p.dists.map zj) .none,.sl 1 ((NG p).map zr) .none]],[]⟩) ?_ ?_ ?_
   . exact⟨by simp[e1],by simp[e2],by simp[e3],by simp[e4],by simp,by simp,by simp[e11],by simp,by simp,rfl⟩
   . rintro d x rest env U R2 hR2 hd hxx hlt ⟨f1,f2,f3,f4,f9,f10,f11,f12,f14,rfl⟩;have hw:=wr (n:=(d.length:Int)+1) (by omega) (by omega);have hlt':(d.length:Int)<a.length:=(by omega);obtain⟨y,hy⟩:=hgetb d.length hlt;have hltb:d.length<b.length:=(by omega);have hltb':(d.length:Int)<b.length:=(by omega);have hgo:∀ (env':Env) U',env' 1=.int .i64 gi->env' 2=.int .i64 t->env' 3=.sl 1 (a.map qo) .none->env' 4=.ptr 0 0->env' 9=ev 9->env' 10=ev 10->env' 11=.int .i64 k->env' 12=.sl 1 (b.map qo) .none->env' 14=.int .i64 ((d.length:Int)+1)->U'=⟨[.cells [.sl 4 (p.vars.map qz) .none,.sl 4 (p.hard.map qr) .none,.sl 4 (p.soft.map qr) .none,.sl 2 (p.dists.map zj) .none,.sl 1 ((NG p).map zr) .none]],[]⟩->R2 env' U':=fun env' U' x1 x2 x3 x4 x5 x6 x7 x8 x9 x10=>hR2 _ _ ⟨x1,x2,x3,x4,x5,x6,x7,x8,by rw[x9,qqu,qqV];rfl,x10⟩
     by_cases hxy:x=y
     . subst hxy;simp[-getElem?_pos,f1,f2,f3,f4,f11,f12,f14,hlt,hlt',hxx,hy,hltb,hltb',hw];exact hgo _ _ (by simp[f1]) (by simp[f2]) (by simp[f3]) (by simp[f4]) (by simp[f9]) (by simp[f10]) (by simp[f11]) (by simp[f12]) (by simp) rfl
     . have hin:d.length∈g:=by
        apply Classical.byContradiction;intro hn;have:=hout _ hn;rw[hy,hxx]at this;exact hxy (Option.some.inj this).symm
       have hh:=hhas (d.length:Int);rw[qnn,decide_eq_true hin]at hh;simp[-getElem?_pos,f1,f2,f3,f4,f11,f12,f14,hlt,hlt',hxx,hy,hltb,hltb',hxy,hg,hgi,hgi',zr];refine qc.call hh (by simp[hnr]) ?_;simp[-getElem?_pos,unA,f14,hw];exact hgo _ _ (by simp[f1]) (by simp[f2]) (by simp[f3]) (by simp[f4]) (by simp[f9]) (by simp[f10]) (by simp[f11]) (by simp[f12]) (by simp) (by simp[zr])
   . rintro env U ⟨f1,f2,f3,f4,f9,f10,f11,f12,f14,rfl⟩;obtain⟨lk,hlk⟩:=hlo k (by omega) hkt';have hfinN:lk=k->∀ (env':Env) U',env' 1=.int .i64 gi->env' 2=.int .i64 t->env' 3=.sl 1 (a.map qo) .none->env' 4=.ptr 0 0->env' 9=.sl 1 (b.map qo) .none->env' 10=.int .i64 1->env' 11=.int .i64 ((k:Int)+1)->U'=⟨[.cells [.sl 4 (p.vars.map qz) .none,.sl 4 (p.hard.map qr) .none,.sl 4 (p.soft.map qr) .none,.sl 2 (p.dists.map zj) .none,.sl 1 ((NG p).map zr) .none]],[]⟩->R env' U':=fun hl env' U' x1 x2 x3 x4 x9 x10 x11 xs=>by
      subst hl;have h3:=hlk.2.2.1;refine hR _ _ ⟨x1,x2,x3,x4,by rw[x11];rfl,xs,.inr ⟨k,k,by omega,by omega,hlk,by omega,by omega,by rw[x9,hb],?_⟩⟩;rw[x10];congr 1;omega
     rcases hst with ⟨rfl,e9,e10⟩|⟨m,lo,m0,m1,hm,hk1,hk2,e9,e10⟩
     . have hl0:lk=((0:Nat):Int):=(by have:=hlk.1;have:=hlk.2.1;omega);simp[-getElem?_pos,f1,f2,f3,f4,f9,f10,f11,f12,f14,e9,e10,hlen,hbl];exact hfinN hl0 _ _ (by simp[f1]) (by simp[f2]) (by simp[f3]) (by simp[f4]) (by simp) (by simp) (by simp[f11,hwk,show IntKind.i64.wrap 1=1 by decide]) rfl
     . have hmt:m<(t:Nat):=(by omega);have hokm:=hok m m0 hmt;have hml:(qv p gi a m).length=p.vars.length:=hokm.len;have hmn:qv p gi a m≠[]:=fun e=>by rw[e]at hml;simp at hml;omega
       have hag:=hagr (qv p gi a m) b hml (by rw[hbl,hal]);have hiff:=hm.2.2.2.2 k (by omega) hkt';rw[<- hb]at hiff;have hWt:zJ p (aN (qv p gi a m)) g<=600:=by
        have h3:=hm.2.2.2.1;have h4:=hm.1;omega
       have hwg:=hwgt (qv p gi a m) hml hokm.pos hWt;have hloI:=hm.1;have hwr:=wr (n:=(k:Int)-lo+1) (by omega) (by omega);have hsame:∀ j:Int,0<=j->j<(t:Nat)->lo<=j->j<lo+(zJ p (aN (qv p gi a m)) g:Nat)->∀ i∈g,(qv p gi a j)[i]?=(qv p gi a m)[i]? := fun j j0 j1 j2 j3=>(hm.2.2.2.2 j j0 j1).2 ⟨j2,j3⟩
       have hgoA:qnJ g (qv p gi a m) b=true->∀ (env':Env) U',env' 1=.int .i64 gi->env' 2=.int .i64 t->env' 3=.sl 1 (a.map qo) .none->env' 4=.ptr 0 0->env' 9=.sl 1 ((qv p gi a m).map qo) .none->env' 10=.int .i64 ((k:Int)-lo+1)->env' 11=.int .i64 ((k:Int)+1)->U'=⟨[.cells [.sl 4 (p.vars.map qz) .none,.sl 4 (p.hard.map qr) .none,.sl 4 (p.soft.map qr) .none,.sl 2 (p.dists.map zj) .none,.sl 1 ((NG p).map zr) .none]],[]⟩->R env' U':=fun ha env' U' x1 x2 x3 x4 x9 x10 x11 xs=>by
        have:=hiff.1 fun i hi=>(qjG.1 ha i hi).symm
        refine hR _ _ ⟨x1,x2,x3,x4,by rw[x11];rfl,xs,.inr ⟨m,lo,m0,by omega,hm,by omega,by omega,x9,?_⟩⟩;rw[x10];congr 1;omega
       have hnot:qnJ g (qv p gi a m) b=false->(k:Int)-lo=(zJ p (aN (qv p gi a m)) g:Nat)/\lk=k:=fun ha=>by
        have hn:¬ (lo<=(k:Int)/\(k:Int)<lo+(zJ p (aN (qv p gi a m)) g:Nat)):=fun hc=>by
         have:=qjG.2 fun i hi=>(hiff.2 hc i hi).symm
         rw[ha]at this;cases this
        refine⟨by omega,?_⟩;apply Classical.byContradiction;intro hne;have l1:=hlk.1;have l2:=hlk.2.1;have l3:=hlk.2.2.1;have s1:=(hlk.2.2.2.2 ((k:Int)-1) (by omega) (by omega)).2 (by omega);have s2:=hsame ((k:Int)-1) (by omega) (by omega) (by omega) (by omega);have:=hiff.1 fun i hi=>by rw[hb,<- s1 i hi,s2 i hi]
        exact hn this
       generalize qv p gi a m=cm at *;generalize zJ p (aN cm) g=W at *;obtain⟨c0,cr,rfl⟩:=qsd hmn
       cases hab:qnJ g (c0::cr) b with
       | true=>
        rw[hab]at hag;simp[-getElem?_pos,f1,f2,f3,f4,f9,f10,f11,f12,f14,e9,e10,hlen,hbl,hmn];refine qc.call hag (by simp[hnr,hnr2]) ?_;simp[-getElem?_pos,f1,f2,f3,f4,f9,f10,f11,f12,f14,e9,e10,hwr,hwk];exact hgoA hab _ _ (by simp[f1]) (by simp[f2]) (by simp[f3]) (by simp[f4]) (by simp[f9,e9]) (by simp) (by simp) rfl
       | false=>
        rw[hab]at hag;obtain⟨hkl,hlkk⟩:=hnot hab;have hkl':¬ ((k:Int)-lo=(W:Int))->False:=fun h=>h hkl
        simp[-getElem?_pos,f1,f2,f3,f4,f9,f10,f11,f12,f14,e9,e10,hlen,hbl,hmn];refine qc.call hag (by simp[hnr,hnr2]) ?_;simp[-getElem?_pos,f1,f2,f3,f4,f9,f10,f11,f12,f14,e9,e10,hmn];refine qc.call hwg (by simp[hnr,hnr2]) ?_;simp[-getElem?_pos,f1,f2,f3,f4,f9,f10,f11,f12,f14,e9,e10,hkl,hwk];exact hfinN hlkk _ _ (by simp[f1]) (by simp[f2]) (by simp[f3]) (by simp[f4]) (by simp) (by simp) (by simp) rfl
 . rintro ev U ⟨e1,e2,e3,e4,e11,rfl,hst⟩;subst hP;rcases hst with ⟨rfl,-⟩|⟨m,lo,m0,m1,hm,hk1,hk2,e9,e10⟩
   . omega
   have hmt:m<(t:Nat):=(by omega);have hokm:=hok m m0 hmt;have hml:(qv p gi a m).length=p.vars.length:=hokm.len;have hmn:qv p gi a m≠[]:=fun e=>by rw[e]at hml;simp at hml;omega
   have h3:=hm.2.2.2.1;have h4:=hm.1;have hwg:=hwgt (qv p gi a m) hml hokm.pos (by omega);have hend:(t:Int)-lo=(zJ p (aN (qv p gi a m)) g:Nat):=(by omega);generalize qv p gi a m=cm at *;generalize zJ p (aN cm) g=W at *;obtain⟨c0,cr,rfl⟩:=qsd hmn;simp[-getElem?_pos,e1,e2,e3,e4,e11];refine qc.call hbad1 (by simp[hnr,hnr2]) ?_;simp[-getElem?_pos,e1,e2,e3,e4,e11];refine qc.call hbad2 (by simp[hnr,hnr2]) ?_;simp[-getElem?_pos,e1,e2,e3,e4,e9,e10,e11,hmn];refine qc.call hwg (by simp[hnr,hnr2]) ?_;simp[-getElem?_pos,e1,e2,e3,e4,e9,e10,e11,hend]
theorem qbG:∀ l:List Var,WH l []=zg l
 | []=>rfl
 | v::l=>by
  have ih:=qbG l;have h0:∀ y,KQ 0 y=0:=fun y=>by
   show IntKind.i64.wrap ((0#64 &&& BitVec.ofInt 64 y).toNat:Int)=0;rw[BitVec.zero_and];decide
  unfold WH;rw[ih];unfold zg;rw[qqC];congr 1;unfold qlM;split
  . rfl
  . exact h0 _
theorem qjD (n:Int):0<=KQ n 1023:=by
 have e:((BitVec.ofInt 64 n &&& 1023#64).toNat:Int)=n % 1024:=by
  rw[BitVec.toNat_and,BitVec.toNat_ofInt];have e:(1023#64).toNat=2 ^ 10-1:=by decide
  rw[e,qr6];omega
 have h:KQ n 1023=IntKind.i64.wrap ((BitVec.ofInt 64 n &&& 1023#64).toNat:Int):=rfl;rw[h,e,wr (by omega) (by omega)];omega
theorem qhc {p:Problem}(h:(qm p).2=0):MidA p (zg p.vars) 0:=by
 obtain⟨hv,_,hs,_⟩:=Wh h;refine⟨⟨qf5 p,by
  have:yh p (zg p.vars) 0=[]:=by simp[yh]
  rw[this,qoY];exact hs,fun i hi=>by simp at hi⟩,fun i hi=>?_⟩
 rw[qrE]at hi;obtain⟨v,hvi,hm⟩:=jh hv hi;unfold aN zg;rw[qqz,qqO,hvi];simp[hm]
theorem exact8 (p:Problem)(l:List Int)(h:VM p)(hl:Fits l):Pure Tryz.prog GG 3 [.agg (qD p),.sl 1 (l.map qo) .none] (.bool true):=by
 refine Pure.k qe Tryz.func3 rfl (by kernel_rfl) ?_;have hs:=qop p h 8;simp only[qD]at hs;simp[-getElem?_pos];refine qc.call hs (by simp) ?_
 cases hso:Wc p 8 with
 | false=>
  simp[-getElem?_pos,unA];refine qc.call J4 (by simp) ?_;simp[-getElem?_pos]
 | true=>
  obtain⟨hr,hvp,hv,hb⟩:=qhe h (by decide) hso;have hl12:=qfs hr hv (by omega);have s1:=KA p hr;have s2:=fit36 p [] hr.q.vars (by simp[Fits]);rw[qbG]at s2;have hvl:=hr.q.vars;have hso:jS p=if (qm p).2≠0 then (0,(qm p).2) else (qmT p (qm p).1,0):=rfl
  simp only[qD]at s1 s2;by_cases h0:(qm p).2=0
  case neg=>
   rw[if_pos h0]at hso;rw[hso]at s1;simp[-getElem?_pos,unA];refine qc.less s2 (by simp) (by simp[zA,Leq,Leq.refl,j9.refl]) ?_;simp[-getElem?_pos];refine qc.call s1 (by simp) ?_;simp[-getElem?_pos,h0];refine qc.call J4 (by simp) ?_;simp[-getElem?_pos]
  rw[if_neg (fun e=>e h0)]at hso;rw[hso]at s1;have hmid:=qhc h0;have hneed:=(Wh h0).2.2.2;have hG:=Qm hv;have hgl:p.groups.length=(NG p).length:=by simp[NG]
  have hgn:=(QJ hv hvl).2;have hgn':(p.groups.length:Int)=(NG p).length:=by omega
  generalize qmT p (qm p).1=N at *;simp[-getElem?_pos,unA];refine qc.less s2 (by simp) (by simp[zA,Leq,Leq.refl,j9.refl]) ?_;simp[-getElem?_pos];refine qc.call s1 (by simp) ?_;simp[-getElem?_pos];refine ym (NG p).length (fun k ev U=>ev 1=.sl 1 (l.map qo) .none/\ev 2=.ptr 0 0/\ev 8=.int .i64 k/\U=⟨[.cells (qD p)],[]⟩/\∃ a,ev 5=.sl 1 (a.map qo) .none/\MidA p a k) ?_ ?_ ?_
  . exact⟨by simp,by simp,by simp,by simp[qD],zg p.vars,by simp,hmid⟩
  . rintro k ev U R hR hkn ⟨e1,e2,e8,rfl,a,e5,hm⟩;have hkn':(k:Int)<(NG p).length:=(by omega);have hwk:=wr (n:=(k:Int)+1) (by omega) (by omega);have hal:=hm.e.good.len;have haf:Fits a:=(by unfold Fits;omega);have s3:=qjI p hr k a;have hto:yp p k a=wY p k a:=(by unfold yp;rw[if_neg (fun e=>e h0)]);have ht:=hm.tot hv hkn hneed;have hok:=qoi (p:=p) (gi:=k) (a:=a);have htA:=fun t1 t2 t3 t4=>qg3 p hv hr h0 hl12 (gi:=k) (g:=(NG p).getD k []) (by rw[qqz,qqr hkn];rfl) hm (t:=t1) t2 t3 t4
    have hcs:=fun idx=>V8 p hr (fun _=>hl12) k a idx
    have hcO:∀ idx:Int,yK p k a idx=if (wY p k a).2≠0 then ([],(wY p k a).2) else if idx<0\/(wY p k a).1<=idx then ([],12) else (qv p k a idx,0):=fun idx=>by
     unfold yK;rw[hto,qq1]
    have hch:=fun (hl:qax p a k<lim) idx h0 h1=>hm.choose hv hkn hl (idx:=idx) h0 h1
    rw[hto]at s3;have e3:(wY p k a).2=3->(wY p k a).1=0:=fun h=>by
     unfold wY at h⊢;split
     . rfl
     . rename_i h1;rw[if_neg h1]at h;split
       . rfl
       . rename_i h2;rw[if_neg h2]at h;split
         . rfl
         . rename_i h3;rw[if_neg h3]at h;cases h
    change (wY p k a).2=0->_/\_/\(wY p k a).1=(qax p a k:Nat)/\0<qax p a k/\qax p a k<lim at hok;obtain⟨t,ht1⟩:∃ t,qax p a k=t:=⟨_,rfl⟩;simp only[qD]at s3 htA hcs;generalize wY p k a=tt at *;obtain⟨t',e⟩:=tt;dsimp only at s3 ht hok hcO e3;rcases ht with rfl|rfl
    case inr=>
     have:=e3 rfl;subst this;simp[-getElem?_pos,e1,e2,e5,e8,hgn',hkn',qD];refine qc.call s3 (by simp) ?_;simp[-getElem?_pos];refine qc.call J4 (by simp) ?_;simp[-getElem?_pos]
    obtain⟨-,-,t3,t4,t5⟩:=hok rfl;rw[ht1]at t3 t4 t5 hch;subst t3;have n1:¬ (t:Int)<1:=(by omega);by_cases h600:t<=600
    case neg=>
     have n2:(600:Int)<t:=(by omega);have n3:600<t:=(by omega);simp[-getElem?_pos,e1,e2,e5,e8,hgn',hkn',qD];refine qc.call s3 (by simp) ?_;simp[-getElem?_pos,n1,n2,n3];refine qc.call J4 (by simp) ?_;simp[-getElem?_pos]
    have n2:¬ (600:Int)<t:=(by omega);have n3:¬ 600<t:=(by omega);have htl:=htA t ht1 t4 h600;obtain⟨x,hx⟩:∃ x,x=(l[k]?).getD 0:=⟨_,rfl⟩;have hand:=qjD x;have htm:(KQ x 1023).tmod t=(KQ x 1023) % t:=qsV hand;have hm0:=Int.emod_nonneg (KQ x 1023) (show (t:Int)≠0 by omega);have hm1:=Int.emod_lt_of_pos (KQ x 1023) (show (0:Int)<t by omega);have hwm:=wr (n:=(KQ x 1023) % (t:Int)) (by omega) (by omega);have hop:zk .rem .i64 (KQ x 1023) (t:Int)=some (.int .i64 ((KQ x 1023) % (t:Int))):=by
     simp only[zk];rw[if_neg (by omega),htm]
    have hcc:∀ idx:Int,0<=idx->idx<t->yK p k a idx=(qv p k a idx,0):=fun idx i0 i1=>by
     rw[hcO,if_neg (by simp),if_neg (by omega)]
    have hfin:∀ idx:Int,0<=idx->idx<t->∀ (env:Env) U,env 1=.sl 1 (l.map qo) .none->env 2=.ptr 0 0->env 8=.int .i64 ((k:Int)+1)->env 5=.sl 1 ((qv p k a idx).map qo) .none->U=⟨[.cells (qD p)],[]⟩->R env U:=fun idx i0 i1 env U x1 x2 x8 x5 xs=>
     hR _ _ ⟨x1,x2,by rw[x8];rfl,xs,_,x5,(hch t5 idx i0 i1).1⟩
    have hclen:∀ idx,(qv p k a idx).length=a.length:=fun idx=>QF _ _ _ _
    by_cases hkl:k<l.length
    . have hkl':(k:Int)<l.length:=(by omega);have hlx:l[k]?=some x:=by
       rw[qqr hkl]at hx ⊢;simpa using hx.symm
      have hc1:=hcs ((KQ x 1023) % t);rw[hcc _ hm0 hm1]at hc1;have hcl:=hclen ((KQ x 1023) % t);have hfi:=hfin _ hm0 hm1;generalize KQ x 1023 % (t:Int)=idx at *;generalize qv p k a idx=b at *;simp[-getElem?_pos,e1,e2,e5,e8,hgn',hkn',qD];refine qc.call s3 (by simp) ?_;simp[-getElem?_pos,n1,n2,n3,e1,e2,e5,e8];refine qc.call htl (by simp) ?_;simp[-getElem?_pos,-zk,YF,qcP,hop,unA,e1,e2,e5,e8,hkl,hkl',hlx];refine qc.call hc1 (by simp) ?_;simp[-getElem?_pos,e1,e2,e5,e8,hcl,hwk];exact hfi _ _ (by simp[e1]) (by simp[e2]) (by simp) (by simp) (by simp[qD])
    . have hkl':¬ (k:Int)<l.length:=(by omega);have hc1:=hcs 0;rw[hcc _ (by omega) (by omega)]at hc1;have hcl:=hclen 0;have hfi:=hfin 0 (by omega) (by omega);generalize qv p k a 0=b at *;simp[-getElem?_pos,e1,e2,e5,e8,hgn',hkn',qD];refine qc.call s3 (by simp) ?_;simp[-getElem?_pos,n1,n2,n3,e1,e2,e5,e8];refine qc.call htl (by simp) ?_;simp[-getElem?_pos,unA,e1,e2,e5,e8,hkl,hkl'];refine qc.call hc1 (by simp) ?_;simp[-getElem?_pos,e1,e2,e5,e8,hcl,hwk];exact hfi _ _ (by simp[e1]) (by simp[e2]) (by simp) (by simp) (by simp[qD])
  . rintro ev U ⟨e1,e2,e8,rfl,a,e5,hm⟩;obtain⟨g1,g2⟩:=qpL hv hm.e;have hal:=hm.e.good.len;have s5:=qfu p hr a (by unfold Fits;omega);have his:qif p a=true:=by
     unfold qif;rw[decide_eq_true h0,qhp hv g1 g2];rfl
    rw[his]at s5;simp only[qD]at s5;simp[-getElem?_pos,e1,e2,e5,e8,hgn',qD];refine qc.call s5 (by simp) ?_;simp[-getElem?_pos];refine qc.call J4 (by simp) ?_;simp[-getElem?_pos]
end Go.Proofs.YtkpkjbchlabaaaaGreatDoor
end
section
namespace Go.Proofs.YtkpkjbchlabaaaaGreatDoor
open Go Go.Abs Go.ChangeShapes Go.WideShapes Go.ChangeAt Go.RowKit
theorem qko {H:Type}{enc:TypeId×Value->H}{W W':World}{v:Value}{d:DataW H}{ps:List MemPlace}{sp:Nat->Bool}(h:DataW.Trod enc Tryz.prog W 0 (fun _=>true) true 27 v d ps)(hb:Go.RowKit.Below W.heap.size W W')(hlt:∀ x∈ps,x.block<W.heap.size)(hs:∀ p∈ps,sp p.block=true) :
 DataW.Trod enc Tryz.prog W' 0 sp true 27 v d ps :=
 WideElems.Trod_stays YR (by kernel_rfl) (of_decide_eq_true (by kernel_rfl)) h (fun x hx=>hb.same (hlt x hx)) hs
theorem qkn {H:Type}{enc:TypeId×Value->H}{W W':World}{v:Value}{d:DataW H}{ps:List MemPlace}{sp:Nat->Bool}(h:DataW.Trod enc Tryz.prog W 0 (fun _=>true) true 28 v d ps)(hb:Go.RowKit.Below W.heap.size W W')(hlt:∀ x∈ps,x.block<W.heap.size)(hs:∀ p∈ps,sp p.block=true) :
 DataW.Trod enc Tryz.prog W' 0 sp true 28 v d ps :=
 WideElems.Trod_stays YR (by kernel_rfl) (of_decide_eq_true (by kernel_rfl)) h (fun x hx=>hb.same (hlt x hx)) hs
theorem qpc (os:Os)(started:os.Started)(H:Type)(enc:TypeId×Value->H) :
 ReturnsInHanded {} Tryz.checked os 3 .any (fun w args=>(Rows.randomExactSpec.pre enc Tryz.prog Tryz.f3 [] false w args/\laidMetH Tryz.prog qf0 w)/\sizedMet enc Tryz.prog Tryz.f3 (OpenSpec.ofChange Rows.randomExactSpec) false w args)
  (Rows.randomExactSpec.post enc Tryz.prog Tryz.f3 false true false false):=by
 refine returnsInHanded_of_change_and (C:=Tryz.checked) (X:=fun w _=>laidMetH Tryz.prog qf0 w) (fun _ _ _ hh h=>h.of_heap hh) qoN started (by kernel_rfl) Tryz.func3
  (ChangeSpec.witness_shaped (enc:=enc) (C:=Tryz.checked) (os:=os) (X:=fun w _=>laidMetH Tryz.prog qf0 w) false (World.doorLaid Tryz.prog 400 os) #[.agg #[.slice none 0 0,.slice none 0 0,.slice none 0 0,.slice none 0 0,.slice none 0 0],.slice none 0 0] 8 rfl (World.shaped_of_RefB (by kernel_rfl) (by kernel_rfl)) (by kernel_rfl) (by kernel_rfl) (by kernel_rfl) (ql4 os _)) ?_
 intro W base args ds gs before hval0 hW _ hWt hL _;have hval:∀ (j:Nat) t v,Tryz.f3.params[j]?=some t->args[j]?=some v->Value.okWide Tryz.prog W .any base t v:=hval0;have hwt:(DataW.weightsEach Tryz.prog (Tryz.f3.params.toList++Rows.randomExactSpec.plain.varTypes Tryz.prog) (ds++gs)).all (·<=reachBytes)=true:=hWt;have hW':=hW;obtain⟨p,q,hA0,hV,rfl,hfz,hnd⟩:=hW;have hA:DataW.TrodAll enc Tryz.prog W 0 (fun _=>true) true Tryz.f3.params.toList args.toList ds p:=hA0;rw[Tryz.params3]at hA hval hwt;obtain⟨v0,v1,d0,d1,p0,p1,rfl,rfl,rfl,h0,h1⟩:=trodAll_two hA;obtain⟨rfl,rfl⟩:=trodVars_none hV;have hv0:=hval 0 27 v0 rfl rfl;unfold Value.okWide at hv0;rw[Tryz.underlying27]at hv0;obtain⟨cs0,rfl,_,_⟩:=hv0;have h0':=h0;obtain⟨fuel0,hf0⟩:=h0;have hw0:∀ k∈d0.weights Tryz.prog 27,k<=reachBytes:=fun k hk=>of_decide_eq_true (qqA.1 hwt k (DataW.weights_mem_each (j:=0) (t:=27) rfl rfl k hk))
 obtain⟨x0,hrel0,hg0⟩:=rdP hf0 hw0;have hv1:=hval 1 28 v1 rfl rfl;obtain⟨a1,len1,cap1,rfl⟩:=okWide_slice Tryz.underlying28 hv1;have h1':=h1;obtain⟨fuel1,hf1⟩:=h1;obtain⟨x1,hrel1,hg1⟩:=rdInts hf1;simp only[zF,qh]at hrel1;obtain⟨w1,r1,e1,hrel1,er1⟩:=hrel1;obtain rfl:w1=.slice a1 len1 cap1:=(List.cons.inj e1).1.symm;have hpure:=exact8 x0 x1 hg0 hg1;have hargs:qh (KMw W) [.agg (qD x0),.sl 1 (x1.map qo) .none] (#[Value.agg cs0,Value.slice a1 len1 cap1]:Array Value).toList:=by
  simp only[qh];have g0:qg (KMw W) (.agg (qD x0)) (Value.agg cs0):=by
   unfold qg;exact⟨cs0,rfl,hrel0⟩
  have g1:qg (KMw W) (.sl 1 (x1.map qo) .none) (Value.slice a1 len1 cap1):=by
   exact hrel1
  exact⟨_,_,rfl,g0,_,_,rfl,g1,rfl⟩
 refine (hpure.2 W (qcB W) #[Value.agg cs0,Value.slice a1 len1 cap1] (qiq hL) (fun _ _ _ e=>e) hargs).mono ?_;rintro e W' ⟨v,ro',rfl,hb,_,_,_,hv⟩;have hv1:v=.bool true:=by simpa only[qg] using hv
 subst hv1;have hW2:=hW';simp only[qq6]at hW2;have hlt:=fun x hx=>hW2.lt x hx
 refine⟨_,rfl,[d0,d1],[],p0++p1,[],p0++p1,[],hW2,?_,?_,?_,hb.frame _,fun h=>by cases h⟩
 . exact trodAll_mk1 (shut_bool Tryz.underlying4 true)
 . exact trodAll_mk2 (qko h0' hb (fun x hx=>hlt x (qri _ hx)) (fun x hx=>by simpa using hlt x (qri _ hx))) (qkn h1' hb (fun x hx=>hlt x (qrJ _ hx)) (fun x hx=>by simpa using hlt x (qrJ _ hx)))
 . rfl
end Go.Proofs.YtkpkjbchlabaaaaGreatDoor
end
section
namespace Go.Proofs.YtkpkjbchlabaaaaGreatDoor
open Go
theorem fn3 : Tryz.prog.funcNamed "testbench/testbenchlaw23.RandomExact" = some 3 := by kernel_rfl
theorem inst3:Tryz.f3.isInstance Tryz.prog Rows.randomExactRow.origin Rows.randomExactRow.targs:=of_decide_eq_true (by kernel_rfl)
theorem wrap3:Tryz.f3.isWrapper Tryz.prog Rows.randomExactRow.wrapper Rows.randomExactRow.mainSum:=by unfold Func.isWrapper;first | (rw[if_pos (by decide +kernel)];kernel_rfl) | (rw[if_neg (by decide +kernel)];exact⟨rfl,rfl⟩)
theorem KN:(Rows.randomExactRow.inPlace==Tryz.prog.inPlace 3)=true:=by kernel_rfl
theorem ZT:(Rows.randomExactRow.unfollowed==Tryz.prog.unfollowed 3)=true:=by kernel_rfl
theorem Kc:(Rows.randomExactRow.recurses==Tryz.prog.recurses 3)=true:=by kernel_rfl
theorem qbJ:(Rows.randomExactRow.named==Tryz.prog.varsNamed 3)=true:=by kernel_rfl
theorem qc8:(Rows.randomExactRow.wf (OpenSpec.ofChange Rows.randomExactSpec)&&laidOutB Tryz.prog&&mapsRowed Tryz.prog &&
 Tryz.f3.params.all (Tryz.prog.readableRec ·)&&namedTie Tryz.prog Rows.randomExactRow.named Rows.randomExactSpec.vars &&
 (Rows.randomExactRow.stops == [])&&(Tryz.prog.stops == [])&&(Rows.randomExactRow.knobs == [])&&(Tryz.prog.stopKnobs == []))=true:=by kernel_rfl
theorem qc7:((Rows.randomExactRow.maps==(Tryz.f3.params.toList++Rows.randomExactSpec.plain.varTypes Tryz.prog).any (Tryz.prog.mapsRec ·))&&(Rows.randomExactRow.ifaces==(Tryz.f3.params.toList++Rows.randomExactSpec.plain.varTypes Tryz.prog).any (Tryz.prog.ifacesRec ·))&&(Rows.randomExactRow.mapsOut==Tryz.prog.mapsAmong Tryz.f3.resultTypes.toList) &&
 (Rows.randomExactRow.loops==(Tryz.f3.params.toList++Rows.randomExactSpec.plain.varTypes Tryz.prog).any (Tryz.prog.loopsFrom ·))&&(Rows.randomExactRow.wideKeys==(Tryz.f3.params.toList++Rows.randomExactSpec.plain.varTypes Tryz.prog++Tryz.f3.resultTypes.toList).any (Tryz.prog.wideKeysFrom ·)) &&
 Rows.randomExactSpec.vars.all (Tryz.prog.varReadable ·)&&Tryz.f3.resultTypes.all (fun t=>Tryz.prog.readableRec t&&decide (t<Tryz.prog.types.size))&&(Rows.randomExactRow.ifacesOut==Tryz.f3.resultTypes.toList.any (Tryz.prog.ifacesRec ·))&&(Rows.randomExactRow.loopsOut==Tryz.f3.resultTypes.toList.any (Tryz.prog.loopsFrom ·))&&(Rows.randomExactRow.plainKeys==Tryz.prog.plainKeys)&&Rows.randomExactRow.shortTexts.isNone&&Tryz.prog.stopsHeard&&Tryz.prog.mayEnter&&(Rows.randomExactRow.lifted==Tryz.prog.liftsFinal)&&(Tryz.prog.make==some Rows.randomExactRow.make))=true:=by kernel_rfl
theorem qgb:((Rows.randomExactRow.kinds==(if Rows.randomExactRow.domain.isEmpty then [] else Tryz.f3.params.toList.map fun t=>match Tryz.prog.underlying t with | some (.int k)=>some k | _=>none))&&(Rows.randomExactRow.pinned==Rows.randomExactRow.pinnedBy) &&
 (Rows.randomExactRow.veiled==(Tryz.f3.params.toList++Rows.randomExactSpec.plain.varTypes Tryz.prog++Tryz.f3.resultTypes.toList).any (Tryz.prog.veiledRec ·))&&Rows.randomExactRow.veiledFits Tryz.prog Tryz.f3.params.toList (Tryz.f3.params.toList++Rows.randomExactSpec.plain.varTypes Tryz.prog++Tryz.f3.resultTypes.toList))=true:=by kernel_rfl
theorem facts3:joinedFacts Tryz.prog 3 Tryz.f3 Rows.randomExactSpec Rows.randomExactRow=true:=by
 have h1:=qc8;have h2:=qc7;have h3:=qgb;simp only[Bool.and_eq_true,and_assoc]at h1 h2 h3;unfold joinedFacts;simp only[Bool.and_eq_true,and_assoc];obtain⟨a1,a2,a3,a4,a5,a6,a7,a8,a9⟩:=h1;obtain⟨b1,b2,b3,b4,b5,b6,b7,b8,b9,b10,b11,b12,b13,b14,b15⟩:=h2;obtain⟨c1,c2,c3,c4⟩:=h3;exact⟨a1,a2,a3,a4,a5,a6,a7,a8,a9,KN,ZT,Kc,qbJ,b1,b2,b3,b4,b5,b6,b7,b8,b9,b10,b11,b12,b13,b14,b15,c1,c2,c3,c4⟩
theorem Yv:Rows.RandomExactSaid :=
 OpenClaim.holds_of_wide 3 Tryz.f3 rfl rfl rfl rfl rfl rfl rfl ⟨rfl,rfl,rfl,rfl,rfl⟩ rfl rfl rfl rfl rfl fn3 Tryz.func3 facts3 inst3 wrap3
  (fun os started H enc _=>qpc os started H enc)
theorem qgm:Rows.randomExactRow.wfByText (OpenSpec.ofChange Rows.randomExactSpec)=true:=by kernel_rfl
theorem qgn : Tryz.prog.mainIs = some (true, "987bd91778cffe5dc9b1873c32978561209d0255da7ae84461e49386f51b4fc8".toList) := by kernel_rfl
theorem qdl:true=Tryz.prog.looks []:=by kernel_rfl
theorem qbT:([27,28].all fun u=>!Tryz.prog.wantsStandIn u)=true:=by kernel_rfl
theorem qgo:false=Rows.randomExactRow.goesBy Tryz.prog:=by kernel_rfl
theorem randomExact_card:Rows.RandomExactCardSaid :=
 Claim7.holds_tied_plain_at .later [] [.data, .data, .data, .widerDeep] true (true, "987bd91778cffe5dc9b1873c32978561209d0255da7ae84461e49386f51b4fc8") true
  Yv (fun _ h=>by cases h) qgm (fun _ h=>by cases h) randomExact_row_tie rfl ⟨rfl,rfl⟩ qgn rfl
  (fun f fn hf hfn=>by
    obtain rfl:f=3:=Option.some.inj (fn3.symm.trans hf) |>.symm;obtain rfl:fn=Tryz.f3:=(Option.some.inj (Tryz.func3.symm.trans hfn)).symm;exact⟨qdl,fun j t ht=>by
     rw[Tryz.params3]at ht;have hm:t∈[27,28]:=(by simpa using Array.mem_of_getElem? ht);exact (show Tryz.prog.wantsStandIn t=false by simpa using List.all_eq_true.1 qbT t hm)⟩)
  qgo
#print axioms randomExact_card
end Go.Proofs.YtkpkjbchlabaaaaGreatDoor
end
