/- The tied card of RandomUniform: the law's function returns true for every input, and each argument reads afterwards as it read before. No condition. -/
import Derived.Test.YtkpkjbchlabaaaaGreatDoorUa43
import Derived.Test.YtkpkjbchlabaaaaGreatDoorRows
import Derived.ProofKit
import Derived.Stop.Joined
import Derived.SevenTiedAt
import Derived.Test.YtkpkjbchlabaaaaGreatDoorTie
import Derived.Test.YtkpkjbchlabaaaaGreatDoorCards
set_option linter.unusedVariables false
set_option linter.unusedSimpArgs false
set_option maxRecDepth 100000
set_option maxHeartbeats 16000000
set_option linter.defProp false
section
namespace Go.Proofs.YtkpkjbchlabaaaaGreatDoor
open Go Go.Abs
def wq:Ex:=.mk 17 0 [] [wO [97],wO [98]]
def p2 (b:Bool):Problem:={ vars:=[⟨[97],2,1,0⟩,⟨[98],2,1,0⟩],hard:=[wq],soft:=[],dists:=[],groups:=if b then [[0],[1]] else [[0,1]] }
theorem Wu (b:Bool):qk (p2 b)=0:=by
 have hn:zQ [97]=true:=by kernel_rfl
 have hn2:zQ [98]=true:=by kernel_rfl
 have he:yu [97]=none:=Yn (by decide);have he2:yu [98]=none:=Yn (by decide);have hv:yM [97]=true:=by unfold yM;rw[hn];rfl
 have hv2:yM [98]=true:=by unfold yM;rw[hn2];rfl
 have hE:jt ⟨[97],2,1,0⟩=0:=by
  unfold jt;rw[hv];simp
 have hE2:jt ⟨[98],2,1,0⟩=0:=by
  unfold jt;rw[hv2];simp
 have hg:jL (p2 b).vars (p2 b).groups:=by
  cases b
  . refine⟨by simp[p2],by simp[p2,yc],by simp[p2],fun i hi _=>?_⟩;simp[p2]at hi ⊢;omega
  . refine⟨by simp[p2],by simp[p2,yc],by simp[p2],fun i hi _=>?_⟩;simp[p2]at hi ⊢;omega
 unfold qk;have h1:zV (p2 b).vars=0:=by
  unfold zV;simp[p2,qM,hE,hE2,qmU,vt,vm,ZV,he,he2,jV];intro x hx;have:x=0\/x=1:=by omega
  rcases this with rfl|rfl<;>rfl
 have h2:zh (p2 b).vars wq=0:=by kernel_rfl
 have h3:qM (zh (p2 b).vars) ((p2 b).hard++(p2 b).soft)=0:=by
  show qM (zh (p2 b).vars) [wq]=0;simp[qM,h2]
 rw[h1,h3];unfold zx;rw[if_pos hg];simp[p2,qM,j9]
theorem we (b:Bool):qx (p2 b)=([wq],0):=by
 have:=qeS (Wu b) rfl rfl (by cases b<;>kernel_rfl);exact this
theorem sol_p2:jI (p2 true)=(6,0):=by
 unfold jI;rw[we]
 kernel_rfl
theorem tot_p2:yx (p2 true) 1 [0,0]=(3,0):=by
 unfold yx;rw[qmb,we]
 kernel_rfl
theorem chs_p2:Qm (p2 false) 0 [0,0] 5=([2,3],0):=by
 unfold Qm yx;rw[qmb,qis,we]
 kernel_rfl
theorem qdS {b:Bool}{a:List Int}(h:yp (ky (p2 b).vars a) wq≠0)(ha:qC (p2 b).vars a=true):([wq]:List Ex).all (jA (p2 b) a)=true:=by
 simp only[qqY,List.all_nil,qrN];exact qd7 (Wu b) h ha
theorem qb2 {p:Problem}{R:List Ex}(h:(qx p).1=R)(a:List Int)(gi:Nat)(rest:List Nat)(n d:Nat):Yb p a (gi::rest) n d =
 if (Z7 p R gi a).2≠0 then (0,0,(Z7 p R gi a).2)
 else if (yn n d (yd (yD p gi a) (Z7 p R gi a).1.toNat).1 (yd (yD p gi a) (Z7 p R gi a).1.toNat).2).2.2≠0 then (0,0,3)
 else Yb p a rest (yn n d (yd (yD p gi a) (Z7 p R gi a).1.toNat).1 (yd (yD p gi a) (Z7 p R gi a).1.toNat).2).1 (yn n d (yd (yD p gi a) (Z7 p R gi a).1.toNat).1 (yd (yD p gi a) (Z7 p R gi a).1.toNat).2).2.1:=by
 subst h;rfl
theorem qnR:Jf (p2 true) [0,1]=(1,9,0):=by
 have h1:Z7 (p2 true) [wq] ((0:Nat):Int) [0,1]=(3,0):=by kernel_rfl
 have h2:Z7 (p2 true) [wq] ((1:Nat):Int) [0,1]=(3,0):=by kernel_rfl
 have hr:(qx (p2 true)).1=[wq]:=by rw[we]
 have hev:yp (ky (p2 true).vars [0,1]) wq=1:=by kernel_rfl
 have m1:yn 1 1 (yd (yD (p2 true) 0 [0,1]) 3).1 (yd (yD (p2 true) 0 [0,1]) 3).2=(1,3,0):=by kernel_rfl
 have m2:yn 1 3 (yd (yD (p2 true) 1 [0,1]) 3).1 (yd (yD (p2 true) 1 [0,1]) 3).2=(1,9,0):=by kernel_rfl
 unfold Jf;rw[we,if_neg (by simp),if_neg (by rw[show qC (p2 true).vars [0,1]=true by kernel_rfl];simp),if_neg (by rw[qdS (by rw[hev];decide) (by kernel_rfl)];simp)];show Yb (p2 true) [0,1] [0,1] 1 1=_;rw[qb2 hr,h1,if_neg (by simp),show ((3:Int),(0:Int)).1.toNat=3 from rfl,m1,if_neg (by simp),qb2 hr,h2,if_neg (by simp),show ((3:Int),(0:Int)).1.toNat=3 from rfl,m2,if_neg (by simp)];rfl
theorem qjW:Jf (p2 false) [2,3]=(1,6,0):=by
 have h1:Z7 (p2 false) [wq] ((0:Nat):Int) [2,3]=(6,0):=by kernel_rfl
 have hr:(qx (p2 false)).1=[wq]:=by rw[we]
 have hev:yp (ky (p2 false).vars [2,3]) wq=1:=by kernel_rfl
 have m1:yn 1 1 (yd (yD (p2 false) 0 [2,3]) 6).1 (yd (yD (p2 false) 0 [2,3]) 6).2=(1,6,0):=by kernel_rfl
 unfold Jf;rw[we,if_neg (by simp),if_neg (by rw[show qC (p2 false).vars [2,3]=true by kernel_rfl];simp),if_neg (by rw[qdS (by rw[hev];decide) (by kernel_rfl)];simp)];show Yb (p2 false) [2,3] [0] 1 1=_;rw[qb2 hr,h1,if_neg (by simp),show ((6:Int),(0:Int)).1.toNat=6 from rfl,m1,if_neg (by simp)];rfl
theorem qmr (b:Bool):Pure Tryz.prog GG 21 [.bool b] (.agg (qG (p2 b))):=by
 refine Pure.kO o0 false qe Tryz.func21 rfl (by kernel_rfl) ?_;cases b
 . simp[-getElem?_pos,zn,zS,qF,qj,qs];simp[p2,wq,wO,qq,jW,zu,Leq,qE,zz,qr,AV.atom]
 . simp[-getElem?_pos,zn,zS,qF,qj,qs];simp[p2,wq,wO,qq,jW,zu,Leq,qE,zz,qr,AV.atom]
theorem qaf (b:Bool):RnH (p2 b):=by
 refine⟨⟨by simp[p2],by simp[p2,Fits],by simp[p2],by simp[p2],?_,by simp[p2,Fits],by simp[p2],by cases b<;>simp[p2,Fits],by cases b<;>simp[p2,Fits]⟩,by simp[p2],?_,by simp[p2],by simp[p2],by simp[p2]⟩
 . intro e he;have:e=wq:=by simpa[p2] using he
   subst this;refine⟨?_,?_,?_⟩
   . intro x hx;have:x=wq\/x=wO [97]\/x=wO [98]:=by simpa[wq,pre,kg,wO] using hx
     rcases this with rfl|rfl|rfl<;>simp[wq,wO,Fits,Ex.args,Ex.name]
   . decide
   . decide
 . unfold qz;rw[if_neg (by simp[Wu])];cases b<;>decide
theorem v8:Pure Tryz.prog GG 8 [] (.bool true):=by
 refine Pure.k qe Tryz.func8 rfl (by kernel_rfl) ?_;have hl:∀ b,qk (p2 b)=0->(NG (p2 b)).flatten.length<=12:=fun b _=>by cases b<;>decide
 have h1:=Y6 (p2 true) (qaf true);have h2:=qi0 (p2 true) (qaf true) 1 [0,0];have h3:=qi2 (p2 true) (qaf true) [0,1] (by simp[Fits]);have h4:=qi2 (p2 false) (qaf false) [2,3] (by simp[Fits]);have h5:=ql8 (p2 false) (qaf false) (hl false) 0 [0,0] 5;rw[sol_p2]at h1;rw[tot_p2]at h2;rw[qnR]at h3;rw[qjW]at h4;rw[chs_p2]at h5;have q1:=qmr true;have q2:=qmr false;simp only[qG,qpK,qqa,qr]at h1 h2 h3 h4 h5 q1 q2;simp[-getElem?_pos];refine qc.call q1 (by simp) ?_;simp[-getElem?_pos];refine qc.call h1 (by simp) ?_;simp[-getElem?_pos];refine qc.call q1 (by simp) ?_;simp[-getElem?_pos,qj,qs];refine qc.less h2 (by simp) (by simp[zu,Leq,jW]) ?_;simp[-getElem?_pos];refine qc.call q1 (by simp) ?_;simp[-getElem?_pos,qj,qs];refine qc.less h3 (by simp) (by simp[zu,Leq,jW]) ?_;simp[-getElem?_pos];refine qc.call q2 (by simp) ?_;simp[-getElem?_pos,qj,qs];refine qc.less h4 (by simp) (by simp[zu,Leq,jW]) ?_;simp[-getElem?_pos];refine qc.call q2 (by simp) ?_;simp[-getElem?_pos,qj,qs];refine qc.less h5 (by simp) (by simp[zu,Leq,jW]) ?_;simp[-getElem?_pos,qhY]
noncomputable def qlc (p:Problem)(b:Int):Bool:=jy p&&decide (yX p.vars (qz p)<=b)
noncomputable def KC (p:Problem)(b:Int):Bool:=qlc p b&&decide (qk p=0)
theorem few42 (p:Problem)(h:VM p)(b:Int):Pure Tryz.prog GG 19 [.agg (qG p),.int .i64 b] (.bool (qlc p b)):=by
 refine Pure.k qe Tryz.func19 rfl (by kernel_rfl) ?_;have hs:=qnD p h.h.exprs;obtain⟨res,hres⟩:∃ res,res=qlc p b:=⟨_,rfl⟩;rw[<- hres];unfold qlc at hres;simp only[qG]at hs;simp[-getElem?_pos];refine qc.call hs (by simp) ?_
 cases hsm:jy p with
 | false=>
  rw[hsm,qq5]at hres;subst hres;simp[-getElem?_pos]
 | true=>
  have hb:=bits25 p (h.h.small hsm);rw[hsm,qqx]at hres;simp only[qG]at hb;simp[-getElem?_pos];refine qc.call hb (by simp) ?_;simp[-getElem?_pos];exact hres.symm
theorem qnB (p:Problem)(h:VM p)(b:Int):Pure Tryz.prog GG 7 [.agg (qG p),.int .i64 b] (.bool (KC p b)):=by
 refine Pure.k qe Tryz.func7 rfl (by kernel_rfl) ?_;have hs:=few42 p h b;obtain⟨res,hres⟩:∃ res,res=KC p b:=⟨_,rfl⟩;rw[<- hres];unfold KC at hres;simp only[qG]at hs;simp[-getElem?_pos];refine qc.call hs (by simp) ?_
 cases hsm:qlc p b with
 | false=>
  rw[hsm,qq5]at hres;subst hres;simp[-getElem?_pos]
 | true=>
  have hsm':jy p=true:=by
   unfold qlc at hsm;simp only[qpC]at hsm;exact hsm.1
  have hb:=qns p (h.h.small hsm');rw[hsm,qqx]at hres;simp only[qG]at hb;simp[-getElem?_pos];refine qc.call hb (by simp) ?_;simp[-getElem?_pos];rw[hres];rfl
theorem qoS {p:Problem}(h:VM p){b:Int}(hb:b<=18)(hf:qlc p b=true):RnH p/\VP p:=by
 unfold qlc at hf;simp only[qpC,decide_eq_true_eq]at hf;have hvp:=h.h.small hf.1;have hs:=hf.1;simp only[jy,qpC,qqH,qss,decide_eq_false_iff_not,qpJ,decide_eq_true_eq]at hs;obtain⟨⟨⟨⟨⟨⟨⟨⟨a1,a2⟩,a3⟩,a4⟩,a5⟩,b1⟩,b2⟩,b3⟩,b4⟩:=hs;exact⟨⟨hvp.q,by omega,by omega,by omega,by omega,fun d hd=>by have:=b3 d hd;omega⟩,hvp⟩
theorem qgs {p:Problem}(h:VM p){b:Int}(hb:b<=18)(hf:KC p b=true):RnH p/\VP p/\qk p=0/\yX p.vars (qz p)<=b:=by
 unfold KC at hf;simp only[qpC,decide_eq_true_eq]at hf;have h1:=qoS h hb hf.1;have h2:=hf.1;unfold qlc at h2;simp only[qpC,decide_eq_true_eq]at h2;exact⟨h1.1,h1.2,hf.2,h2.2⟩
noncomputable def qcg (p:Problem)(a:List Int):Bool:=decide ((qx p).2=0)&&(qx p).1.all (jA p a)
theorem qae {p:Problem}(h:(qx p).2≠0):(qx p).1=[]:=by
 unfold qx at h⊢;split
 . rename_i hv;rw[if_pos hv]at h;split
   . rename_i hs;rw[if_pos hs]at h;exact absurd rfl h
   . rfl
 . rfl
theorem qeR {p:Problem}(h:RnH p):∀ e∈(qx p).1,Wen e/\hgt e<=1000/\(pre e).length<=100000:=by
 intro e he;by_cases h0:(qx p).2=0
 . exact ((Qe h.q h.dl h.sl h0).2.1 e he).2
 . rw[qae h0]at he;cases he
theorem qgE {p:Problem}(h:RnH p):(qx p).1.length<=50000:=by
 by_cases h0:(qx p).2=0
 . exact (Qe h.q h.dl h.sl h0).2.2.1
 . rw[qae h0];simp
theorem qeM (p:Problem)(h:RnH p)(a:List Int)(ha:Fits a):Pure Tryz.prog GG 14 [.agg (qG p),.sl 1 (a.map qr) .none] (.bool (qcg p a)):=by
 refine Pure.k qe Tryz.func14 rfl (by kernel_rfl) ?_;have hr:=qcQ p h.q h.v20 h.bits h.dl h.sl;have hx:=qeR h;obtain⟨res,hres⟩:∃ res,res=qcg p a:=⟨_,rfl⟩;rw[<- hres];unfold qcg at hres;have hho:=fun e (he:e∈(qx p).1)=>qdT p a e h.q ha (hx e he).1 (hx e he).2.1 (hx e he).2.2
 have hRl:(qx p).1.length<=50000:=qgE h;generalize qx p=RR at *;obtain⟨R,e⟩:=RR;dsimp only at hr hres hho hRl;simp only[qG]at hr hho;simp[-getElem?_pos];refine qc.call hr (by simp) ?_;by_cases he:e=0
 case neg=>
  rw[decide_eq_false he,qq5]at hres;subst hres;simp[-getElem?_pos,he]
 subst he;rw[decide_eq_true rfl,qqx]at hres;simp[-getElem?_pos];refine qY.listR R (fun d ev U=>ev 1=.sl 1 (a.map qr) .none/\ev 2=.ptr 0 0/\ev 5=.sl 4 (R.map qq) .none/\ev 7=.int .i64 d.length/\U=⟨[.cells (qG p)],[]⟩/\res=(R.drop d.length).all (jA p a)) ?_ ?_ ?_
 . exact⟨by simp,by simp,by simp,by simp,by simp[qG],by simpa using hres⟩
 . rintro d x rest ev U Rr hR hd hxx hlt ⟨e1,e2,e5,e7,rfl,hr2⟩;have hdw:=wr (n:=(d.length:Int)+1) (by omega) (by omega);have hlt':(d.length:Int)<R.length:=(by omega);have hh:=hho x (qpz hxx);have hdr:R.drop d.length=x::R.drop (d.length+1):=by
    obtain⟨h1,h2⟩:=qpy.1 hxx;rw[qpP h1,h2]
   rw[hdr,qqY]at hr2;simp[-getElem?_pos,-qN,e1,e2,e5,e7,hlt,hlt',hxx,za,yl,Kx,qG];refine qc.call hh (by simp) ?_
   cases hq:jA p a x with
   | false=>
    rw[hq,qq5]at hr2;subst hr2;simp[-getElem?_pos,unA]
   | true=>
    rw[hq,qqx]at hr2;simp[-getElem?_pos,unA,e7,hdw];exact hR _ _ ⟨by simp[e1],by simp[e2],by simp[e5],by simp,by simp[qG],by rw[qpD];exact hr2⟩
 . rintro ev U ⟨e1,e2,e5,e7,rfl,hr2⟩;have:res=true:=by rw[hr2,qrj];rfl
   subst this;simp[-getElem?_pos,e1,e2,e5,e7]
def qfI (x y:Int):Int:=IntKind.i64.wrap ((BitVec.ofInt IntKind.i64.bits x &&& BitVec.ofInt IntKind.i64.bits y).toNat:Int)
theorem qgZ (x y:Int):zj .and .i64 x y=some (.int .i64 (qfI x y)):=rfl
theorem qpj (n:Int):0<=qfI n 15:=by
 have e:((BitVec.ofInt 64 n &&& 15#64).toNat:Int)=n % 16:=by
  rw[BitVec.toNat_and,BitVec.toNat_ofInt];have e:(15#64).toNat=2 ^ 4-1:=by decide
  rw[e,qq9];omega
 have h:qfI n 15=IntKind.i64.wrap ((BitVec.ofInt 64 n &&& 15#64).toNat:Int):=rfl;rw[h,e,wr (by omega) (by omega)];omega
def qjf (v:Var)(n:Int):Int:=if v.mode=0 then v.value else qfI n (IntKind.i64.wrap (IntKind.i64.wrap (1*2 ^ (min (qfI v.width 15).toNat IntKind.i64.bits))-1))
def Q8:List Var->List Int->List Int
 | [],_=>[]
 | v::r,[]=>qjf v 0::Q8 r []
 | v::r,x::xs=>qjf v x::Q8 r xs
theorem QS:∀ (l:List Var) (xs:List Int),(Q8 l xs).length=l.length
 | [],_=>by simp[Q8]
 | v::r,[]=>by simp[Q8,QS r []]
 | v::r,x::xs=>by simp[Q8,QS r xs]
theorem W6:∀ {l:List Var} {xs:List Int} {i:Nat} {v:Var},l[i]?=some v->(Q8 l xs)[i]?=some (qjf v ((xs[i]?).getD 0))
 | v::r,[],0,w,h=>by simp at h;simp[Q8,h]
 | v::r,x::xs,0,w,h=>by simp at h;simp[Q8,h]
 | v::r,[],i+1,w,h=>by
  have:=W6 (l:=r) (xs:=[]) (i:=i) (v:=w) (by simpa using h);simpa[Q8] using this
 | v::r,x::xs,i+1,w,h=>by
  have:=W6 (l:=r) (xs:=xs) (i:=i) (v:=w) (by simpa using h);simpa[Q8] using this
theorem qhT (p:List Var)(xs:List Int){i:Nat}{v:Var}(h:p[i]?=some v):(Q8 p xs).take (i+1)=(Q8 p xs).take i++[qjf v ((xs[i]?).getD 0)]:=by
 rw[qp4,W6 h];rfl
theorem fit36 (p:Problem)(xs:List Int)(hl:p.vars.length<=1000)(ha:Fits xs):Pure Tryz.prog GG 9 [.agg (qG p),.sl 1 (xs.map qr) .none] (.sl 1 ((Q8 p.vars xs).map qr) .none):=by
 refine Pure.k qe Tryz.func9 rfl (by kernel_rfl) ?_;have hlen:=QS p.vars xs;simp[-getElem?_pos];refine qY.list p.vars (fun d ev U=>ev 1=.sl 1 (xs.map qr) .none/\ev 2=.ptr 0 0/\ev 5=qb6 1 qr 0 ((Q8 p.vars xs).take d.length)/\ev 6=.int .i64 d.length/\∃ u,U=⟨.cells (qG p)::u,Zg [] ((Q8 p.vars xs).take d.length)⟩) ?_ ?_ ?_
 . simp[qG]
 . rintro d v rest ev U hd hx hlt ⟨e1,e2,e5,e6,u,rfl⟩;have hlt':(d.length:Int)<p.vars.length:=(by omega);have hw:=wr (n:=(d.length:Int)+1) (by omega) (by omega);have hsn:=qhT p.vars xs hx;have htl:((Q8 p.vars xs).take d.length).length<2 ^ 30:=(by simp;omega);have h15:=qpj v.width;have h15':¬ qfI v.width 15<0:=(by omega);have happ:∀ (H:List Blk) (s:List Int),s.length<2 ^ 30->∀ n,qK (Dof Tryz.prog) ⟨H,Zg [] s⟩ 28 (qb6 1 qr 0 s) (.sl 1 [[.int .i64 n]] .tight)=some (qb6 1 qr 0 (s++[n]),⟨H,Zg [] (s++[n])⟩):=fun H s hs n=>
    Y1 (D:=Dof Tryz.prog) (sz:=1) (T:=[]) (H:=H) (m:=[n]) (en:=qr) D28 rfl D3 rfl (by decide) rfl (by decide) (by simp only[qp2];omega) 1 (.inl rfl)
   generalize (Q8 p.vars xs).take d.length=S at *;rw[qpD,qp2,hsn];generalize hX:(xs[d.length]?).getD 0=X at *;have hm1:¬ v.mode=0->qfI X (IntKind.i64.wrap (IntKind.i64.wrap (2 ^ (min (qfI v.width 15).toNat IntKind.i64.bits))-1))=qjf v X:=fun h=>by unfold qjf;rw[if_neg h,Int.one_mul]
   have hm0:v.mode=0->v.value=qjf v X:=fun h=>by unfold qjf;rw[if_pos h]
   by_cases hxl:d.length<xs.length
   . have hgx:xs[d.length]?=some X:=by
      rw[qpA hxl]at hX ⊢;simpa using hX
     have hxl':(d.length:Int)<xs.length:=(by omega);by_cases hm:v.mode=0
     . simp[-getElem?_pos,e1,e2,e5,e6,hlt,hlt',hx,hxl,hxl',hgx,hm,qj,qs,happ _ _ htl,hw,qG];rw[hm0 hm];exact⟨rfl,rfl⟩
     . simp[-getElem?_pos,-zj,qgZ,vX,QF,KT,Yh,e1,e2,e5,e6,hlt,hlt',hx,hxl,hxl',hgx,hm,qj,qs,happ _ _ htl,hw,qG,h15'];rw[hm1 hm];exact⟨rfl,rfl⟩
   . have hxl':¬ (d.length:Int)<xs.length:=(by omega);have hX0:X=0:=by
      rw[qpW (by omega)]at hX;exact hX.symm
     subst hX0;by_cases hm:v.mode=0
     . simp[-getElem?_pos,e1,e2,e5,e6,hlt,hlt',hx,hxl,hxl',hm,qj,qs,happ _ _ htl,hw,qG];rw[hm0 hm];exact⟨rfl,rfl⟩
     . simp[-getElem?_pos,-zj,qgZ,vX,QF,KT,Yh,e1,e2,e5,e6,hlt,hlt',hx,hxl,hxl',hm,qj,qs,happ _ _ htl,hw,qG,h15'];rw[hm1 hm];exact⟨rfl,rfl⟩
 . rintro ev U ⟨e1,e2,e5,e6,u,rfl⟩;rw[qpH (by omega)]at e5;simp[-getElem?_pos,-fin,-ku,-Q9,e1,e2,e5,e6]
theorem qiV (n:Int){k:Nat}(hk:k<=8):0<=qfI n (2 ^ k-1)/\qfI n (2 ^ k-1)<2 ^ k:=by
 have h:qfI n (2 ^ k-1)=IntKind.i64.wrap ((BitVec.ofInt 64 n &&& BitVec.ofInt 64 (2 ^ k-1)).toNat:Int):=rfl;have e1:(BitVec.ofInt 64 ((2:Int) ^ k-1)).toNat=2 ^ k-1:=by
  have:k=0\/k=1\/k=2\/k=3\/k=4\/k=5\/k=6\/k=7\/k=8:=by omega
  rcases this with rfl|rfl|rfl|rfl|rfl|rfl|rfl|rfl|rfl<;>decide
 have e2:(2:Nat) ^ k<=256:=by
  have:=qp3 (n:=2) (by omega) hk;simpa using this
 have e3:0<(2:Nat) ^ k:=Nat.pow_pos (by omega);have e4:(BitVec.ofInt 64 n &&& BitVec.ofInt 64 ((2:Int) ^ k-1)).toNat<2 ^ k:=by
  rw[BitVec.toNat_and,e1,qq9];exact qsh _ e3
 rw[h];generalize (BitVec.ofInt 64 n &&& BitVec.ofInt 64 ((2:Int) ^ k-1)).toNat=m at *;have e5:((2 ^ k:Nat):Int)=(2:Int) ^ k:=by simp
 rw[<- e5];rw[wr (by omega) (by omega)];omega
theorem qfH {w:Int}(h:1<=w/\w<=8):qfI w 15=w:=by
 have:w=1\/w=2\/w=3\/w=4\/w=5\/w=6\/w=7\/w=8:=by omega
 rcases this with rfl|rfl|rfl|rfl|rfl|rfl|rfl|rfl<;>decide
theorem qol {w:Int}(h:1<=w/\w<=8):IntKind.i64.wrap (IntKind.i64.wrap (1*2 ^ (min (qfI w 15).toNat IntKind.i64.bits))-1)=2 ^ w.toNat-1:=by
 rw[qfH h];have:w=1\/w=2\/w=3\/w=4\/w=5\/w=6\/w=7\/w=8:=by omega
 rcases this with rfl|rfl|rfl|rfl|rfl|rfl|rfl|rfl<;>decide
theorem qf6 {v:Var}(h:jt v=0):0<=v.value/\v.value<2 ^ v.width.toNat:=by
 unfold jt at h;split at h
 . cases h
 split at h
 . cases h
 . rename_i hn;refine⟨?_,?_⟩
   . apply Classical.byContradiction;intro e;exact hn (.inr (.inr (.inr (.inr (.inl (by omega))))))
   . apply Classical.byContradiction;intro e;exact hn (.inr (.inr (.inr (.inr (.inr (.inl (by omega)))))))
theorem qhU {v:Var}(h:jt v=0)(n:Int):zM (v,qjf v n)=true:=by
 unfold zM qjf;simp only;by_cases hm:v.mode=0
 . obtain⟨a,b⟩:=qf6 h;rw[if_pos hm];simp[a,b]
 . have hw:=(zc h).2;rw[if_neg hm,qol hw];obtain⟨a,b⟩:=qiV n (k:=v.width.toNat) (by omega);simp[a,b,hm]
theorem Qi:∀ {l:List Var} (xs:List Int),(∀ v∈l,jt v=0)->(l.zip (Q8 l xs)).all zM=true
 | [],_,_=>rfl
 | v::r,[],h=>by
  simp only[Q8,qrR,qqY,qpC];exact⟨qhU (h v (by simp)) 0,Qi [] fun x hx=>h x (by simp[hx])⟩
 | v::r,x::xs,h=>by
  simp only[Q8,qrR,qqY,qpC];exact⟨qhU (h v (by simp)) x,Qi xs fun y hy=>h y (by simp[hy])⟩
theorem qa2 {l:List Var}(xs:List Int)(h:∀ v∈l,jt v=0):qC l (Q8 l xs)=true:=by
 unfold qC;rw[Qi xs h,QS];simp
theorem qc5 (k:Nat):∀ (N v:Nat),v<N->Z8 (fun x=>if v=x then k else 0) (List.range N)=k
 | 0,v,h=>by omega
 | N+1,v,h=>by
  rw[qqT,JV];by_cases hv:v=N
  . subst hv;have:Z8 (fun x=>if v=x then k else 0) (List.range v)=0:=wX fun a ha=>by
     have:=qqF.1 ha;rw[if_neg (by omega)]
    rw[this];simp[Z8]
  . rw[qc5 k N v (by omega)];simp[Z8,hv]
theorem V3 {α:Type}(f g:α->Nat):∀ l:List α,Z8 (fun a=>f a+g a) l=Z8 f l+Z8 g l
 | []=>rfl
 | a::l=>by simp only[Z8,V3 f g l];omega
theorem qba {α:Type}(P:α->Bool)(f:α->Nat)(N:Nat):∀ L:List α,(∀ a∈L,P a=true->f a<N)->L.countP P=Z8 (fun v=>L.countP fun a=>P a&&decide (f a=v)) (List.range N)
 | [],_=>by
  simp only[List.countP_nil];exact (wX fun _ _=>rfl).symm
 | a::L,h=>by
  have ih:=qba P f N L fun x hx=>h x (by simp[hx])
  rw[qsP,ih];have:∀ v,(a::L).countP (fun x=>P x&&decide (f x=v))=(L.countP fun x=>P x&&decide (f x=v))+(if f a=v then (if P a=true then 1 else 0) else 0):=fun v=>by
   rw[qsP];congr 1;by_cases h1:f a=v<;>by_cases h2:P a=true<;>simp[h1,h2]
  simp only[this];rw[V3];congr 1;by_cases hP:P a=true
  . rw[qc5 _ N (f a) (h a (by simp) hP)]
  . rw[if_neg hP]
    symm
    exact wX fun v _=>by split<;>rfl
theorem QZ {α:Type}{P:α->Bool}:∀ {L:List α},L.Nodup->(∀ a∈L,∀ b∈L,P a=true->P b=true->a=b)->L.countP P=if L.any P=true then 1 else 0
 | [],_,_=>rfl
 | a::L,hn,h=>by
  have hn':=qrP.1 hn;have ih:=QZ hn'.2 fun x hx y hy=>h x (by simp[hx]) y (by simp[hy])
  rw[qsP,ih,qrC];by_cases hP:P a=true
  . have:L.any P=false:=by
     rw[qqD];intro ha;obtain⟨b,hb,hPb⟩:=qp0.1 ha;exact hn'.1 (h a (by simp) b (by simp[hb]) hP hPb▸hb)
    simp[hP,this]
  . simp[hP]
noncomputable def cntW (p:Problem)(R:List Ex)(c:List (Nat×Nat)):Nat:=(yg p.vars).countP fun a=>vV p.vars R a&&c.all fun q=>decide (a[q.1]?=some (q.2:Int))
theorem qlv (p:Problem)(R:List Ex):cntW p R []=JW p R:=by
 unfold cntW JW;congr 1;funext a;simp
theorem qlW {p:Problem}(hv:qk p=0){a b:List Int}(ha:a∈yg p.vars)(hb:b∈yg p.vars)(h:∀ i∈(NG p).flatten,a[i]?=b[i]?):a=b:=by
 have ha':=k0.1 ha;have hb':=k0.1 hb;apply qqm;intro i;by_cases hi:i<p.vars.length
 . obtain⟨v,hvi⟩:∃ v,p.vars[i]?=some v:=⟨_,qpA hi⟩;by_cases hm:v.mode=0
   . obtain⟨x,h1,h2⟩:=kh ha' hvi;obtain⟨y,h3,h4⟩:=kh hb' hvi;rw[if_pos hm]at h2 h4;rw[h1,h3,h2,h4]
   . exact h i (WF hv hvi hm)
 . rw[qpW (by rw[ha'.len];omega),qpW (by rw[hb'.len];omega)]
theorem qiW {p:Problem}(hv:qk p=0){a:List Int}(ha:a∈yg p.vars){i:Nat}(hi:i∈(NG p).flatten):∃ x:Nat,a[i]?=some (x:Int)/\x<2 ^ jx p i/\aN a i=x:=by
 obtain⟨v,hvi,hm⟩:=ko hv hi;obtain⟨x,h1,h2⟩:=kh (k0.1 ha) hvi;rw[if_neg hm]at h2;obtain⟨n,rfl⟩:=qp7 h2.1;refine⟨n,h1,?_,by unfold aN;rw[qpM,h1];simp⟩;rw[(wid8 hv hvi).1];unfold jm at h2;omega
theorem VW {p:Problem}(hv:qk p=0)(hd:p.dists=[])(R:List Ex):∀ (g:List Nat) (c:List (Nat×Nat)),(NG p).flatten=c.map (·.1)++g->Z6 p R (fun _=>none) g c=cntW p R c
 | [],c,h=>by
  unfold Z6 cntW;rw[QZ (ZI _)]
  . rfl
  . intro a ha b hb h1 h2;simp only[qpC,qpJ,decide_eq_true_eq]at h1 h2;refine qlW hv ha hb fun i hi=>?_
    rw[h,qqc]at hi;obtain⟨q,hq,rfl⟩:=qp1.1 hi;rw[h1.2 q hq,h2.2 q hq]
 | i::g,c,h=>by
  have hi:i∈(NG p).flatten:=by rw[h];simp
  have hw:∀ v,wtP p i v=1:=fun v=>by
   obtain⟨w,hwi,hm⟩:=ko hv hi;have hl:=(qpy.1 hwi).1;unfold wtP;rw[hd];have:(ji p.vars.length []:List (Option (List Weight))).getD i none=none:=by
    show (List.replicate p.vars.length none).getD i none=none;rw[qpM,qrw];split<;>rfl
   rw[this];rfl
  have ih:=fun v=>VW hv hd R g (c++[(i,v)]) (by rw[h];simp)
  unfold Z6;show Z8 _ (List.range (2 ^ jx p i))=_;simp only[hw,ih,qsV];unfold cntW;rw[qba _ (fun a=>aN a i) (2 ^ jx p i) _ fun a ha _=>by obtain⟨x,h1,h2,h3⟩:=qiW hv ha hi;rw[h3];exact h2];refine KA fun v _=>List.countP_congr fun a ha=>?_
  obtain⟨x,h1,h2,h3⟩:=qiW hv ha hi;rw[h3,qq0];simp only[qpC,qpJ,decide_eq_true_eq,qp8,forall_eq,h1,Option.some.injEq,and_assoc];have e:((x:Int)=(v:Int))↔x=v:=by omega
  rw[e]
theorem qbj {vs:List Var}{a:List Int}(h:qC vs a=true):a∈yg vs:=by
 unfold qC at h;simp only[qpC,decide_eq_true_eq,qpJ]at h;refine k0.2 (qg0 h.1 fun i v hvi=>?_);have hi:=(qpy.1 hvi).1;obtain⟨x,hx⟩:∃ x,a[i]?=some x:=⟨_,qpA (by omega)⟩;have h1:=h.2 (v,x) (qpz (qqW.2 ⟨hvi,hx⟩));unfold zM at h1;simp only[qpC,decide_eq_true_eq,qrq,qqH,decide_eq_false_iff_not]at h1;refine⟨x,hx,?_⟩;by_cases hm:v.mode=0
 . rw[if_pos hm];exact h1.2.resolve_left fun h=>h hm
 . rw[if_neg hm];have:((2 ^ v.width.toNat:Nat):Int)=(2:Int) ^ v.width.toNat:=by simp
   unfold jm;exact⟨h1.1.1,by omega⟩
theorem wt_one {p:Problem}(hd:p.dists=[])(i v:Nat):wtP p i v=1:=by
 unfold wtP;rw[hd];have:(ji p.vars.length []:List (Option (List Weight))).getD i none=none:=by
  show (List.replicate p.vars.length none).getD i none=none;rw[qpM,qrw];split<;>rfl
 rw[this];rfl
theorem qgN {p:Problem}(hd:p.dists=[])(gi:Nat)(a:List Int):yD p gi a=1:=by
 unfold yD;have:∀ l:List Nat,l.foldl (fun n i=>sat (n*wtP p i (aN a i))) 1=1:=by
  intro l
  induction l with
  | nil=>rfl
  | cons i l ih=>rw[qqe,wt_one hd];exact ih
 exact this _
theorem qgg {p:Problem}(hv:qk p=0)(hd:p.dists=[]){g:List Nat}(hg:NG p=[g]){a:List Int}(ha:qC p.vars a=true)(h1:1<=JW p (qx p).1)(h2:JW p (qx p).1<lim):Kc p 0 a=(((JW p (qx p).1:Nat):Int),0):=by
 have hs:qgn p (fun _=>none) a 0=JW p (qx p).1:=by
  unfold qgn;rw[hg,V4];show sat (Z6 p _ _ g [])=_;rw[VW hv hd _ g [] (by rw[hg];simp),qlv];unfold sat;omega
 unfold Kc;rw[if_neg (by rw[hg,ha];simp),show (0:Int).toNat=0 from rfl,hs,if_neg (by omega),if_neg (by omega)]
theorem qjA {p:Problem}(hv:qk p=0)(hd:p.dists=[]){g:List Nat}(hg:NG p=[g]){a:List Int}(ha:qC p.vars a=true)(hr:(qx p).2=0)(hs:(qx p).1.all (jA p a)=true)(h1:1<=JW p (qx p).1)(h2:JW p (qx p).1<lim):Jf p a=(1,JW p (qx p).1,0):=by
 have ht:=qgg hv hd hg ha h1 h2;unfold Jf;rw[if_neg (fun e=>e hr),if_neg (by rw[ha];simp),if_neg (by rw[hs];simp),hg];show Yb p a [0] 1 1=_;unfold Yb;rw[show ((0:Nat):Int)=0 from rfl,ht,qgN hd];generalize JW p (qx p).1=N at *;have hmk:yd 1 N=(1,N):=by unfold yd;simp
 have hml:yn 1 1 1 N=(1,N,0):=by
  unfold yn qjV qgO qdj;unfold lim at h2;simp;omega
 simp only[qqi,hmk,hml];simp[Yb]
theorem qjL {p:Problem}(hv:qk p=0){a:List Int}(ha:qC p.vars a=true)(hs:(qx p).1.all (jA p a)=true):1<=JW p (qx p).1:=by
 unfold JW;refine List.countP_pos_iff.2 ⟨a,qbj ha,?_⟩;unfold vV;rw[qpJ]at hs ⊢;intro e he;have:=hs e he;unfold jA at this;simp at this;simpa using this.2
theorem qgf (p:Problem)(l:List Int)(h:VM p)(hl:Fits l):Pure Tryz.prog GG 4 [.agg (qG p),.sl 1 (l.map qr) .none] (.bool true):=by
 refine Pure.k qe Tryz.func4 rfl (by kernel_rfl) ?_;have hs:=qnB p h 10;simp only[qG]at hs;simp[-getElem?_pos];refine qc.call hs (by simp) ?_;have fin0:Pure Tryz.prog GG 8 [] (.bool true):=v8
 cases hso:KC p 10 with
 | false=>
  simp[-getElem?_pos,unA];refine qc.call v8 (by simp) ?_;simp[-getElem?_pos]
 | true=>
  obtain⟨hr,hvp,hv,hb⟩:=qgs h (by decide) hso;by_cases hd:p.dists=[]
  case neg=>
   have hd':(0:Int)<p.dists.length:=(by have:=qpO.2 hd;omega);have hd2:0<p.dists.length:=qpO.2 hd;simp[-getElem?_pos,unA,hd,hd',hd2];refine qc.call v8 (by simp) ?_;simp[-getElem?_pos]
  by_cases hg:p.groups.length=1
  case neg=>
   have hg':¬ (p.groups.length:Int)=1:=(by omega);simp[-getElem?_pos,unA,hd,hg,hg'];refine qc.call v8 (by simp) ?_;simp[-getElem?_pos]
  have hg':(p.groups.length:Int)=1:=by omega
  obtain⟨g,hng⟩:∃ g,NG p=[g]:=by
   have:(NG p).length=1:=by simp[NG,hg]
   exact qsY.1 this
  have s1:=Y6 p hr;have s2:=fit36 p l hr.q.vars hl;have hfa:qC p.vars (Q8 p.vars l)=true:=qa2 l (JQ hv);have hff:Fits (Q8 p.vars l):=by unfold Fits;rw[QS];have:=hr.q.vars;omega
  have s3:=qeM p hr (Q8 p.vars l) hff;have s4:=qi2 p hr (Q8 p.vars l) hff;have s5:=qi0 p hr 0 (Q8 p.vars l);generalize Q8 p.vars l=a at *;have hso:jI p=if (qx p).2≠0 then (0,(qx p).2) else (JW p (qx p).1,0):=rfl
  simp only[qG,hd,qqa]at s1 s2 s3 s4 s5;by_cases he:(qx p).2=0
  case neg=>
   rw[if_pos he]at hso;rw[hso]at s1;have hns:qcg p a=false:=(by unfold qcg;rw[decide_eq_false he,qq5]);simp[-getElem?_pos,unA,hd,hg,hg'];refine qc.call s1 (by simp) ?_;simp[-getElem?_pos];refine qc.call s2 (by simp) ?_;simp[-getElem?_pos,he];refine qc.call v8 (by simp) ?_;simp[-getElem?_pos]
  rw[if_neg (fun e=>e he)]at hso;rw[hso]at s1
  cases hsl:qcg p a with
  | false=>
   rw[hsl]at s3;simp[-getElem?_pos,unA,hd,hg,hg'];refine qc.call s1 (by simp) ?_;simp[-getElem?_pos];refine qc.call s2 (by simp) ?_;simp[-getElem?_pos];refine qc.call s3 (by simp) ?_;simp[-getElem?_pos,unA];refine qc.call v8 (by simp) ?_;simp[-getElem?_pos]
  | true=>
   rw[hsl]at s3;have hall:(qx p).1.all (jA p a)=true:=by
    unfold qcg at hsl;rw[qpC]at hsl;exact hsl.2
   have h1:=qjL hv hfa hall;have h2:JW p (qx p).1<lim:=by
    have:=qnC p (qx p).1;have:=hr.all hv;unfold lim;omega
   rw[qjA hv hd hng hfa he hall h1 h2]at s4;have hto:yx p 0 a=(((JW p (qx p).1:Nat):Int),0):=by
    unfold yx;rw[if_neg (fun e=>e he)];exact qgg hv hd hng hfa h1 h2
   rw[hto]at s5;generalize JW p (qx p).1=N at *;simp[-getElem?_pos,unA,hd,hg,hg'];refine qc.call s1 (by simp) ?_;simp[-getElem?_pos];refine qc.call s2 (by simp) ?_;simp[-getElem?_pos];refine qc.call s3 (by simp) ?_;simp[-getElem?_pos,unA];refine qc.call s4 (by simp) ?_;simp[-getElem?_pos];refine qc.call s5 (by simp) ?_;simp[-getElem?_pos,qhY];refine qc.call v8 (by simp) ?_;simp[-getElem?_pos]
end Go.Proofs.YtkpkjbchlabaaaaGreatDoor
end
section
namespace Go.Proofs.YtkpkjbchlabaaaaGreatDoor
open Go Go.Abs Go.ChangeShapes Go.WideShapes Go.ChangeAt Go.RowKit
theorem qjI {H:Type}{enc:TypeId×Value->H}{W W':World}{v:Value}{d:DataW H}{ps:List MemPlace}{sp:Nat->Bool}(h:DataW.Trod enc Tryz.prog W 0 (fun _=>true) true 27 v d ps)(hb:Go.RowKit.Below W.heap.size W W')(hlt:∀ x∈ps,x.block<W.heap.size)(hs:∀ p∈ps,sp p.block=true) :
 DataW.Trod enc Tryz.prog W' 0 sp true 27 v d ps :=
 WideElems.Trod_stays Ys (by kernel_rfl) (of_decide_eq_true (by kernel_rfl)) h (fun x hx=>hb.same (hlt x hx)) hs
theorem qjH {H:Type}{enc:TypeId×Value->H}{W W':World}{v:Value}{d:DataW H}{ps:List MemPlace}{sp:Nat->Bool}(h:DataW.Trod enc Tryz.prog W 0 (fun _=>true) true 28 v d ps)(hb:Go.RowKit.Below W.heap.size W W')(hlt:∀ x∈ps,x.block<W.heap.size)(hs:∀ p∈ps,sp p.block=true) :
 DataW.Trod enc Tryz.prog W' 0 sp true 28 v d ps :=
 WideElems.Trod_stays Ys (by kernel_rfl) (of_decide_eq_true (by kernel_rfl)) h (fun x hx=>hb.same (hlt x hx)) hs
theorem qoo (os:Os)(started:os.Started)(H:Type)(enc:TypeId×Value->H) :
 ReturnsInHanded {} Tryz.checked os 4 .any (fun w args=>(Rows.randomUniformSpec.pre enc Tryz.prog Tryz.f4 [] false w args/\laidMetH Tryz.prog qfg w)/\sizedMet enc Tryz.prog Tryz.f4 (OpenSpec.ofChange Rows.randomUniformSpec) false w args)
  (Rows.randomUniformSpec.post enc Tryz.prog Tryz.f4 false true false false):=by
 refine returnsInHanded_of_change_and (C:=Tryz.checked) (X:=fun w _=>laidMetH Tryz.prog qfg w) (fun _ _ _ hh h=>h.of_heap hh) qnZ started (by kernel_rfl) Tryz.func4
  (ChangeSpec.witness_shaped (enc:=enc) (C:=Tryz.checked) (os:=os) (X:=fun w _=>laidMetH Tryz.prog qfg w) false (World.doorLaid Tryz.prog 400 os) #[.agg #[.slice none 0 0,.slice none 0 0,.slice none 0 0,.slice none 0 0,.slice none 0 0],.slice none 0 0] 8 rfl (World.shaped_of_RefB (by kernel_rfl) (by kernel_rfl)) (by kernel_rfl) (by kernel_rfl) (by kernel_rfl) (qlo os _)) ?_
 intro W base args ds gs before hval0 hW _ hWt hL _;have hval:∀ (j:Nat) t v,Tryz.f4.params[j]?=some t->args[j]?=some v->Value.okWide Tryz.prog W .any base t v:=hval0;have hwt:(DataW.weightsEach Tryz.prog (Tryz.f4.params.toList++Rows.randomUniformSpec.plain.varTypes Tryz.prog) (ds++gs)).all (·<=reachBytes)=true:=hWt;have hW':=hW;obtain⟨p,q,hA0,hV,rfl,hfz,hnd⟩:=hW;have hA:DataW.TrodAll enc Tryz.prog W 0 (fun _=>true) true Tryz.f4.params.toList args.toList ds p:=hA0;rw[Tryz.params4]at hA hval hwt;obtain⟨v0,v1,d0,d1,p0,p1,rfl,rfl,rfl,h0,h1⟩:=trodAll_two hA;obtain⟨rfl,rfl⟩:=trodVars_none hV;have hv0:=hval 0 27 v0 rfl rfl;unfold Value.okWide at hv0;rw[Tryz.underlying27]at hv0;obtain⟨cs0,rfl,_,_⟩:=hv0;have h0':=h0;obtain⟨fuel0,hf0⟩:=h0;have hw0:∀ k∈d0.weights Tryz.prog 27,k<=reachBytes:=fun k hk=>of_decide_eq_true (qpJ.1 hwt k (DataW.weights_mem_each (j:=0) (t:=27) rfl rfl k hk))
 obtain⟨x0,hrel0,hg0⟩:=rdP hf0 hw0;have hv1:=hval 1 28 v1 rfl rfl;obtain⟨a1,len1,cap1,rfl⟩:=okWide_slice Tryz.underlying28 hv1;have h1':=h1;obtain⟨fuel1,hf1⟩:=h1;obtain⟨x1,hrel1,hg1⟩:=rdInts hf1;simp only[zz,qh]at hrel1;obtain⟨w1,r1,e1,hrel1,er1⟩:=hrel1;obtain rfl:w1=.slice a1 len1 cap1:=(List.cons.inj e1).1.symm;have hpure:=qgf x0 x1 hg0 hg1;have hargs:qh (KMw W) [.agg (qG x0),.sl 1 (x1.map qr) .none] (#[Value.agg cs0,Value.slice a1 len1 cap1]:Array Value).toList:=by
  simp only[qh];have g0:qg (KMw W) (.agg (qG x0)) (Value.agg cs0):=by
   unfold qg;exact⟨cs0,rfl,hrel0⟩
  have g1:qg (KMw W) (.sl 1 (x1.map qr) .none) (Value.slice a1 len1 cap1):=by
   exact hrel1
  exact⟨_,_,rfl,g0,_,_,rfl,g1,rfl⟩
 refine (hpure.2 W (qbX W) #[Value.agg cs0,Value.slice a1 len1 cap1] (qhH hL) (fun _ _ _ e=>e) hargs).mono ?_;rintro e W' ⟨v,ro',rfl,hb,_,_,_,hv⟩;have hv1:v=.bool true:=by simpa only[qg] using hv
 subst hv1;have hW2:=hW';simp only[qqc]at hW2;have hlt:=fun x hx=>hW2.lt x hx
 refine⟨_,rfl,[d0,d1],[],p0++p1,[],p0++p1,[],hW2,?_,?_,?_,hb.frame _,fun h=>by cases h⟩
 . exact trodAll_mk1 (shut_bool Tryz.underlying4 true)
 . exact trodAll_mk2 (qjI h0' hb (fun x hx=>hlt x (qqq _ hx)) (fun x hx=>by simpa using hlt x (qqq _ hx))) (qjH h1' hb (fun x hx=>hlt x (qqZ _ hx)) (fun x hx=>by simpa using hlt x (qqZ _ hx)))
 . rfl
end Go.Proofs.YtkpkjbchlabaaaaGreatDoor
end
section
namespace Go.Proofs.YtkpkjbchlabaaaaGreatDoor
open Go
theorem fn4 : Tryz.prog.funcNamed "testbench/testbenchlaw23.RandomUniform" = some 4 := by kernel_rfl
theorem inst4:Tryz.f4.isInstance Tryz.prog Rows.randomUniformRow.origin Rows.randomUniformRow.targs:=of_decide_eq_true (by kernel_rfl)
theorem wrap4:Tryz.f4.isWrapper Tryz.prog Rows.randomUniformRow.wrapper Rows.randomUniformRow.mainSum:=by unfold Func.isWrapper;first | (rw[if_pos (by decide +kernel)];kernel_rfl) | (rw[if_neg (by decide +kernel)];exact⟨rfl,rfl⟩)
theorem Kj:(Rows.randomUniformRow.inPlace==Tryz.prog.inPlace 4)=true:=by kernel_rfl
theorem Zt:(Rows.randomUniformRow.unfollowed==Tryz.prog.unfollowed 4)=true:=by kernel_rfl
theorem YK:(Rows.randomUniformRow.recurses==Tryz.prog.recurses 4)=true:=by kernel_rfl
theorem qa5:(Rows.randomUniformRow.named==Tryz.prog.varsNamed 4)=true:=by kernel_rfl
theorem qct:(Rows.randomUniformRow.wf (OpenSpec.ofChange Rows.randomUniformSpec)&&laidOutB Tryz.prog&&mapsRowed Tryz.prog &&
 Tryz.f4.params.all (Tryz.prog.readableRec ·)&&namedTie Tryz.prog Rows.randomUniformRow.named Rows.randomUniformSpec.vars &&
 (Rows.randomUniformRow.stops == [])&&(Tryz.prog.stops == [])&&(Rows.randomUniformRow.knobs == [])&&(Tryz.prog.stopKnobs == []))=true:=by kernel_rfl
theorem qcs:((Rows.randomUniformRow.maps==(Tryz.f4.params.toList++Rows.randomUniformSpec.plain.varTypes Tryz.prog).any (Tryz.prog.mapsRec ·))&&(Rows.randomUniformRow.ifaces==(Tryz.f4.params.toList++Rows.randomUniformSpec.plain.varTypes Tryz.prog).any (Tryz.prog.ifacesRec ·))&&(Rows.randomUniformRow.mapsOut==Tryz.prog.mapsAmong Tryz.f4.resultTypes.toList) &&
 (Rows.randomUniformRow.loops==(Tryz.f4.params.toList++Rows.randomUniformSpec.plain.varTypes Tryz.prog).any (Tryz.prog.loopsFrom ·))&&(Rows.randomUniformRow.wideKeys==(Tryz.f4.params.toList++Rows.randomUniformSpec.plain.varTypes Tryz.prog++Tryz.f4.resultTypes.toList).any (Tryz.prog.wideKeysFrom ·)) &&
 Rows.randomUniformSpec.vars.all (Tryz.prog.varReadable ·)&&Tryz.f4.resultTypes.all (fun t=>Tryz.prog.readableRec t&&decide (t<Tryz.prog.types.size))&&(Rows.randomUniformRow.ifacesOut==Tryz.f4.resultTypes.toList.any (Tryz.prog.ifacesRec ·))&&(Rows.randomUniformRow.loopsOut==Tryz.f4.resultTypes.toList.any (Tryz.prog.loopsFrom ·))&&(Rows.randomUniformRow.plainKeys==Tryz.prog.plainKeys)&&Rows.randomUniformRow.shortTexts.isNone&&Tryz.prog.stopsHeard&&Tryz.prog.mayEnter&&(Rows.randomUniformRow.lifted==Tryz.prog.liftsFinal)&&(Tryz.prog.make==some Rows.randomUniformRow.make))=true:=by kernel_rfl
theorem qfq:((Rows.randomUniformRow.kinds==(if Rows.randomUniformRow.domain.isEmpty then [] else Tryz.f4.params.toList.map fun t=>match Tryz.prog.underlying t with | some (.int k)=>some k | _=>none))&&(Rows.randomUniformRow.pinned==Rows.randomUniformRow.pinnedBy) &&
 (Rows.randomUniformRow.veiled==(Tryz.f4.params.toList++Rows.randomUniformSpec.plain.varTypes Tryz.prog++Tryz.f4.resultTypes.toList).any (Tryz.prog.veiledRec ·))&&Rows.randomUniformRow.veiledFits Tryz.prog Tryz.f4.params.toList (Tryz.f4.params.toList++Rows.randomUniformSpec.plain.varTypes Tryz.prog++Tryz.f4.resultTypes.toList))=true:=by kernel_rfl
theorem facts4:joinedFacts Tryz.prog 4 Tryz.f4 Rows.randomUniformSpec Rows.randomUniformRow=true:=by
 have h1:=qct;have h2:=qcs;have h3:=qfq;simp only[Bool.and_eq_true,and_assoc]at h1 h2 h3;unfold joinedFacts;simp only[Bool.and_eq_true,and_assoc];obtain⟨a1,a2,a3,a4,a5,a6,a7,a8,a9⟩:=h1;obtain⟨b1,b2,b3,b4,b5,b6,b7,b8,b9,b10,b11,b12,b13,b14,b15⟩:=h2;obtain⟨c1,c2,c3,c4⟩:=h3;exact⟨a1,a2,a3,a4,a5,a6,a7,a8,a9,Kj,Zt,YK,qa5,b1,b2,b3,b4,b5,b6,b7,b8,b9,b10,b11,b12,b13,b14,b15,c1,c2,c3,c4⟩
theorem Zf:Rows.RandomUniformSaid :=
 OpenClaim.holds_of_wide 4 Tryz.f4 rfl rfl rfl rfl rfl rfl rfl ⟨rfl,rfl,rfl,rfl,rfl⟩ rfl rfl rfl rfl rfl fn4 Tryz.func4 facts4 inst4 wrap4
  (fun os started H enc _=>qoo os started H enc)
theorem qfz:Rows.randomUniformRow.wfByText (OpenSpec.ofChange Rows.randomUniformSpec)=true:=by kernel_rfl
theorem qfA : Tryz.prog.mainIs = some (true, "987bd91778cffe5dc9b1873c32978561209d0255da7ae84461e49386f51b4fc8".toList) := by kernel_rfl
theorem qcF:true=Tryz.prog.looks []:=by kernel_rfl
theorem qbg:([27,28].all fun u=>!Tryz.prog.wantsStandIn u)=true:=by kernel_rfl
theorem qfB:false=Rows.randomUniformRow.goesBy Tryz.prog:=by kernel_rfl
theorem randomUniform_card:Rows.RandomUniformCardSaid :=
 Claim7.holds_tied_plain_at .later [] [.data, .data, .data, .widerDeep] true (true, "987bd91778cffe5dc9b1873c32978561209d0255da7ae84461e49386f51b4fc8") true
  Zf (fun _ h=>by cases h) qfz (fun _ h=>by cases h) randomUniform_row_tie rfl ⟨rfl,rfl⟩ qfA rfl
  (fun f fn hf hfn=>by
    obtain rfl:f=4:=Option.some.inj (fn4.symm.trans hf) |>.symm;obtain rfl:fn=Tryz.f4:=(Option.some.inj (Tryz.func4.symm.trans hfn)).symm;exact⟨qcF,fun j t ht=>by
     rw[Tryz.params4]at ht;have hm:t∈[27,28]:=(by simpa using Array.mem_of_getElem? ht);exact (show Tryz.prog.wantsStandIn t=false by simpa using List.all_eq_true.1 qbg t hm)⟩)
  qfB
#print axioms randomUniform_card
end Go.Proofs.YtkpkjbchlabaaaaGreatDoor
end
