import Derived.Test.YtdapogpjhljhaaaGreatDoorCs16
import Derived.Test.YtdapogpjhljhaaaGreatDoorCs17
set_option maxRecDepth 100000
set_option maxHeartbeats 16000000
set_option linter.all false
set_option linter.defProp false
namespace Go.Proofs.YtdapogpjhljhaaaGreatDoor
open Go Go.Abs Tryz
def YD(l:List Var)(i:Nat):List Int:=((List.range i).filter fun(j:Nat)=>yU l (j:Int)).map fun(j:Nat)=>(j:Int)
def KM{l i}:YD l (i+1)=if yU l (i:Int)=true then YD l i++[(i:Int)] else YD l i:=by
 unfold YD;rw[qCL,qEg];by_cases h:yU l (i:Int)=true
 . simp[h]
 simp[h]
def qaH{l i}:(YD l i).length<=i:=by
 unfold YD;rw[qBT];exact qCq (qCP _ _) (by simp)
noncomputable def qI(p:Problem):List Int:=if qg p≠0 then [] else YD p.vars p.vars.length
def qdO(s:List Int):AV:=match s with
 |[]=>.sl 0 [] .nil
 |a::r=>.sl 1 ((a::r).map qf) (.chain 0 (r.length+1))
def qf6(s H):qE (fin H (qdO s))=true/\Leq (fin H (qdO s)) (.sl 1 (s.map qf) .none):=by
 cases s with
 |nil=>simp[qdO,Leq]
 |cons a r=>simp[qdO]
def qcD(s:List Int):List (Option Nat):=match s with
 |[]=>[]
 |_::r=>[some (r.length+1)]
def qkb(p)(h:VQ p):Pure prog GG 175 [.agg (qw p)] (.sl 1 ((qI p).map qf) .none):=by
 refine qF6 func175 ?_;have j:=yw p h;have f:∀i,Pure prog GG 85 [.agg [.sl 4 (p.vars.map qu) .none,.sl 4 (p.hard.map qo) .none,.sl 4 (p.soft.map qo) .none,.sl 2 (p.dists.map zu) .none,.sl 1 (p.groups.map qn) .none],.int .i64 i] (.bool (yU p.vars i)):=fun i=>by
  have f:=ju GG p i;rw[qaG]at f;simpa only[qw] using f
 simp only[qw]at j;have t:=h.vars;simp;refine qFQ j ?_;by_cases h0:qg p=0
 . have x:qI p=YD p.vars p.vars.length:=(by simp[qI,h0]);rw[x];simp[h0];refine qF3 (fun q env σ=>∃i,i<=p.vars.length/\q=p.vars.length-i/\env 1=.ptr 0 0/\env 3=qdO (YD p.vars i)/\env 10=.int .i64 p.vars.length/\env 11=.int .i64 i/\σ=⟨[.cells (qw p)],qcD (YD p.vars i)⟩) p.vars.length ⟨0,by simp[YD,qdO,qcD]⟩ ?_;rintro q env σ ⟨i,hi,rfl,h1,c,e,d,rfl⟩;by_cases o:i<p.vars.length
   . have v:(i:Int)<p.vars.length:=(by omega);have g:=qaH (l:=p.vars) (i:=i);have b:=KM (l:=p.vars) (i:=i);simp[h1,c,e,d,o];refine qFQ (f i) ?_;cases hri:yU p.vars (i:Int)
     . rw[hri]at b;simp[h1,c,e,d];exact⟨_,by omega,i+1,by omega,rfl,by rw[b];rfl,wr,by rw[b];rfl⟩
     rw[hri,if_pos rfl]at b;generalize u:YD p.vars i=R at c g b⊢
     cases R with
     | nil=>
      simp only[qdO]at c;simp[h1,c,e,d,qcD,qm,qe,qp,qR];exact⟨_,by omega,i+1,by omega,rfl,by rw[b];simp[qdO],wr,by rw[b];simp[]⟩
     | cons a r=>
      simp only[qdO]at c;simp[h1,c,e,d,qcD,qm,qe,qp,qR,show r.length<=549755813886 by simp at g;omega];exact⟨_,by omega,i+1,by omega,rfl,by rw[b];simp[qdO],wr,by rw[b];simp[]⟩
   have s:i=p.vars.length:=(by omega);subst s;have m:=qf6 (YD p.vars p.vars.length) [.cells (qw p)];simp[h1,c,e,d];simpa using m
 have x:qI p=[]:=by simp[qI,h0]
 rw[x];simp[h0,Leq]
def qka(p)(h:VQ p)(u:p.vars.length<=20)(s:p.groups.flatten.length<4611686018427387904):Pure prog GG 39 [.agg (qw p)] (.sl 1 ((qI p).map qf) .none):=by
 refine qF6 func39 ?_;have g:=QI p h s;simp only[qw]at g;simp;refine qFQ g ?_;by_cases h0:qg p=0
 . have x:qI p=YD p.vars p.vars.length:=(by simp[qI,h0]);rw[x];simp[h0];refine qF3 (fun q env σ=>∃i,i<=p.vars.length/\q=p.vars.length-i/\env 1=.ptr 0 0/\env 3=qdO (YD p.vars i)/\env 4=.int .i64 i/\σ=⟨[.cells (qw p)],qcD (YD p.vars i)⟩) p.vars.length ⟨0,by simp[YD,qdO,qcD]⟩ ?_;rintro q env σ ⟨i,hi,rfl,h1,c,d,rfl⟩;by_cases e:i<p.vars.length
   . have w:(i:Int)<p.vars.length:=(by omega);have m:=qaH (l:=p.vars) (i:=i);have b:=KM (l:=p.vars) (i:=i);have j:yU p.vars (i:Int)=(p.vars[i].mode != 0):=(by simp[yU,qBm e]);by_cases m0:p.vars[i].mode=0
     . have f:yU p.vars (i:Int)=false:=(by rw[j];simp[m0]);rw[f]at b;simp[h1,c,d,e,m0];exact⟨_,by omega,i+1,by omega,rfl,by rw[b];rfl,wr,by rw[b];rfl⟩
     have f:yU p.vars (i:Int)=true:=(by rw[j];simp[m0]);rw[f,if_pos rfl]at b;generalize v:YD p.vars i=R at c m b⊢
     cases R with
     | nil=>
      simp only[qdO]at c;simp[h1,c,d,e,m0,qcD,qm,qe,qp,qR];exact⟨_,by omega,i+1,by omega,rfl,by rw[b];simp[qdO],wr,by rw[b];simp[]⟩
     | cons a r=>
      simp only[qdO]at c;simp[h1,c,d,e,m0,qcD,qm,qe,qp,qR,show r.length<=549755813886 by simp at m;omega];exact⟨_,by omega,i+1,by omega,rfl,by rw[b];simp[qdO],wr,by rw[b];simp[]⟩
   have t:i=p.vars.length:=(by omega);subst t;have o:=qf6 (YD p.vars p.vars.length) [.cells (qw p)];simp[h1,c,d];simpa using o
 have x:qI p=[]:=by simp[qI,h0]
 rw[x];simp[h0,Leq]
structure VH(p:Problem):Prop where
 names:∀v∈p.vars,Fits v.name
 exprs:∀e∈p.hard++p.soft,Wen e
 dists:Fits p.dists
 weights:∀d∈p.dists,Fits d.weights
 groups:Fits p.groups
 group:∀g∈p.groups,Fits g
def Kf{l i}(h:i<l.length):zP l i=l[i].width:=by simp[zP,qBm h]
def kj(l:List Var)(s:List Int):Int:=s.foldl (fun n i=>IntKind.i64.wrap (n+zP l i.toNat)) 0
def Z5{p i}(h:i∈qI p):0<=i/\i<p.vars.length:=by
 unfold qI at h;split at h
 . cases h
 unfold YD at h;obtain⟨j,a,rfl⟩:=qBH.1 h;have:=qCe.1 (qCk.1 a).1;omega
def Yh(p)(h:p.vars.length<=20):(qI p).length<=20:=by
 unfold qI;split
 . simp
 exact qCq qaH h
def qfC{l}{s:List Int}{i}{v:Int}(h:s[i]?=some v):kj l (s.take (i+1))=IntKind.i64.wrap (kj l (s.take i)+zP l v.toNat):=by
 unfold kj;rw[qBQ,h,qCb];rfl
def qtg(p)(h:VQ p)(o:p.vars.length<=20)(t:p.groups.flatten.length<4611686018427387904):Pure prog GG 13 [.agg (qw p)] (.int .i64 (kj p.vars (qI p))):=by
 refine qF6 func13 ?_;have c:=qka p h o t;have s:=Yh p o;have f:∀i∈qI p,0<=i/\i<p.vars.length:=fun i hi=>Z5 hi
 simp only[qw]at c;generalize qI p=R at c s f⊢;simp;refine qFQ c ?_
 try simp
 refine qF3 (fun q env σ=>∃i,i<=R.length/\q=R.length-i/\env 1=.ptr 0 0/\env 3=.sl 1 (R.map qf) .none/\env 4=.int .i64 (kj p.vars (R.take i))/\env 5=.int .i64 i/\σ=⟨[.cells (qw p)],[]⟩) R.length ⟨0,by simp[kj]⟩ ?_;rintro q env σ ⟨i,hi,rfl,h1,g,a,e,rfl⟩
 cases hvi:R[i]? with
 | some v=>
  obtain⟨d,w⟩:=qBk.1 hvi;obtain⟨r,x⟩:=f v (qBl hvi);obtain⟨j,rfl⟩:=qBG r;have m:j<p.vars.length:=by omega
  have b:=qfC (l:=p.vars) hvi;simp only[qBU]at b;rw[Kf m]at b;simp[h1,g,a,e,d,w,m];exact⟨_,by omega,i+1,by omega,rfl,by rw[b],wr⟩
 | none=>
  have d:¬i<R.length:=by simp at hvi;omega
  have u:R.take i=R:=qBr (by omega);rw[u]at a;simp[h1,g,a,e,d]
def qrx(e)(a:Wen e)(d:hgt e<=1000)(c:(pre e).length<=200000000000):Pure prog GG 34 [.agg (qo e)] (.int .i64 (vQ e)):=by
 refine qFD func34 ?_;simp only[qd e];simp;rw[<- qd e];refine qFJ (qkn e a d c _) ?_;rintro r σ ⟨b,V,A,tv,ta,rfl,hb,_,_⟩;simp[hb]
def vd(l:List Ex):Bool:=decide (l.length<=5)&&(l.take 6).all fun e=>yE e 8&&decide (vQ e<=20)
def qlq(l)(K:Fits l)(E:∀e∈l,Wen e):Pure prog GG 11 [.sl 4 (l.map qo) .none] (.bool (vd l)):=by
 refine qFD func11 ?_;simp;obtain⟨r,f⟩:∃r,r=vd l:=⟨_,rfl⟩;rw[<- f];refine qFK (l.take 6) (fun d env σ=>env 0=.sl 4 (l.map qo) .none/\env 3=.int .i64 d.length/\σ=⟨[],[]⟩/\(d.all fun e=>yE e 8&&decide (vQ e<=20))=true) ?_ ?_ ?_
 . simp
 . rintro d e s env σ hd c D ⟨b,a,rfl,j⟩;have y:d.length<6/\d.length<l.length:=(by simp at D;omega);have o:l[d.length]?=some e:=(by rw[qCi]at c;split at c<;>first|exact c|cases c);have I:=qBl c;have w:=E e (qBl o);have F:=wr (n:=(d.length:Int)+1);have A:(d.length:Int)<6:=(by omega);have v:(yE e 8&&decide (vQ e<=20))=false->r=false:=by
    intro h;rw[f,qCs];intro h2;simp only[vd,qBq,qBx]at h2;have:=h2.2 e I;simp only[qEr]at h;rcases h with h|h
    . rw[h]at this;cases this.1
    rw[h]at this;cases this.2
   simp[-getElem?_pos,b,a,y.2,A,o,qd e];rw[<- qd e];refine qFG (G:=qW GG) (qnl 8 e (fun x z=>(w x z).1) (by omega)) ?_;cases hs:yE e 8
   . have g:=v (by simp[hs]);simp[unA,g]
   obtain⟨J,C⟩:=qpT hs;simp[b,a,unA,o,qd e];rw[<- qd e];refine qFG (G:=qW GG) (qrx e w (by omega) C) ?_;by_cases u:vQ e<=20
   . have m:¬20<vQ e:=(by omega);simp[b,a,m,F,u];simpa using j
   have m:20<vQ e:=(by omega);have g:=v (by simp[hs,u]);simp[m,g]
 rintro env σ ⟨b,a,rfl,j⟩;by_cases t:l.length<=5
 . have i:(l.take 6).length=l.length:=(by simp;omega);rw[i]at a;have B:(l.length:Int)<=5:=(by omega);simp[b,a,show r=true by rw[f];simp only[vd,t,decide_true,qCC];exact j,B]
 have i:(l.take 6).length=6:=by simp;omega
 rw[i]at a;have L:(6:Int)<=l.length:=by omega
 simp[b,a,show r=false by rw[f];simp[vd,t],show ¬(l.length:Int)<=5 by omega]
noncomputable def wb(p:Problem):Bool :=
 decide (p.vars.length<=5)&&decide (p.dists.length<=5)&&decide (p.groups.length<=5)&&vd p.hard&&vd p.soft&&(p.dists.all fun d=>decide (d.weights.length<=20))&&(!decide (qg p=0)||decide (kj p.vars (qI p)<=7))
structure VM(p):Prop where
 h:VH p
 vars:Fits p.vars
 hard:Fits p.hard
 soft:Fits p.soft
 grp:∀g∈p.groups,g.length<17592186044416
def VM.flat{p}(h:VM p)(c:p.groups.length<=5):p.groups.flatten.length<4611686018427387904:=by
 have:∀(g:List (List Int)),(∀x∈g,x.length<17592186044416)->g.flatten.length<=g.length*17592186044416:=by
  intro g
  induction g with
  |nil=>simp
  | cons a r ih=>
   intro h;have h1:=h a (by simp);have h2:=ih fun x b=>h x (by simp[b])
   simp only[qB7,qBp,qBB];omega
 have:=this p.groups h.grp;omega
def yd{l}(h:vd l=true):l.length<=5/\∀e∈l,hgt e<=8/\(pre e).length<=20:=by
 simp only[vd,qBq,decide_eq_true_eq,qBx]at h;refine⟨h.1,fun e b=>?_⟩;rw[show l.take 6=l from qBr (by omega)]at h;obtain⟨h1,h2⟩:=h.2 e b;obtain⟨a,c⟩:=qpT h1;refine⟨a,?_⟩;unfold vQ at h2;rw[wr]at h2;omega
def VM.q{p}(h:VM p)(d:p.vars.length<=5)(h1:vd p.hard=true)(h2:vd p.soft=true):VQ p:=by
 obtain⟨c,b⟩:=yd h1;obtain⟨b1,b2⟩:=yd h2;refine⟨by omega,h.h.names,by omega,by omega,fun e a=>?_,h.h.dists,h.h.weights,h.h.groups,h.h.group⟩;refine⟨h.h.exprs e a,?_⟩;rcases qBC.1 a with a|a
 . have:=b e a;omega
 have:=b2 e a;omega
def qrt(p)(h:VM p):Pure prog GG 4 [.agg (qw p)] (.bool (wb p)):=by
 refine qFD func4 ?_;obtain⟨r,b⟩:∃r,r=wb p:=⟨_,rfl⟩;rw[<- b];by_cases u:p.vars.length<=5
 case neg=>
  have c:(5:Int)<p.vars.length:=by omega
  have a:r=false:=by rw[b];simp[wb,u]
  simp[c,a]
 by_cases hd:p.dists.length<=5
 case neg=>
  have c:¬(5:Int)<p.vars.length:=by omega
  have f:(5:Int)<p.dists.length:=by omega
  have a:r=false:=by rw[b];simp[wb,hd]
  simp[c,f,a]
 by_cases i:p.groups.length<=5
 case neg=>
  have c:¬(5:Int)<p.vars.length:=by omega
  have f:¬(5:Int)<p.dists.length:=by omega
  have l:(5:Int)<p.groups.length:=by omega
  have a:r=false:=by rw[b];simp[wb,i]
  simp[c,f,l,a]
 have c:¬(5:Int)<p.vars.length:=by omega
 have f:¬(5:Int)<p.dists.length:=by omega
 have l:¬(5:Int)<p.groups.length:=by omega
 have D:=qlq p.hard h.hard fun e j=>h.h.exprs e (qB5 _ j)
 have E:=qlq p.soft h.soft fun e j=>h.h.exprs e (qCu _ j)
 simp[c,f,l];refine qFG (G:=qW GG) D ?_;cases h1:vd p.hard
 case false=>
  have a:r=false:=by rw[b];simp[wb,h1]
  simp[unA,a]
 simp[-getElem?_pos,unA];refine qFG (G:=qW GG) E ?_;cases h2:vd p.soft
 case false=>
  have a:r=false:=by rw[b];simp[wb,h2]
  simp[-getElem?_pos,unA,a]
 have y:=h.q u h1 h2;have A:=QI p y (h.flat i);have z:=qtg p y (by omega) (h.flat i);simp only[qw]at A z;simp[-getElem?_pos,unA];refine qFK p.dists (fun d env σ=>env 1=.ptr 0 0/\env 3=.int .i64 d.length/\σ=⟨[.cells (qw p)],[]⟩/\(d.all fun d=>decide (d.weights.length<=20))=true) ?_ ?_ ?_
 . simp
 . rintro d x s env σ I m w ⟨f1,g,rfl,t⟩;have F:=wr (n:=(d.length:Int)+1);by_cases v:x.weights.length<=20
   . have o:¬(20:Int)<x.weights.length:=(by omega);simp[-getElem?_pos,f1,g,w,m,o,F,v];simpa using t
   have o:(20:Int)<x.weights.length:=(by omega);have a:r=false:=by
    rw[b,qCs];intro B;simp only[wb,qBq,qBx,decide_eq_true_eq]at B;exact v (B.1.2 x (qBl m))
   simp[-getElem?_pos,f1,g,w,m,o,a]
 rintro env σ ⟨f1,g,rfl,t⟩;have C:r=(!decide (qg p=0)||decide (kj p.vars (qI p)<=7)):=by
  rw[b];unfold wb;rw[h1,h2,t];simp[u,hd,i]
 simp[-getElem?_pos,f1,g];refine qFG (G:=qW GG) A ?_;by_cases h0:qg p=0
 . simp[f1,h0];refine qFG (G:=qW GG) z ?_;simp[C,h0]
 simp[-getElem?_pos,f1,h0,C]
def qom(v:Var)(s:Str):Pure prog GG 279 [.agg (qu v),.rptr [.str s]] (.bool (v.name==s)):=by
 refine qFD func279 ?_;simp
def K7{ops e}(h:(pre e).length<=100000):(zS ops e).length<=100000:=by
 have:∀(l:List Ex) (s:List Str),(l.foldl (WS ops) s).length<=s.length+l.length:=by
  intro l
  induction l with
  |nil=>intro s;simp
  |cons a r ih=>intro s;have:=ih (WS ops s a);have:=vL (ops:=ops) (s:=s) (e:=a);simp only[qB2,qBB];omega
 have:=this (pre e) [];simp only[zS,qCc]at this⊢;omega
noncomputable def wJ(vs:List Var)(e:Ex):Bool:=decide (zz vs e=0)
def qon(p e)(E:Fits p.vars)(m:Wen e)(F:hgt e<1000000)(u:(pre e).length<=100000):Pure prog GG 219 [.agg (qw p),.agg (qo e)] (.bool (wJ p.vars e)):=by
 refine qFD func219 ?_;obtain⟨r,a⟩:∃r,r=wJ p.vars e:=⟨_,rfl⟩;rw[<- a];simp[qd e];rw[<- qd e];refine qFG (Km e m F) ?_;by_cases h0:zr e=0
 case neg=>
  have:r=false:=by rw[a];unfold wJ zz;rw[if_pos h0];exact decide_eq_false h0
  simp[h0,this]
 simp[h0,qd e];rw[<- qd e];refine qFG (QE e m u) ?_;have g:=Q9 (e:=e);cases ha:Yy e
 case true=>
  rw[ha]at g;have f:(0:Int)<(zS [3,24] e).length:=by have:=of_decide_eq_true g;omega
  have:r=false:=by rw[a];unfold wJ zz;simp[h0,ha]
  have z:¬zS [3,24] e=[]:=fun h=>by rw[h]at f;simp at f
  simp[z,this]
 rw[ha]at g;have f:(zS [3,24] e).length=0:=by have:=of_decide_eq_false g;omega
 have B:=qBy f;simp[B,qd e];rw[<- qd e];refine qFG (Jc e m u) ?_;have I:=K7 (ops:=[2]) u;have l:r = !((zS [2] e).any fun s=>!wK p.vars s):=by
  rw[a,QX];unfold wJ zz;cases hf:ZD p.vars e<;>simp[h0,ha]
 obtain⟨N,C⟩:∃N,N=zS [2] e:=⟨_,rfl⟩;rw[<- C]at I l⊢;simp;refine qFK N (fun d ev σ=>ev 2=.ptr 0 0/\ev 17=.sl 1 (N.map jo) .none/\ev 18=.int .i64 N.length/\ev 19=.int .i64 d.length/\(∃H,σ=⟨H,[]⟩/\H[0]?=some (.cells (qw p)))/\∀s∈d,wK p.vars s=true) ?_ ?_ ?_
 . simp
 . rintro d s rest ev σ hd y A ⟨i,o,b,c,⟨H,rfl,h0⟩,j⟩;have D:=wr (n:=(d.length:Int)+1);simp[-getElem?_pos,i,o,b,c,A,y,qa h0];refine qFI (QA GG p.vars (fun v=>v.name==s) 279 [] [.rptr [.str s]] E rfl (by simp) fun v _=>qom v s) rfl ?_ ?_
   . simp[frz]
   cases hv:wK p.vars s
   . have x:(p.vars.any fun v=>v.name==s)=false:=hv;have:r=false:=by rw[l,Bool.not_eq_false',qBM];exact⟨s,by rw[hd];simp,by simp[hv]⟩
     simp[x,this]
   have x:(p.vars.any fun v=>v.name==s)=true:=hv;simp[-getElem?_pos,x,i,o,b,c,D];exact⟨qa h0 _,fun t w=>by
    rcases w with w|rfl
    . exact j t w
    exact hv⟩
 rintro ev σ ⟨i,o,b,c,⟨H,rfl,h0⟩,j⟩;have:r=true:=by
  rw[l,qC5,qCM];intro s G;simp[j s G]
 simp[b,c,this]
def zc(a:List Int):List AV:=a.map (AV.int .i64 ·)
@[simp]def qbL(p:Problem)(l:List Ex)(a:AV)(over:Bool)(n:Nat):List AV:=[.sl 4 (p.vars.map qu) .none,.sl 4 (p.hard.map qo) .none,.sl 4 (p.soft.map qo) .none,.sl 2 (p.dists.map zu) .none,.sl 1 (p.groups.map qn) .none,.sl 4 (l.map qo) .none,a,.bool over,.int .i64 n]
def Jy(A t:Nat)(a:List Int):AV:=if a=[] then .sl 1 [] (.chain t 0) else .ms A 0 a.length 1
structure FndR(F A t:Nat)(p:Problem)(l:List Ex)(a:List Int)(over:Bool)(n:Nat)(H:List Blk):Prop where
 f:H[F]?=some (.cells (qbL p l (Jy A t a) over n))
 r:a≠[]->H[A]?=some (.cells (zc a))
def FndR.ne{F A t p l a over n H}(h:FndR F A t p l a over n H)(b:a≠[]):A≠F:=by
 rintro rfl;have h1:=h.f;rw[h.r b]at h1;simp only[zc,qbL,qBI,Blk.cells.injEq]at h1
 cases a with
 |nil=>exact b rfl
 |cons x xs=>simp at h1
def yR{a i x}:(zc a).set i (AV.int .i64 x)=zc (a.set i x):=by simp[zc,qFt]
def WF{a:List Int}{i:Nat}:(zc a)[i]?=(a[i]?).map (AV.int .i64 ·):=by simp[zc]
def qO{a}:(zc a).length=a.length:=by simp[zc]
def qee{vs:List Var}{a:List Int}(e:a.length=vs.length){m v x}(d:vs[m]?=some v)(c:a[m]?=some x)(b:(qJ (vs.drop (m+1)) (a.drop (m+1))).2=true):
 qJ (vs.drop m) (a.drop m)=if v.mode=0 then(x::(qJ (vs.drop (m+1)) (a.drop (m+1))).1,true) else if x+1<(zG v:Nat) then((x+1)::(qJ (vs.drop (m+1)) (a.drop (m+1))).1,false) else(0::(qJ (vs.drop (m+1)) (a.drop (m+1))).1,true):=by
 obtain⟨h1,rfl⟩:=qBk.1 d;obtain⟨h2,rfl⟩:=qBk.1 c;rw[qBE h1,qBE h2]
 conv=>lhs;unfold qJ
 rw[b,if_neg (by simp)]
def YP:∀{vs:List Var}{a:List Int} (b:a.length=vs.length) (m:Nat),(qJ (vs.drop m) (a.drop m)).2=false->qJ vs a=(a.take m++(qJ (vs.drop m) (a.drop m)).1,false)
 | vs,a,_,0,h=>by
  simp only[qCG]at h⊢;rw[List.take_zero,qBL,<- h]
 |[],[],_,m+1,h=>by simp[qJ]at h
 | v::vs,x::xs,b,m+1,h=>by
  have ih:=YP (vs:=vs) (a:=xs) (by simpa using b) m (by simpa using h);simp only[qD8]at h⊢
  conv=>lhs;unfold qJ
  rw[ih,if_pos rfl,qC6,qBV]
 |[],_::_,b,_,_=>by simp at b
 |_::_,[],b,_,_=>by simp at b
def ZV:∀{vs:List Var}{a:List Int},a.length=vs.length->(qJ vs a).1.length=a.length
 |[],[],_=>rfl
 | v::vs,x::xs,b=>by
  have ih:=ZV (vs:=vs) (a:=xs) (by simpa using b);unfold qJ;split
  . simp[ih]
  split
  . simp[ih]
  split<;>simp[ih]
 |[],_::_,b=>by simp at b
 |_::_,[],b=>by simp at b
def FndR.look{F A t p l a over n H}(h:FndR F A t p l a over n H)(u):FndR F A t p l a over n (H++u):=⟨qa h.f u,fun b=>qa (h.r b) u⟩
def qgh:∀{vs:List Var}{a:List Int}{m:Nat}{v:Var}{x:Int},okA vs a->vs[m]?=some v->a[m]?=some x->if v.mode=0 then x=v.value else 0<=x/\x<(zG v:Nat)
 | v::vs,x::xs,0,w,y,h,b,c=>by
  simp at b c;subst b c;exact h.1
 |v::vs,x::xs,m+1,w,y,h,b,c=>qgh h.2 (by simpa using b) (by simpa using c)
 |[],[],_,_,_,_,b,_=>by simp at b
 |[],_::_,_,_,_,h,_,_=>h.elim
 |_::_,[],_,_,_,h,_,_=>h.elim
def qAM(F A t:Nat)(p:Problem)(l:List Ex)(a:List Int)(n:Nat)(H:List Blk)(T:List (Option Nat))(r:AV)(σ':St):Prop :=
 r=.tup []/\σ'.T=T/\FndR F A t p l (qJ p.vars a).1 (qJ p.vars a).2 n σ'.H/\KpL [F,A] H σ'.H
def qAN(F A t:Nat)(p:Problem)(l:List Ex)(a:List Int)(n:Nat)(H:List Blk)(T:List (Option Nat))(m:Nat)(ev:Env)(σ:St):Prop :=
 ev 0=.ptr F 0/\ev 2=.int .i64 ((m:Int)-1)/\m<=a.length/\(qJ (p.vars.drop m) (a.drop m)).2=true/\∃H',σ=⟨H',T⟩/\KpL [F,A] H H'/\FndR F A t p l (a.take m++(qJ (p.vars.drop m) (a.drop m)).1) false n H'
def qiP{F A t p l a n H}(T)(h:FndR F A t p l a false n H)(d:a.length=p.vars.length)(b9:a.length<=1000)(b5:okA p.vars a)(hw:∀v∈p.vars,0<=v.width/\v.width<=28):
 qh prog GG 221 [.ptr F 0] ⟨H,T⟩ (qAM F A t p l a n H T):=by
 refine qFF func221 ?_;have E:=h.f;have b6:=(qBk.1 E).1;by_cases C:a=[]
 . subst C;have s:=qBy d.symm;have hs:qJ p.vars []=([],true):=(by rw[s];rfl);simp[E,Jy];refine qFL (fun m ev σ=>ev 0=.ptr F 0/\ev 2=.int .i64 (-1)/\σ=⟨H,T⟩) 0 ⟨by simp,by simp;decide,rfl⟩ ?_;rintro m ev σ R hR ⟨j,G,rfl⟩;simp[j,G,E];refine⟨rfl,rfl,⟨?_,fun h=>?_⟩,?_⟩
   . rw[hs];simp[b6,Jy]
   . rw[hs]at h;exact absurd rfl h
   exact qGf (by simp)
 have hA:=h.r C;have X:=h.ne C;have w:∀b:List Int,b.length=a.length->Jy A t b=.ms A 0 a.length 1:=fun b hb=>by
  unfold Jy;rw[if_neg (by rintro rfl;exact C (qBy hb.symm)),hb]
 rw[qbL,w a rfl]at E;simp[E];refine qFL (fun m ev σ=>qAN F A t p l a n H T m ev σ) a.length ?_ ?_
 . refine⟨by simp,by simp;rw[wr],qBs _,?_,H,rfl,qGd,?_⟩
   . rw[d,qCw,<- d,qCw];rfl
   . rw[qCw,d,qCw,<- d,qCS];show FndR F A t p l (a++[]) false n H
     rwa[qB4]
 rintro m ev σ R hR ⟨j,G,hm,Z,H',rfl,K,D⟩;have u:=D.f;have b0:=(qBk.1 u).1;have b2:(a.drop m).length=(p.vars.drop m).length:=by simp[d]
 have g:(a.take m++(qJ (p.vars.drop m) (a.drop m)).1).length=a.length:=by rw[qBp,ZV b2];simp;omega
 rw[qbL,w _ g]at u;have b1:a.take m++(qJ (p.vars.drop m) (a.drop m)).1≠[]:=fun e=>C (qBy (by rw[<- g,e];rfl))
 have o:=D.r b1
 cases m with
 | zero=>
  simp[j,G,u];simp at Z D g o;refine⟨rfl,rfl,⟨?_,fun _=>?_⟩,K.trans (qGf (by simp))⟩
  . rw[qBo b0,qbL,w _ g,Z]
  rw[qBn (Ne.symm X)];exact o
 | succ m=>
  have L:m<a.length:=by omega
  obtain⟨x,O⟩:∃x,a[m]?=some x:=⟨_,qBm L⟩;obtain⟨v,s⟩:∃v,p.vars[m]?=some v:=⟨_,qBm (by omega)⟩;have c:=qee d s O Z;have a8:=YP d m;have a3:=hw v (qBl s);have U:=yo a3.1 a3.2;have W:ev 2=.int .i64 (m:Int):=by rw[G];congr 1;omega
  have Y:=wr (n:=(m:Int)-1);have b4:v.mode≠0->0<=x/\x<(zG v:Nat):=fun i=>by
   have:=qgh b5 s O
   rwa[if_neg i]at this
  have c1:zG v<=2^28:=qBF (by omega) (by omega);have a5:a.take (m+1)=a.take m++[x]:=by rw[qBQ,O];rfl
  have b8:(a.drop m).length=(p.vars.drop m).length:=by simp[d]
  have hS:(a.take m).length+((qJ (p.vars.drop (m+1)) (a.drop (m+1))).1.length+1)=a.length:=by
   rw[a5]at g;simpa using g
  rw[a5]at D g o;generalize (qJ (p.vars.drop (m+1)) (a.drop (m+1))).1=S at *;have a9:(a.take m).length=m:=by simp;omega
  generalize hP:a.take m=P at *;simp at D g o;have B:∀y,zc (P++y::S)=zc P++.int .i64 y::zc S:=fun y=>by simp[zc]
  have a4:(zc P).length=m:=by rw[qO,a9]
  have hg:∀y,(zc P++AV.int .i64 y::zc S)[m]?=some (.int .i64 y):=fun y=>by
   rw[qBt (by omega),a4,qCh];rfl
  have hd:∀y,(zc P++AV.int .i64 y::zc S).drop m=.int .i64 y::zc S:=fun y=>by
   rw[qCJ (by omega),qBZ (by omega)];rfl
  have a0:∀y z,(zc P++AV.int .i64 y::zc S).set m (.int .i64 z)=zc P++.int .i64 z::zc S:=fun y z=>by
   rw[qCd _ _ (by omega),a4,qCh];rfl
  have N:∀y,(zc P++AV.int .i64 y::zc S).length=a.length:=fun y=>by
   rwa[qBp,qBB,qO,qO]
  rw[B]at o;have a1:=(qBk.1 o).1;have I:∀y,(H'.set A y)[F]?=some (.cells (qbL p l (.ms A 0 a.length 1) false n)):=fun y=>by rwa[qBn X]
  have V:∀y,(H'.set A y)[A]?=some y:=fun y=>qBo a1
  have c2:m<p.vars.length:=by omega
  have a7:m+1<=a.length:=L;simp at u I;by_cases i:v.mode=0
  . rw[if_pos i]at c;simp[j,W,u,s,i,Y];refine hR m _ _ (by omega) ⟨by simp[j],by simp,by omega,by rw[c],H',rfl,K,?_⟩
    rwa[c,hP]
  have c0:=b4 i;have a6:=wr (n:=x+1);rw[if_neg i]at c;have a2:¬v.width<0:=by omega
  have b7:zG v=2^v.width.toNat:=rfl;rw[<- b7]at U;by_cases M:x+1<(zG v:Nat)
  . rw[if_pos M]at c;have J:=a8 (by rw[c]);rw[c]at J;simp only at J;simp[j,W,u,s,i,Y,o,hd,a0,N,a6,I,V,U,L,a7,a2,IntKind.bits,M];have Q:(P++(x+1)::S).length=a.length:=(by rw[<- qO,B];exact N _);refine⟨rfl,rfl,⟨?_,fun _=>?_⟩,K.trans (qGf (by simp))⟩
    . rw[J,qbL,w _ Q];exact I _
    rw[J,B];exact V _
  rw[if_neg M]at c;simp[j,W,u,s,i,Y,o,hd,a0,N,a6,I,V,U,L,a7,a2,IntKind.bits,M];have Q:(P++0::S).length=a.length:=by rw[<- qO,B];exact N _
  refine hR m _ _ (by omega) ⟨by simp[j],by simp,by omega,by rw[c],_,rfl,K.trans (qGf (by simp)),?_⟩;rw[c,hP];refine⟨?_,fun _=>?_⟩
  . rwa[qbL,w _ Q,qBn X]
  rw[B];exact qBo a1
def qAe(p:Problem)(a:List Int)(H:List Blk)(T:List (Option Nat))(r:AV)(σ':St):Prop :=
 σ'.T=T/\KpL [] H σ'.H/\∃b,ja b 2 qN σ'.H r (ke p.vars a)/\H.length<=b
def qlt{vs a i v x}(h:vs[i]?=some v)(h':a[i]?=some x):(vU vs a).take (i+1)=(vU vs a).take i++[⟨v.name,x⟩]:=by
 rw[qBQ,Q6 h h'];rfl
def qf2:List (Nat×Sch×List Nat):=[(7,.step 0 [10,9] (.step 1 [10,9,8,7,2] (.step 2 [10,9,8,7] (.step 3 [10,9,8,7,6,5] (.step 4 [10,9,8,7,6,5] (.step 5 [10,9,8,7,6] (.step 6 [10,9,8,7] (.step 7 [10,9,8] (.step 8 [10,9] (.step 9 [10] (.step 10 [] (.done))))))))))),[])]
def qs1{A t}(p a)(g:a.length=p.vars.length)(hl:p.vars.length<=1000){H}(T)(V:a≠[]->H[A]?=some (.cells (zc a))):
 qh prog GG 220 [.agg (qw p),Jy A t a] ⟨H,T⟩ (qAe p a H T):=by
 refine qFE ⟨true,qf2,[],[]⟩ func220 ?_;by_cases s:a=[]
 . subst s;have I:=qBy g.symm;have j:ke p.vars []=[]:=(by rw[I];rfl);have M:∀u,qAe p [] H T (.sl 0 [] .nil) ⟨H++u,T⟩:=fun u=>⟨rfl,qGe,H.length,.inl ⟨j,rfl⟩,qBs _⟩
   simp[Jy,I];refine qFL (fun n ev σ=>ev 5=.sl 0 [] .nil/\ev 16=.int .i64 0/\ev 17=.int .i64 0/\∃u,σ=⟨H++u,T⟩) 0 ⟨by simp,by simp,by simp,_,rfl⟩ ?_;rintro n ev σ R E ⟨Y,c,f,u,rfl⟩;simp[Y,c,f];exact M u
 have K:Jy A t a=.ms A 0 a.length 1:=if_neg s;have X:=V s;have U:=ko g;have j:ke p.vars a=vU p.vars a:=by rw[JV,if_pos g]
 rw[K];simp[g];refine qFW p.vars (fun d ev σ=>ev 1=.ms A 0 p.vars.length 1/\ev 15=.sl 4 (p.vars.map qu) .none/\ev 16=.int .i64 p.vars.length/\ev 17=.int .i64 d.length /\
  ∃H' b,σ=⟨H',T⟩/\KpL [] H H'/\H.length<=b/\ja b 2 qN H' (ev 5) ((vU p.vars a).take d.length)) ?_ ?_ ?_
 . exact⟨by simp[],by simp,by simp,by simp,_,H.length,rfl,qGe,qBs _,.inl ⟨by simp,by simp⟩⟩
 . rintro d v rest ev σ R E hd w z ⟨r,l,c,f,H',b,rfl,e,hb,i⟩;have Q:=wr (n:=(d.length:Int)+1);obtain⟨x,B⟩:∃x,a[d.length]?=some x:=⟨_,qBm (by omega)⟩;have a2:H'[A]?=some (.cells (zc a)):=e.2 _ _ X (by simp);have W:(zc a).drop d.length=.int .i64 x::(zc a).drop (d.length+1):=by
    obtain⟨h1,h2⟩:=qBk.1 (by rw[WF,B];rfl);rw[qBE h1,h2]
   have a1:d.length+1<=(zc a).length:=(by rw[qO];omega);have a3:d.length+1<=p.vars.length:=(by omega);have D:ja b 2 qN (H'++[.cells (qu v)]) (ev 5) ((vU p.vars a).take d.length):=i.keep fun y _ h=>qa h _
   obtain⟨v',b',C,J,O,S,a0,N⟩:=D.appendK (P:=prog) (G:=qW GG) (o:=⟨true,qf2,[],[]⟩) (T:=T) (m:=[⟨v.name,x⟩]) (tok:=.tight) qAG rfl qAF rfl (by omega) rfl (by decide) (fun x=>rfl) (by simp;omega);have L:KpL [] H C:=⟨by have:=e.1;simp at N;omega,fun k y F _=>a0 _ _ (qa (e.2 k y F (by simp)) _) (by
    have:=(qBk.1 F).1;right;omega)⟩
   simp only[qBz,qBS,qN,qu]at J D;generalize Z:ev 5=v5 at *;simp[-getElem?_pos,l,c,f,z,w];rw[qG rfl];simp[-getElem?_pos,qX,Z,J,r,f,z,qa a2,W,a1,qV,zt,qx,qe,qp,Q];refine E _ _ ⟨by simp[r],by simp[l],by simp[c],by simp,C,b',rfl,L,?_,?_⟩
   . rcases S with rfl|rfl
     . exact hb
     . have:=e.1;simp;omega
   have:=qlt w B;simp only[qBp,qBR];rw[this];simpa using O
 rintro ev σ ⟨r,l,c,f,H',b,rfl,e,hb,i⟩;simp[c,f];rw[qBr (by rw[U];exact qBs _)]at i;exact⟨rfl,e,b,by rw[j];exact i,hb⟩
def qmt(b:Nat)(H:List Blk)(v:AV)(a:List Int):Prop:=(a=[]/\∃sz tok,v=.sl sz [] tok)\/(a≠[]/\v=.ms b 0 a.length 1/\H[b]?=some (.cells (zc a)))
def qAI(a:List Int)(H:List Blk)(T:List (Option Nat))(r:AV)(σ':St):Prop:=σ'.T=T/\KpL [] H σ'.H/\∃b,qmt b σ'.H r a/\H.length<=b
def qpb{A t}(a)(f:a.length<=1000){H}(T)(c:a≠[]->H[A]?=some (.cells (zc a))):
 qh prog GG 99 [Jy A t a] ⟨H,T⟩ (qAI a H T):=by
 refine qFE ⟨true,[],[],[]⟩ func99 ?_;by_cases b:a=[]
 . subst b;simp[Jy,qY,zD,qm,qP,Zl,qR];exact⟨⟨rfl,qGd,H.length,.inl ⟨rfl,_,_,rfl⟩,qBs _⟩,⟨rfl,qGd,H.length,.inl ⟨rfl,_,_,rfl⟩,qBs _⟩⟩
 have e:Jy A t a=.ms A 0 a.length 1:=if_neg b;have d:=c b;have h1:(zc a).take a.length=zc a:=qBr (by rw[qO];exact qBs _);rw[e];simp[d,qY,zD,qP,Zl,qO,h1,show a.length<=549755813888 by omega,b];exact⟨rfl,qGe,H.length,.inr ⟨b,by simp⟩,qBs _⟩
def qpx(n):((BitVec.ofInt 64 n &&& 65535#64).toNat:Int)=n%65536:=by
 rw[BitVec.toNat_and,BitVec.toNat_ofInt];rw[show(65535#64).toNat=2^16-1 by decide,qDV];omega
def qx4{n}(h0:0<=n)(h1:n<=65535):IntKind.u16.wrap n=n:=by
 simp[IntKind.wrap,IntKind.bits,IntKind.signed];omega
def qi6(n):IntKind.u16.wrap n=n%65536:=by
 simp[IntKind.wrap,IntKind.bits,IntKind.signed]
def qwu(n):zV .and .i64 n 65535=some (.int .i64 (qB n)):=by
 have h2:=qpx n;have a:n%65536=qB n:=rfl;show some (AV.int .i64 (IntKind.i64.wrap ((BitVec.ofInt 64 n &&& 65535#64).toNat:Int)))=_;rw[h2,a,wr]
def W6(n):Pure prog GG 358 [.int .i64 n] (.int .u16 (qB n)):=by
 refine qF6 func358 ?_;have h1:=qA n;simp[-zV,qwu,ye,qx4 h1.1 h1.2]
def YM(n)(h0:0<=n)(h1:n<=65535):Pure prog GG 359 [.int .u16 n] (.int .i64 n):=by
 refine qF6 func359 ?_;simp[ye,show IntKind.i64.wrap n=n from wr]
def qqW(n):Pure prog GG 343 [.int .i64 n] (.int .i64 (qB n)):=by
 refine qF6 func343 ?_
 try simp
 refine qFQ (W6 n) ?_ rfl
 try simp
 refine qFQ (YM (qB n) (qA n).1 (qA n).2) ?_ rfl;simp
def qjw{f x b r}(a:qE x=true)(h0:0<=r)(h1:r<=65535)(h:Pure prog GG f [x,.int .u16 (qB b)] (.int .u16 r)):Pure prog GG 360 [.fn f [x] [],.int .i64 b] (.int .i64 r):=by
 refine qF6 func360 ?_
 try simp
 refine qFQ (W6 b) ?_ rfl
 try simp
 refine qFQ h ?_ (by simp[a])
 try simp
 refine qFQ (YM r h0 h1) ?_ rfl;simp
def qp7{f x r}(a:qE x=true)(h0:0<=r)(h1:r<=65535)(h:Pure prog GG f [x] (.int .u16 r)):Pure prog GG 383 [.fn f [x] []] (.int .i64 r):=by
 refine qF6 func383 ?_
 try simp
 refine qFQ h ?_ (by simp[a])
 try simp
 refine qFQ (YM r h0 h1) ?_ rfl;simp
def qq3(a b):Pure prog GG 361 [.int .u16 (qB a),.int .u16 (qB b)] (.int .u16 (qB (a+b))):=by
 refine qF6 func361 ?_;simp[zV,show IntKind.u16.wrap (qB a+qB b)=qB (a+b) by rw[qi6];unfold qB;omega]
def qqS(a b):Pure prog GG 387 [.int .u16 (qB a),.int .u16 (qB b)] (.int .u16 (qB (a-b))):=by
 refine qF6 func387 ?_;simp[zV,show IntKind.u16.wrap (qB a-qB b)=qB (a-b) by rw[qi6];unfold qB;omega]
def qbP(a b):qB (qB a*qB b)=qB (a*b):=by
 unfold qB;rw[<- qFv]
def qq0(a b):Pure prog GG 388 [.int .u16 (qB a),.int .u16 (qB b)] (.int .u16 (qB (a*b))):=by
 refine qF6 func388 ?_;simp[zV,show IntKind.u16.wrap (qB a*qB b)=qB (a*b) by rw[qi6];exact qbP a b]
def qqZ(a):Pure prog GG 385 [.int .u16 (qB a)] (.int .u16 (qB (0-a))):=by
 refine qF6 func385 ?_;have h:IntKind.u16.wrap (0-qB a)=qB (0-a):=by rw[qi6];unfold qB;omega
 simp at h⊢;simp[unA,h]
def qmF{n}(h0:0<=n)(h1:n<=65535):(((BitVec.ofInt 16 65535) ^^^ (BitVec.ofInt 16 n)).toNat:Int)=65535-n:=by
 rw[show BitVec.ofInt 16 65535=BitVec.allOnes 16 by decide,BitVec.allOnes_xor,BitVec.toNat_not,BitVec.toNat_ofInt];omega
def qq1(a):Pure prog GG 384 [.int .u16 (qB a)] (.int .u16 (65535-qB a)):=by
 refine qF6 func384 ?_;have b:=qA a;have h:=qmF b.1 b.2;have c:unA .xor (.int .u16 (qB a))=some (.int .u16 (65535-qB a)):=by
  unfold unA;simp only[];rw[show(if IntKind.u16.signed=true then(-1:Int) else IntKind.u16.max)=65535 by decide];show some (AV.int .u16 (IntKind.u16.wrap (((BitVec.ofInt 16 65535) ^^^ (BitVec.ofInt 16 (qB a))).toNat:Int)))=_;rw[h,show IntKind.u16.wrap (65535-qB a)=65535-qB a from qx4 (by omega) (by omega)]
 simp[-unA,c]
def qqG(a b):Pure prog GG 344 [.int .i64 a,.int .i64 b] (.int .i64 (qB (a+b))):=by
 refine qF6 func344 ?_
 try simp
 refine qFQ (W6 a) ?_ rfl
 try simp
 refine qFQ (qjw (by simp) (qA _).1 (qA _).2 (qq3 a b)) ?_ rfl;simp
def quB(a b):Pure prog GG 366 [.int .i64 a,.int .i64 b] (.int .i64 (qB (a-b))):=by
 refine qF6 func366 ?_
 try simp
 refine qFQ (W6 a) ?_ rfl
 try simp
 refine qFQ (qjw (by simp) (qA _).1 (qA _).2 (qqS a b)) ?_ rfl;simp
def qvk(a b):Pure prog GG 367 [.int .i64 a,.int .i64 b] (.int .i64 (qB (a*b))):=by
 refine qF6 func367 ?_
 try simp
 refine qFQ (W6 a) ?_ rfl
 try simp
 refine qFQ (qjw (by simp) (qA _).1 (qA _).2 (qq0 a b)) ?_ rfl;simp
def qvG(a):Pure prog GG 363 [.int .i64 a] (.int .i64 (65535-qB a)):=by
 refine qF6 func363 ?_;have b:=qA a
 try simp
 refine qFQ (W6 a) ?_ rfl
 try simp
 refine qFQ (qp7 (by simp) (by omega) (by omega) (qq1 a)) ?_ rfl;simp
def qvi(a):Pure prog GG 364 [.int .i64 a] (.int .i64 (qB (0-a))):=by
 refine qF6 func364 ?_
 try simp
 refine qFQ (W6 a) ?_ rfl
 try simp
 refine qFQ (qp7 (by simp) (qA _).1 (qA _).2 (qqZ a)) ?_ rfl;simp
def qtJ(a b:Int):Int:=if 0<=b/\b<16 then qB (a*2^b.toNat) else 0
def qpS(a b:Int):Int:=if 0<=b/\b<16 then qB a/2^b.toNat else 0
def qfJ{f x b r}(a:qE x=true)(h0:0<=r)(h1:r<=65535)(h:0<=b->b<16->Pure prog GG f [x,.int .i64 b] (.int .u16 r)):
 Pure prog GG 389 [.fn f [x] [],.int .i64 b] (.int .i64 (if 0<=b/\b<16 then r else 0)):=by
 refine qF6 func389 ?_;by_cases c0:b<0
 . rw[if_neg (by omega)];simp[c0]
 by_cases c1:16<=b
 . rw[if_neg (by omega)];simp[*]
 rw[if_pos (by omega)];simp[*];refine qFQ (h (by omega) (by omega)) ?_ (by simp[a])
 try simp
 refine qFQ (YM r h0 h1) ?_ rfl;simp
def Vc(a c):qB (qB a*c)=qB (a*c):=by
 unfold qB;rw[qFv,Int.emod_emod_of_dvd _ (Int.dvd_refl _),<- qFv]
def qqU(a b)(h0:0<=b)(h1:b<16):Pure prog GG 390 [.int .u16 (qB a),.int .i64 b] (.int .u16 (qB (a*2^b.toNat))):=by
 refine qF6 func390 ?_;simp[qpm,IntKind.bits,show min b.toNat 16=b.toNat by omega,show IntKind.u16.wrap (qB a*2^b.toNat)=qB (a*2^b.toNat) by rw[qi6];exact Vc a _,show ¬b<0 by omega]
def qqT(a b)(h0:0<=b)(h1:b<16):Pure prog GG 391 [.int .u16 (qB a),.int .i64 b] (.int .u16 (qB a/2^b.toNat)):=by
 refine qF6 func391 ?_;have c:(0:Int)<2^b.toNat:=qE6 (by omega);simp[qpm,IntKind.bits,show min b.toNat 16=b.toNat by omega,show(qB a).fdiv (2^b.toNat)=qB a/2^b.toNat from qDE _ (by omega),show ¬b<0 by omega]
def quI(a b):Pure prog GG 368 [.int .i64 a,.int .i64 b] (.int .i64 (qtJ a b)):=by
 refine qF6 func368 ?_
 try simp
 refine qFQ (W6 a) ?_ rfl
 try simp
 refine qFQ (qfJ (by simp) (qA _).1 (qA _).2 (qqU a b)) ?_ rfl;simp[qtJ]
def quH(a b):Pure prog GG 369 [.int .i64 a,.int .i64 b] (.int .i64 (qpS a b)):=by
 refine qF6 func369 ?_;have c:=KB b.toNat (qA a).1 (qA a).2
 try simp
 refine qFQ (W6 a) ?_ rfl
 try simp
 refine qFQ (qfJ (by simp) c.1 c.2 (qqT a b)) ?_ rfl;simp[qpS]
def qyl:List UInt8:=(List.range 256).map fun i=>UInt8.ofNat (yV i 8)
def qfB{i}(h:i<256):qyl[i]?=some (UInt8.ofNat (yV i 8)):=by simp[qyl,h]
def qgc(a):∀i,i<=8->yV (a%256) i=yV a i
 |0,_=>rfl
 | i+1,h=>by
  have h1:(a%256).testBit i=a.testBit i:=by
   rw[show 256=2^8 by decide,qEk];simp;omega
  simp only[yV,qgc a i (by omega),h1]
def qgd(a):∀i,yV a (8+i)=yV a 8+yV (a/256) i
 |0=>by simp[yV]
 | i+1=>by
  have h1:(a/256).testBit i=a.testBit (8+i):=by
   rw[show 256=2^8 by decide,qE1,qDn]
  show yV a (8+i+1)=_;simp only[yV,qgd a i,h1];omega
def qn9(a):yV a 16=yV (a/256) 8+yV (a%256) 8:=by
 rw[qgc a 8 (qBs _),show 16=8+8 by rfl,qgd];omega
def qAj:([0,1,1,2,1,2,2,3,1,2,2,3,2,3,3,4,1,2,2,3,2,3,3,4,2,3,3,4,3,4,4,5,1,2,2,3,2,3,3,4,2,3,3,4,3,4,4,5,2,3,3,4,3,4,4,5,3,4,4,5,4,5,5,6,1,2,2,3,2,3,3,4,2,3,3,4,3,4,4,5,2,3,3,4,3,4,4,5,3,4,4,5,4,5,5,6,2,3,3,4,3,4,4,5,3,4,4,5,4,5,5,6,3,4,4,5,4,5,5,6,4,5,5,6,5,6,6,7,1,2,2,3,2,3,3,4,2,3,3,4,3,4,4,5,2,3,3,4,3,4,4,5,3,4,4,5,4,5,5,6,2,3,3,4,3,4,4,5,3,4,4,5,4,5,5,6,3,4,4,5,4,5,5,6,4,5,5,6,5,6,6,7,2,3,3,4,3,4,4,5,3,4,4,5,4,5,5,6,3,4,4,5,4,5,5,6,4,5,5,6,5,6,6,7,3,4,4,5,4,5,5,6,4,5,5,6,5,6,6,7,4,5,5,6,5,6,6,7,5,6,6,7,6,7,7,8]:List UInt8)=qyl:=by decide +kernel
def qsc(a)(h0:0<=a)(h1:a<=65535):Pure prog GG 386 [.int .u16 a] (.int .i64 (yV a.toNat 16)):=by
 refine qF6 func386 ?_;obtain⟨n,rfl⟩:=qBG h0;have f:qpm (Dof prog) .shr 344 (.int .u16 (n:Int)) (.int .u64 8)=some (.int .u16 ((n/256:Nat):Int)):=by
  have e:(n:Int).fdiv (2^(min 8 IntKind.u16.bits))=((n/256:Nat):Int):=by
   show(n:Int).fdiv 256=_;rw[qDE _ (by omega)];omega
  show some (AV.int .u16 ((n:Int).fdiv (2^(min 8 IntKind.u16.bits))))=_;rw[e]
 have g:qpm (Dof prog) .and 344 (.int .u16 (n:Int)) (.int .u16 255)=some (.int .u16 ((n%256:Nat):Int)):=by
  have e:((BitVec.ofInt 16 (n:Int) &&& 255#16).toNat:Int)=((n%256:Nat):Int):=by
   rw[BitVec.toNat_and,BitVec.toNat_ofInt];have e:(255#16).toNat=2^8-1:=(by decide);rw[e,qDV];omega
  show some (AV.int .u16 (IntKind.u16.wrap ((BitVec.ofInt 16 (n:Int) &&& 255#16).toNat:Int)))=_;rw[e,qx4 (by omega) (by omega)]
 have r:=qfB (i:=n/256) (by omega);have o:=qfB (i:=n%256) (by omega);have c:=Z8 (n/256) 8;have d:=Z8 (n%256) 8;have b:=qn9 n;have u:∀x y:Nat,x<=8->y<=8->IntKind.u8.wrap (((x:Int)%256)+((y:Int)%256))=(x:Int)+y/\IntKind.i64.wrap ((x:Int)+y)=x+y:=by
  intro x y h j;refine⟨?_,wr⟩;simp[IntKind.wrap,IntKind.bits,IntKind.signed];omega
 obtain⟨m,l⟩:=u _ _ c d;rw[qBU,b];generalize n/256=p at *;generalize n%256=q at *;simp[*,qAj,-qpm,-zV];simp[*,ye]
def qsd(a):Pure prog GG 365 [.int .i64 a] (.int .i64 (yV (qB a).toNat 16)):=by
 refine qF6 func365 ?_
 try simp
 refine qFQ (W6 a) ?_ rfl
 try simp
 refine qFQ (qsc (qB a) (qA a).1 (qA a).2) ?_ rfl;simp
def qhz(n):n.tmod 65536=if 0<=n then n%65536 else -((-n)%65536):=by
 split
 . rename_i h;exact qCr h
 rename_i h;rw[show n.tmod 65536 = -((-n).tmod 65536) by rw[Int.neg_tmod];omega,qCr (by omega)]
def qer{n}(h:n<=16):(2:Int)^n<=65536/\(0:Int)<2^n:=by
 have h1:=qBF (n:=2) (by decide) h;have h2:=Nat.pow_pos (n:=n) (show 0<2 by decide);rw[show(2:Int)^n=((2^n:Nat):Int) by simp];omega
def jy(n):Pure prog GG 370 [.int .i64 n] (.int .i64 (qB n)):=by
 refine qF6 func370 ?_;have a:=qhz n;by_cases h:n.tmod 65536<0
 . have b:¬0<=n:=fun b=>by rw[if_pos b]at a;omega
   rw[if_neg b]at a;have h1:IntKind.i64.wrap (n.tmod 65536+65535)=n.tmod 65536+65535:=wr;have h2:IntKind.i64.wrap (n.tmod 65536+65535+1)=qB n:=by
    rw[wr];unfold qB;omega
   simp[h,h1,h2]
   try rw[<- h1,h2]
 have h2:n.tmod 65536=qB n:=by
  unfold qB;split at a<;>omega
 simp[zV,h];exact h2
def qkc(a b):Pure prog GG 352 [.int .i64 a,.int .i64 b] (.int .i64 (qB (a+b))):=by
 refine qF6 func352 ?_;have c:=qA a;have hb:=qA b
 try simp
 refine qFQ (jy a) ?_ rfl
 try simp
 refine qFQ (jy b) ?_ rfl;simp[show IntKind.i64.wrap (qB a+qB b)=qB a+qB b from wr];refine qFQ (jy _) ?_ rfl;simp[show qB (qB a+qB b)=qB (a+b) by unfold qB;omega]
def qrF(a b):Pure prog GG 376 [.int .i64 a,.int .i64 b] (.int .i64 (qB (a-b))):=by
 refine qF6 func376 ?_;have c:=qA a;have hb:=qA b
 try simp
 refine qFQ (jy a) ?_ rfl
 try simp
 refine qFQ (jy b) ?_ rfl;simp[show IntKind.i64.wrap (qB a-qB b)=qB a-qB b from wr];refine qFQ (jy _) ?_ rfl;simp[show qB (qB a-qB b)=qB (a-b) by unfold qB;omega]
def qcK{a b c d:Int}(g:0<=a)(h:a<=c)(e:0<=b)(f:b<=d):0<=a*b/\a*b<=c*d :=
 ⟨Int.mul_nonneg g e,Int.mul_le_mul h f e (by omega)⟩
def qrK(a b):Pure prog GG 377 [.int .i64 a,.int .i64 b] (.int .i64 (qB (a*b))):=by
 refine qF6 func377 ?_;have c:=qA a;have hb:=qA b;have d:=qcK c.1 c.2 hb.1 hb.2;have h2:=qbP a b
 try simp
 refine qFQ (jy a) ?_ rfl
 try simp
 refine qFQ (jy b) ?_ rfl;simp[show IntKind.i64.wrap (qB a*qB b)=qB a*qB b from wr];refine qFQ (jy _) ?_ rfl;simp[h2]
def qrN(a):Pure prog GG 373 [.int .i64 a] (.int .i64 (65535-qB a)):=by
 refine qF6 func373 ?_;have b:=qA a
 try simp
 refine qFQ (jy a) ?_ rfl;simp[show IntKind.i64.wrap (65535-qB a)=65535-qB a from wr]
def qrI(a):Pure prog GG 374 [.int .i64 a] (.int .i64 (qB (0-a))):=by
 refine qF6 func374 ?_;have b:=qA a
 try simp
 refine qFQ (jy a) ?_ rfl;simp[show IntKind.i64.wrap (-qB a) = -qB a from wr];refine qFQ (jy _) ?_ rfl;simp[show qB (-qB a)=qB (-a) by unfold qB;omega]
def qcq(n:Nat)(f:n<=16):Pure prog GG 394 [.int .i64 n] (.int .i64 (2^n)):=by
 refine qF6 func394 ?_;simp;refine qF3 (fun q env σ=>∃i:Nat,i<=n/\q=n-i/\env 0=.int .i64 n/\env 3=.int .i64 (2^i)/\env 4=.int .i64 i/\σ=⟨[],[]⟩) n ⟨0,by simp⟩ ?_;rintro q env σ ⟨i,hi,rfl,h0,e,d,rfl⟩;by_cases h:i<n
 . have g:(i:Int)<n:=(by omega);obtain⟨b,c⟩:=qer (n:=i) (by omega);simp[*];exact⟨_,by omega,i+1,by omega,rfl,(by rw[wr,Int.pow_succ];omega),wr⟩
 have a:i=n:=by omega
 subst a;simp[*]
def qrH(a b):Pure prog GG 381 [.int .i64 a,.int .i64 b] (.int .i64 (qtJ a b)):=by
 refine qF6 func381 ?_;unfold qtJ;by_cases c0:b<0
 . rw[if_neg (by omega)];simp[c0]
 by_cases c1:15<b
 . rw[if_neg (by omega)];simp[*]
 rw[if_pos (by omega)];obtain⟨n,rfl⟩:=qBG (show 0<=b by omega);have c:=qA a;obtain⟨d,e⟩:=qer (n:=n) (by omega);have f:=qcK c.1 c.2 (qEV e) d;have h2:=Vc a (2^n);simp[c1,show ¬(n:Int)<0 by omega];refine qFQ (jy a) ?_ rfl
 try simp
 refine qFQ (qcq n (by omega)) ?_ rfl;simp[show IntKind.i64.wrap (qB a*2^n)=qB a*2^n from wr];refine qFQ (jy _) ?_ rfl;simp[h2]
def qjX(a b):Pure prog GG 382 [.int .i64 a,.int .i64 b] (.int .i64 (qpS a b)):=by
 refine qF6 func382 ?_;unfold qpS;by_cases c0:b<0
 . rw[if_neg (by omega)];simp[c0]
 by_cases c1:15<b
 . rw[if_neg (by omega)];simp[*]
 rw[if_pos (by omega)];obtain⟨n,rfl⟩:=qBG (show 0<=b by omega);have c:=qA a;obtain⟨e,f⟩:=qer (n:=n) (by omega);have d:=KB n c.1 c.2;simp[c1,show ¬(n:Int)<0 by omega];refine qFQ (jy a) ?_ rfl
 try simp
 refine qFQ (qcq n (by omega)) ?_ rfl;simp[qCT c.1,show IntKind.i64.wrap (qB a/2^n)=qB a/2^n from wr,show ¬((2:Int)^n=0) by omega]
def qqB(a n):(a/2^n)%2=if a.testBit n=true then 1 else 0:=by
 rw[qEm];have:=qEK (a/2^n);rcases this with h|h<;>simp[h]
def qj8(a:Int)(n:Nat)(f:n<16):Pure prog GG 392 [.int .i64 a,.int .i64 n] (.int .i64 (if(qB a).toNat.testBit n=true then 1 else 0)):=by
 refine qF6 func392 ?_
 try simp
 refine qFQ (qjX a n) ?_ rfl;have b:=qA a;have c:(qB a/2^n).tmod 2=(if(qB a).toNat.testBit n=true then 1 else 0):=by
  obtain⟨m,d⟩:=qBG b.1;rw[d];have hb:=qqB m n;have e:∀q:Nat,(q:Int).tmod 2=((q%2:Nat):Int):=fun q=>by
   rw[qCr (by omega)];omega
  rw[show((m:Int)/2^n)=((m/2^n:Nat):Int) by simp,e,qBU,hb];split<;>rfl
 rw[show qpS a n=qB a/2^n by unfold qpS;rw[if_pos (by omega)];simp];simp[c]
def qns(a):Pure prog GG 375 [.int .i64 a] (.int .i64 (yV (qB a).toNat 16)):=by
 refine qF6 func375 ?_;simp;refine qF3 (fun q env σ=>∃i:Nat,i<=16/\q=16-i/\env 0=.int .i64 a/\env 3=.int .i64 (yV (qB a).toNat i)/\env 4=.int .i64 i/\σ=⟨[],[]⟩) 16 ⟨0,by simp[yV]⟩ ?_;rintro q env σ ⟨i,hi,rfl,h0,g,f,rfl⟩;by_cases c:i<16
 . have h:(i:Int)<16:=(by omega);have e:=Z8 (qB a).toNat i;simp[*];refine qFQ (qj8 a i c) ?_ rfl;have b:IntKind.i64.wrap ((yV (qB a).toNat i:Int)+(if(qB a).toNat.testBit i=true then 1 else 0))=(yV (qB a).toNat (i+1):Int):=by
    rw[wr (by split<;>omega) (by split<;>omega)];simp only[yV];split<;>simp
   simp[b];exact⟨_,by omega,i+1,by omega,rfl,rfl,wr⟩
 have d:i=16:=by omega
 subst d;simp[*]
def qfb(a b:Int):(a==b)=decide (a=b):=by
 by_cases h:a=b
 . subst h;simp
 rw[decide_eq_false h];exact beq_eq_false_iff_ne.2 h
def QC(a b:Int):(a != b) = !decide (a=b):=by rw[bne,qfb]
def yN(b):Pure prog GG 362 [.bool b] (.int .i64 (b2i b)):=by
 refine qF6 func362 ?_;cases b<;>simp[b2i]
def ya(b):Pure prog GG 372 [.bool b] (.int .i64 (b2i b)):=by
 refine qF6 func372 ?_;cases b<;>simp[b2i]
def ql5(a b:Int):b2i (a==b)=b2i (decide (a=b)):=by
 have e:(a==b)=decide (a=b):=by
  by_cases h:a=b
  . subst h;simp
  rw[decide_eq_false h];exact beq_eq_false_iff_ne.2 h
 rw[e]
def qjK(op a):Pure prog GG 345 [.int .i64 op,.int .i64 a] (.int .i64 (unW op a)):=by
 refine qF6 func345 ?_;by_cases b:op=4
 . subst b;simp;refine qFQ (yN _) ?_ rfl;simp[unW,ql5]
 by_cases d:op=5
 . subst d;simp;refine qFQ (qvG a) ?_ rfl;simp[unW]
 by_cases c:op=6
 . subst c;simp;refine qFQ (qvi a) ?_ rfl;simp[unW]
 simp[*];refine qFQ (qsd a) ?_ rfl;simp[*,unW]
def qjW(op a):Pure prog GG 353 [.int .i64 op,.int .i64 a] (.int .i64 (unW op a)):=by
 refine qF6 func353 ?_;by_cases b:op=4
 . subst b;simp;refine qFQ (ya _) ?_ rfl;simp[unW,ql5]
 by_cases d:op=5
 . subst d;simp;refine qFQ (qrN a) ?_ rfl;simp[unW]
 by_cases c:op=6
 . subst c;simp;refine qFQ (qrI a) ?_ rfl;simp[unW]
 simp[*];refine qFQ (qns a) ?_ rfl;simp[*,unW]
def qsp{x y:Nat}(c:x<65536)(d:y<65536):zV .and .i64 (x:Int) (y:Int)=some (.int .i64 ((x &&& y:Nat):Int)):=by
 have h:=qEF (n:=16) x (y:=y) (by omega);have a:(BitVec.ofInt IntKind.i64.bits (x:Int)).toNat=x:=by
  show(BitVec.ofInt 64 (x:Int)).toNat=x;rw[BitVec.toNat_ofInt];omega
 have b:(BitVec.ofInt IntKind.i64.bits (y:Int)).toNat=y:=by
  show(BitVec.ofInt 64 (y:Int)).toNat=y;rw[BitVec.toNat_ofInt];omega
 show some (AV.int .i64 (IntKind.i64.wrap ((BitVec.ofInt IntKind.i64.bits (x:Int) &&& BitVec.ofInt IntKind.i64.bits (y:Int)).toNat:Int)))=_;rw[BitVec.toNat_and,a,b,wr]
def qvj{x y:Nat}(c:x<65536)(d:y<65536):zV .or .i64 (x:Int) (y:Int)=some (.int .i64 ((x ||| y:Nat):Int)):=by
 have h:=qEL (n:=16) (x:=x) (y:=y) (by omega) (by omega);have a:(BitVec.ofInt IntKind.i64.bits (x:Int)).toNat=x:=by
  show(BitVec.ofInt 64 (x:Int)).toNat=x;rw[BitVec.toNat_ofInt];omega
 have b:(BitVec.ofInt IntKind.i64.bits (y:Int)).toNat=y:=by
  show(BitVec.ofInt 64 (y:Int)).toNat=y;rw[BitVec.toNat_ofInt];omega
 show some (AV.int .i64 (IntKind.i64.wrap ((BitVec.ofInt IntKind.i64.bits (x:Int) ||| BitVec.ofInt IntKind.i64.bits (y:Int)).toNat:Int)))=_;rw[BitVec.toNat_or,a,b,wr]
def qso{x y:Nat}(c:x<65536)(d:y<65536):zV .xor .i64 (x:Int) (y:Int)=some (.int .i64 ((x ^^^ y:Nat):Int)):=by
 have h:=qEG (n:=16) (x:=x) (y:=y) (by omega) (by omega);have a:(BitVec.ofInt IntKind.i64.bits (x:Int)).toNat=x:=by
  show(BitVec.ofInt 64 (x:Int)).toNat=x;rw[BitVec.toNat_ofInt];omega
 have b:(BitVec.ofInt IntKind.i64.bits (y:Int)).toNat=y:=by
  show(BitVec.ofInt 64 (y:Int)).toNat=y;rw[BitVec.toNat_ofInt];omega
 show some (AV.int .i64 (IntKind.i64.wrap ((BitVec.ofInt IntKind.i64.bits (x:Int) ^^^ BitVec.ofInt IntKind.i64.bits (y:Int)).toNat:Int)))=_;rw[BitVec.toNat_xor,a,b,wr]
def qad(x i:Nat):Int:=if x.testBit i=true then 1 else 0
def qac(x i):0<=qad x i/\qad x i<=1:=by unfold qad;split<;>omega
def qfU(x i:Nat)(a:x<65536)(hi:i<16):Pure prog GG 392 [.int .i64 x,.int .i64 i] (.int .i64 (qad x i)):=by
 have h:=qj8 (x:Int) i hi;rw[QF (by omega) (by omega)]at h;simpa[qad] using h
def qaL(x y:Nat)(lo hi:Int)(X:Nat)(f:x<65536)(m:y<65536)(s:X<65536)(h:∀i,i<16->X.testBit i=decide (lo<=qad x i+qad y i/\qad x i+qad y i<=hi)):
 Pure prog GG 393 [.int .i64 x,.int .i64 y,.int .i64 lo,.int .i64 hi] (.int .i64 X):=by
 refine qF6 func393 ?_;simp;refine qF3 (fun q env σ=>q<=16/\env 0=.int .i64 x/\env 1=.int .i64 y/\env 2=.int .i64 lo/\env 3=.int .i64 hi/\env 9=.int .i64 ((X/2^q:Nat):Int)/\env 10=.int .i64 ((q:Int)-1)/\σ=⟨[],[]⟩) 16 ⟨by simp,by simp,by simp,by simp,by simp,by simp;omega,by simp⟩ ?_;rintro q env σ ⟨w,h0,h1,h2,o,d,e,rfl⟩
 cases q with
 | zero=>
  simp at d e;simp[*]
 | succ i=>
  have c:i<16:=by omega
  rw[show((i+1:Nat):Int)-1=i by omega]at e;have r:=qac x i;have u:=qac y i;have t:IntKind.i64.wrap (qad x i+qad y i)=qad x i+qad y i:=wr;have a:=h i c;have hd:X/2^i=2*(X/2^(i+1))+(if X.testBit i=true then 1 else 0):=by
   rw[<- qqB,qDA,<- Nat.div_div_eq_div_mul];omega
  have j:X/2^i<=X:=qDr _ _;have g:IntKind.i64.wrap (2*((X/2^(i+1):Nat):Int))=((2*(X/2^(i+1)):Nat):Int):=by
   rw[wr];omega
  have v:IntKind.i64.wrap ((i:Int)-1)=(i:Int)-1:=wr;generalize X/2^(i+1)=A at d hd g;generalize l:X/2^i=B at hd j;have b:(X:Int)/2^i=(B:Int):=by rw[<- l];simp
  simp[*];refine qFQ (qfU x i f c) ?_ rfl
  try simp[*]
  refine qFQ (qfU y i m c) ?_ rfl;by_cases c1:lo<=qad x i+qad y i
  . by_cases c2:qad x i+qad y i<=hi
    . rw[decide_eq_true (⟨c1,c2⟩:_/\_)]at a;rw[a]at hd;simp at hd;simp[*];exact⟨i,by omega,by omega,by rw[b,wr];omega,rfl⟩
    . rw[decide_eq_false (fun h=>c2 h.2)]at a;rw[a]at hd;simp at hd;simp[*];exact⟨i,by omega,by omega,by rw[b];omega,rfl⟩
  rw[decide_eq_false (fun h=>c1 h.1)]at a;rw[a]at hd;simp at hd;simp[*];exact⟨i,by omega,by omega,by rw[b];omega,rfl⟩
def qrS(x y:Nat)(b:x<65536)(a:y<65536):Pure prog GG 378 [.int .i64 x,.int .i64 y] (.int .i64 ((x &&& y:Nat):Int)):=by
 refine qF6 func378 ?_;simp;refine qFQ (qaL x y 2 2 (x &&& y) b a (qEF (n:=16) x a) fun i hi=>?_) ?_ rfl
 . rw[Nat.testBit_and];unfold qad;cases x.testBit i<;>cases y.testBit i<;>rfl
 simp
def quP(x y:Nat)(a:x<65536)(b:y<65536):Pure prog GG 379 [.int .i64 x,.int .i64 y] (.int .i64 ((x ||| y:Nat):Int)):=by
 refine qF6 func379 ?_;simp;refine qFQ (qaL x y 1 2 (x ||| y) a b (qEL (n:=16) a b) fun i hi=>?_) ?_ rfl
 . rw[Nat.testBit_or];unfold qad;cases x.testBit i<;>cases y.testBit i<;>rfl
 simp
def qrE(x y:Nat)(a:x<65536)(b:y<65536):Pure prog GG 380 [.int .i64 x,.int .i64 y] (.int .i64 ((x ^^^ y:Nat):Int)):=by
 refine qF6 func380 ?_;simp;refine qFQ (qaL x y 1 1 (x ^^^ y) a b (qEG (n:=16) a b) fun i hi=>?_) ?_ rfl
 . rw[Nat.testBit_xor];unfold qad;cases x.testBit i<;>cases y.testBit i<;>rfl
 simp
def Zh(env:List Signal)(name:Str):AV:=.tup [.int .i64 ((ji env name).getD 0),.bool (ji env name).isSome]
def qgK{env name i s}(h:env[i]?=some s)(a:∀x∈env.take i,x.name≠name)(c:s.name=name):ji env name=some (qB s.value):=by
 have e:env=env.take i++s::env.drop (i+1):=by
  rw[<- zn h,qB9]
 unfold ji;have d:(env.take i).find? (fun s=>s.name==name)=none:=by
  rw[qDU];intro x b;simpa using a x b
 rw[e,qEM,d];simp[c]
def V5{env name}(h:∀x∈env,x.name≠name):ji env name=none:=by
 unfold ji;have a:env.find? (fun s=>s.name==name)=none:=by
  rw[qDU];intro x b;simpa using h x b
 rw[a];rfl
def qeS(env:List Signal)(name:Str)(l:Fits env):Pure prog GG 321 [.agg [.sl 2 (env.map qN) .none],.str name] (Zh env name):=by
 refine qF6 func321 ?_;simp;refine qF3 (fun n e σ=>∃i b,i<=env.length/\n=env.length-i/\e 1=.str name/\e 9=.sl 2 (env.map qN) .none/\e 10=.int .i64 env.length/\e 11=.int .i64 i/\σ=⟨b,[]⟩/\∀x∈env.take i,x.name≠name) env.length ⟨0,_,by simp,by simp,by simp,by simp,by simp,by simp,rfl,by simp⟩ ?_;rintro n e σ ⟨i,b,hi,rfl,h1,f,h,g,rfl,a⟩
 cases hv:env[i]? with
 | some s=>
  obtain⟨d,j⟩:=qBk.1 hv;by_cases c:s.name=name
  . have x:=qgK hv a c;simp[*,qB8];refine qFQ (qqW s.value) ?_ rfl;simp[Zh,x]
  simp[*,qB8];exact⟨_,by omega,i+1,by omega,rfl,wr,zf hv a c⟩
 | none=>
  have d:¬i<env.length:=by simp at hv;omega
  rw[show env.take i=env from qBr (by omega)]at a;have x:=V5 a;simp[*,Zh,x]
def qaI(env:List Signal)(name:Str)(g:Fits env):Pure prog GG 349 [.sl 2 (env.map qN) .none,.str name] (Zh env name):=by
 refine qF6 func349 ?_;simp;refine qF3 (fun n e σ=>∃i,i<=env.length/\n=env.length-i/\e 0=.sl 2 (env.map qN) .none/\e 1=.str name/\e 6=.int .i64 i/\σ=⟨[],[]⟩/\∀x∈env.take i,x.name≠name) env.length ⟨0,by simp⟩ ?_;rintro n e σ ⟨i,hi,rfl,h0,h1,d,rfl,a⟩
 cases hv:env[i]? with
 | some s=>
  obtain⟨c,f⟩:=qBk.1 hv;by_cases b:s.name=name
  . have x:=qgK hv a b;simp[*];refine qFQ (jy s.value) ?_ rfl;simp[Zh,x]
  simp[*];exact⟨_,by omega,i+1,by omega,rfl,wr,zf hv a b⟩
 | none=>
  have c:¬i<env.length:=by simp at hv;omega
  rw[show env.take i=env from qBr (by omega)]at a;have x:=V5 a;simp[*,Zh,x]
def atR(env:List Signal)(a:Str)(i:Int):AV:=if 0<=i/\i<8 then Zh env (zX a i.toNat) else .tup [.int .i64 0,.bool false]
def qtk(env:List Signal)(a:Str)(i:Int)(f:Fits env)(g:a.length<=1000):Pure prog GG 322 [.agg [.sl 2 (env.map qN) .none],.str a,.int .i64 i] (atR env a i):=by
 refine qF6 func322 ?_;unfold atR;by_cases c0:i<0
 . rw[if_neg (by omega)];simp[c0]
 by_cases c1:8<=i
 . rw[if_neg (by omega)];simp[*]
 rw[if_pos (by omega)];obtain⟨n,rfl⟩:=qBG (show 0<=i by omega);have b:a++[91,UInt8.ofNat (48+n),93]=zX a n:=rfl;have e:=qeS env (zX a n) f;have c:IntKind.u8.wrap (48+(n:Int))=((48+n:Nat):Int):=by rw[<- show IntKind.u8.wrap ((48+n:Nat):Int)=((48+n:Nat):Int) by simp[IntKind.wrap,IntKind.bits,IntKind.signed];omega];congr 1
 have d:UInt8.ofNat (((48+n:Nat):Int)).toNat=UInt8.ofNat (48+n):=by rw[qBU]
 simp[c0,c1,show a.length+1<=4611686018427387904 by omega,show a.length+(1+1)<=4611686018427387904 by omega,show a.length+(1+(1+1))<=4611686018427387904 by omega,show IntKind.i64.wrap (48+(n:Int))=((48+n:Nat):Int) by rw[wr];omega,ye,qe,qp,bytesOf];rw[show UInt8.ofNat (IntKind.u8.wrap (48+(n:Int))).toNat=UInt8.ofNat (48+n) by rw[c,d],b];refine qFQ e ?_;simp[Zh]
def qfd{env a i}:∃b,atR env a i=.tup [.int .i64 (atV env a i),.bool b]/\(i=0->b=(ji env (zX a 0)).isSome):=by
 unfold atR atV;by_cases h:0<=i/\i<8
 . rw[if_pos h,if_pos h];exact⟨_,rfl,fun e=>by subst e;rfl⟩
 rw[if_neg h,if_neg h];exact⟨false,rfl,fun e=>absurd (by omega) h⟩
def quA(env:List Signal)(a:Str)(g:Fits env)(f:a.length<=1000):Pure prog GG 323 [.agg [.sl 2 (env.map qN) .none],.str a] (.int .i64 (qmy env a 8)):=by
 refine qF6 func323 ?_;simp;refine qF3 (fun n e σ=>∃i:Nat,i<=8/\n=8-i/\e 1=.str a/\e 2=.ptr 0 0/\e 5=.int .i64 (qmy env a i)/\e 9=.int .i64 i/\σ=⟨[.cells [.sl 2 (env.map qN) .none]],[]⟩) 8 ⟨0,by simp[qmy]⟩ ?_;rintro n e σ ⟨i,hi,rfl,h1,h2,j,c,rfl⟩;by_cases m:i<8
 . have l:(i:Int)<8:=(by omega);obtain⟨b,hb,_⟩:=qfd (env:=env) (a:=a) (i:=i);have d:=qtk env a i g f;rw[hb]at d;simp[*];refine qFQ d ?_;simp[c];refine qFQ (qqG _ _) ?_ rfl;simp[c];exact⟨_,by omega,i+1,by omega,rfl,rfl,wr⟩
 have h:i=8:=by omega
 subst h;simp[*]
def qj6:∀(i:Nat),i<8->Pure prog GG 371 [.int .i64 i] (.str [UInt8.ofNat (48+i)]):=by
 intro i hi;refine qF6 func371 ?_;have key:i=0\/i=1\/i=2\/i=3\/i=4\/i=5\/i=6\/i=7:=by omega
 rcases key with rfl|rfl|rfl|rfl|rfl|rfl|rfl|rfl<;>simp[zm,zM,show IntKind.i64.wrap 1=1 from wr,show IntKind.i64.wrap 2=2 from wr,show IntKind.i64.wrap 3=3 from wr,show IntKind.i64.wrap 4=4 from wr,show IntKind.i64.wrap 5=5 from wr,show IntKind.i64.wrap 6=6 from wr,show IntKind.i64.wrap 7=7 from wr,show IntKind.i64.wrap 8=8 from wr]
def qfT(a:Str)(i:Nat)(hi:i<8)(b:a.length<=1000):Pure prog GG 350 [.str a,.int .i64 i] (.str (zX a i)):=by
 refine qF6 func350 ?_;simp[show a.length+1<=4611686018427387904 by omega];refine qFQ (qj6 i hi) ?_ rfl;simp[show a.length+(1+1)<=4611686018427387904 by omega,show a.length+(1+(1+1))<=4611686018427387904 by omega,zX]
def KO(env:List Signal)(a:Str)(i:Int)(c:Fits env)(b:a.length<=1000):Pure prog GG 351 [.sl 2 (env.map qN) .none,.str a,.int .i64 i] (.int .i64 (atV env a i)):=by
 refine qF6 func351 ?_;unfold atV;by_cases c0:i<0
 . rw[if_neg (by omega)];simp[c0]
 by_cases c1:8<=i
 . rw[if_neg (by omega)];simp[*]
 rw[if_pos (by omega)];obtain⟨n,rfl⟩:=qBG (show 0<=i by omega);simp[*];refine qFQ (qfT a n (by omega) b) ?_ rfl
 try simp
 refine qFQ (qaI env (zX a n) c) ?_;simp[Zh]
def Wj(k a b):zV .eql k a b=some (.bool (a==b)):=rfl
def qlA(op:Int)(x y:Nat)(t:x<65536)(u:y<65536):Pure prog GG 346 [.int .i64 op,.int .i64 x,.int .i64 y] (.int .i64 (jW op x y)):=by
 refine qF6 func346 ?_;have n1:=qsp t u;have w:=qvj t u;have v:=qso t u;by_cases b:op=7
 . subst b;simp;refine qFQ (qqG x y) ?_ rfl;simp[jW]
 by_cases g:op=8
 . subst g;simp;refine qFQ (quB x y) ?_ rfl;simp[jW]
 by_cases f:op=9
 . subst f;simp;refine qFQ (qvk x y) ?_ rfl;simp[jW]
 by_cases m:op=10
 . subst m;have hb:jW 10 x y=((x &&& y:Nat):Int):=(by simp[jW]);rw[hb];simp[n1,Wj,-zV]
 by_cases l:op=11
 . subst l;have hb:jW 11 x y=((x ||| y:Nat):Int):=(by simp[jW]);rw[hb];simp[w,Wj,-zV]
 by_cases s:op=12
 . subst s;have hb:jW 12 x y=((x ^^^ y:Nat):Int):=(by simp[jW]);rw[hb];simp[v,Wj,-zV]
 by_cases d:op=13
 . subst d;simp;refine qFQ (quI x y) ?_ rfl;simp[jW,qtJ]
 by_cases o:op=14
 . subst o;simp;refine qFQ (quH x y) ?_ rfl;simp[jW,qpS]
 by_cases e:op=15
 . subst e;simp;refine qFQ (yN _) ?_ rfl
   try simp only[qfb]
   by_cases h:x=y<;>simp[jW,h]
 by_cases j:op=16
 . subst j;simp;refine qFQ (yN _) ?_ rfl
   try simp only[QC]
   by_cases h:x=y<;>simp[jW,h]
 by_cases a:op=17
 . subst a;simp;refine qFQ (yN _) ?_ rfl;by_cases h:x<y<;>simp[jW,h]
 by_cases r:op=18
 . subst r;simp;refine qFQ (yN _) ?_ rfl;by_cases h:x<=y<;>simp[jW,h]
 by_cases c:op=19
 . subst c;by_cases h:x=0
   . simp[h];refine qFQ (yN _) ?_ rfl;simp[jW]
   simp[h];refine qFQ (yN _) ?_ rfl
   (try simp only[QC]);by_cases h':y=0<;>simp[jW,h,h']
 by_cases i:op=20
 . subst i;by_cases h:x=0
   . simp[h];refine qFQ (yN _) ?_ rfl
     (try simp only[QC]);by_cases h':y=0<;>simp[jW,h']
   simp[h];refine qFQ (yN _) ?_ rfl;simp[jW,h]
 rw[show jW op x y=b2i (decide ((x:Int)=0)||!decide ((y:Int)=0)) by simp[jW,b,g,f,m,l,s,d,o,e,j,a,r,c,i]];by_cases h:x=0
 . simp[b,g,f,m,l,s,d,o,e,j,a,r,c,i,h];refine qFQ (yN _) ?_ rfl;simp
 simp[b,g,f,m,l,s,d,o,e,j,a,r,c,i,h];refine qFQ (yN _) ?_ rfl
 try simp only[QC]
 by_cases h':y=0<;>simp[h']
def qvc{op a}(c:op≠22)(b:op≠23):opW op [a]=unW op a:=by simp[*,opW]
def qvb{op a b}(d:op≠22)(c:op≠23):opW op [a,b]=jW op a b:=by simp[*,opW]
def qga{l}:opW 22 l=if l.getD 0 0≠0 then l.getD 1 0 else l.getD 2 0:=by simp[opW]
def qp6{l}:opW 23 l=b2i (jj (l.getD 0 0) l.tail):=by simp[opW]
def Yl{a x y r}:jj a (x::y::r)=((decide (x<=a)&&decide (a<=y))||jj a r):=by simp[jj]
def Jg{a r}(h:r.length<2):jj a r=false:=by
 match r,h with
 |[],_=>rfl
 |[x],_=>rfl
 |x::y::r,h=>simp at h;omega
def qfk{α:Type}{p:α->Bool}{l:List α}{a:α}(h:a∈l)(b:p a=false):l.all p=false:=by
 rw[qCs];intro e;rw[qBx.1 e a h]at b;cases b
def qvr{l:List Int}(h:l.length=3):∃a b c,l=[a,b,c]:=by
 match l,h with
 |[a,b,c],_=>exact⟨a,b,c,rfl⟩
def qst{l:List Int}(h:l.length=1):∃a,l=[a]:=by
 match l,h with
 |[a],_=>exact⟨a,rfl⟩
def qvs{l:List Int}(h:l.length=2):∃a b,l=[a,b]:=by
 match l,h with
 |[a,b],_=>exact⟨a,b,rfl⟩
def qhY(op l)(g:∀v∈l,0<=v/\v<=65535)(t:op=22->l.length=3)(w:op=23->3<=l.length/\l.length<=33)(z:op≠22->op≠23->l.length=1\/l.length=2):
 Pure prog GG 324 [.int .i64 op,.sl 1 (l.map qf) .none] (.int .i64 (opW op l)):=by
 refine qF6 func324 ?_;by_cases f:op=22
 . obtain⟨a,b,c,rfl⟩:=qvr (t f);subst f;by_cases m:a=0
   . simp[m,qga]
   simp[m,qga]
 by_cases e:op=23
 . obtain⟨I,R⟩:=w e;subst e;obtain⟨a,j⟩:∃a,l[0]?=some a:=⟨_,qBm (by omega)⟩;obtain⟨G,F⟩:=qBk.1 j;have u:opW 23 l=b2i (jj a (l.drop 1)):=by
    rw[qp6,qBw,j];simp
   rw[u];generalize C:jj a (l.drop 1)=T;simp;refine qF3 (fun n env σ=>∃i:Nat,1<=i/\i<=l.length+1/\n=l.length+1-i/\env 1=.sl 1 (l.map qf) .none/\env 5=.int .i64 i/\σ=⟨[],[]⟩/\jj a (l.drop i)=T) l.length ⟨1,by simp,by omega,by omega,by simp,by simp,rfl,C⟩ ?_;rintro n env σ ⟨i,O,L,rfl,h1,D,rfl,d⟩;have S:IntKind.i64.wrap ((i:Int)+1)=(i:Int)+1:=wr;have Q:IntKind.i64.wrap ((i:Int)+2)=((i+2:Nat):Int):=(by rw[wr];omega);have n1:((i:Int)+1).toNat=i+1:=(by omega);have p1:(0:Int)<=(i:Int)+1:=(by omega);by_cases P:i+1<l.length
   . obtain⟨x,r⟩:∃x,l[i]?=some x:=⟨_,qBm (by omega)⟩;obtain⟨y,o⟩:∃y,l[i+1]?=some y:=⟨_,qBm (by omega)⟩;obtain⟨K,N⟩:=qBk.1 r;obtain⟨J,E⟩:=qBk.1 o;rw[zn r,zn o,Yl]at d;have B:(i:Int)+1<l.length:=(by omega);by_cases c1:x<=a
     . by_cases c2:a<=y
       . have s:T=true:=(by rw[<- d];simp[*]);rw[s];simp[*,p1,b2i]
       . have d:jj a (l.drop (i+2))=T:=(by rw[<- d];simp[*]);simp[*,p1];exact⟨_,by omega,i+2,by omega,by omega,rfl,by omega,d⟩
     have d:jj a (l.drop (i+2))=T:=(by rw[<- d];simp[c1]);simp[*];exact⟨_,by omega,i+2,by omega,by omega,rfl,by omega,d⟩
   have B:¬(i:Int)+1<l.length:=(by omega);rw[show T=false by rw[<- d];exact Jg (by simp;omega)];simp[*,b2i]
 rcases z f e with h|h
 . obtain⟨a,rfl⟩:=qst h;rw[qvc f e];simp[*];refine qFQ (qjK op a) ?_ rfl;simp
 obtain⟨a,b,rfl⟩:=qvs h;obtain⟨A,M⟩:=g a (by simp);obtain⟨b0,b1⟩:=g b (by simp);obtain⟨x,rfl⟩:=qBG A;obtain⟨y,rfl⟩:=qBG b0;rw[qvb f e];simp[*];refine qFQ (qlA op x y (by omega) (by omega)) ?_ rfl;simp
def qaO(s:List Int):AV:=match s with
 |[]=>.sl 0 [] .nil
 |a::r=>.sl 1 ((a::r).map qf) (.chain 0 (r.length+1))
def qcC(s:List Int):List (Option Nat):=match s with
 |[]=>[]
 |_::r=>[some (r.length+1)]
def qf4(s):qE (plain (qaO s))=true:=by cases s<;>simp[qaO]
def qf5(s):Leq (plain (qaO s)) (.sl 1 (s.map qf) .none):=by
 cases s with
 |nil=>simp[qaO,Leq]
 |cons a r=>exact Leq.sl rfl
section
variable {P:Program}{G:Nat->AV}{σ:St}{f:FuncId}{Q:AV->St->Prop}{r:AV}
def qb.outN2{d a s}(b:qE a=true)(h:Abs.Pure P G f [a,.sl 1 (s.map qf) .none] r)(c:Q r σ):qb P G d f [a,qaO s] σ Q:=by
 refine qF5 h ?_ ?_ c
 . simp only[qBz,qBS,qr,qf4,yy b,b,qFn]
 simp only[qBz,qBS,zl,and_true,yy b];exact⟨qFN _,qf5 s⟩
def qb.outN3{d a b s}(c:qE a=true)(hb:qE b=true)(h:Abs.Pure P G f [a,b,.sl 1 (s.map qf) .none] r)(e:Q r σ):qb P G d f [a,b,qaO s] σ Q:=by
 refine qF5 h ?_ ?_ e
 . simp only[qBz,qBS,qr,qf4,yy c,yy hb,c,hb,qFn]
 simp only[qBz,qBS,zl,and_true,yy c,yy hb];exact⟨qFN _,qFN _,qf5 s⟩
end
def qbu{e:Ex}(h:ki e){n:Nat}(b:e.op≠23)(c:zE e.op=n):e.args.length=n:=by
 obtain⟨_,_,_,_,a,_⟩:=jm h.self;have:=vw a b;omega
def qme{e}(h:ki e):e.args.length<=33:=by
 obtain⟨_,_,_,_,b,_⟩:=jm h.self;by_cases a:e.op=23
 . have:=Zz b a;omega
 have:=vw b a;unfold zE at this
 repeat' split at this
 all_goals omega
def qkt{e}(h:ki e)(h1:e.op≠1)(h2:e.op≠2)(f:e.op≠3)(g:e.op≠24)(c:e.op≠22)(a:e.op≠23):e.args.length=1\/e.args.length=2:=by
 obtain⟨k1,d,_,_,b,_⟩:=jm h.self;have:=vw b a;unfold zE at this;rw[if_neg (by omega)]at this
 repeat' split at this
 all_goals omega
def qra(env)(m:Fits env):∀e,Wen e->ki e->Pure prog GG 281 [.agg [.sl 2 (env.map qN) .none],.agg (qo e)] (.int .i64 (yi env e)):=by
 refine qF4 fun e ih y d=>?_
 refine qF6 func281 ?_;have N:=y.fits;have u:∀v∈e.args.map (yi env),0<=v/\v<=65535:=by
  intro v g;obtain⟨a,C,rfl⟩:=qBH.1 g;exact Vi env a (d.arg C)
 obtain⟨k1,P,k3,k4,F,O,A,L⟩:=jm d.self;simp only[qd e];simp;refine qF3 (fun n ev σ=>∃i t,i<=e.args.length/\n=e.args.length-i/\ev 2=.ptr 0 0/\ev 3=.ptr 1 0/\ev 5=qaO ((e.args.map (yi env)).take i)/\ev 13=.sl 4 (e.args.map qo) .none/\ev 14=.int .i64 e.args.length/\ev 15=.int .i64 i/\σ=⟨.cells [.sl 2 (env.map qN) .none]::.cells (qo e)::t,qcC ((e.args.map (yi env)).take i)⟩) e.args.length ⟨0,[],by simp,by simp,by simp,by simp,by simp[qaO],by simp,by simp,by simp,by simp[qd e,qcC]⟩ ?_;rintro n ev σ ⟨i,t,hi,rfl,h2,K,f,J,M,B,rfl⟩
 cases g:e.args[i]? with
 | some a=>
  obtain⟨D,Q⟩:=qBk.1 g;have o:=qBl g;have h:(e.args.map (yi env)).take (i+1)=(e.args.map (yi env)).take i++[yi env a]:=by
   rw[qBQ,qBO,g];rfl
  have w:((e.args.map (yi env)).take i).length<=e.args.length:=by simp;omega
  generalize z:(e.args.map (yi env)).take i=R at f h w⊢;have ih:=ih a o (y.arg o) (d.arg o);simp[*,qd a,qB8];rw[<- qd a];refine qFQ ih ?_
  cases R with
  | nil=>
   simp only[qaO]at f;simp[qaO,qcC,qm,qe,qp,qR,B];exact⟨_,by omega,i+1,by omega,rfl,by rw[h];simp[],wr,by rw[h];simp[]⟩
  | cons b r=>
   have hb:r.length<=549755813886:=(by have:=qme d;simp at w;omega);simp only[qaO]at f;simp[*,qaO,qcC,qm,qe,qp,qR];exact⟨_,by omega,i+1,by omega,rfl,by rw[h];simp[],wr,by rw[h];simp[]⟩
 | none=>
  have D:¬i<e.args.length:=by simp at g;omega
  rw[qBr (by simp;omega)]at f⊢;rw[yM];generalize z:e.args.map (yi env)=R at f u⊢;have j:R.length=e.args.length:=by rw[<- z];simp
  unfold wH;by_cases c1:e.op=1
  . simp[*,qd e]
  by_cases c2:e.op=2
  . simp[*,qd e];refine qFQ (qeS env e.name m) ?_;simp[Zh]
  by_cases c3:e.op=3
  . have I:=wD (A (.inl c3));obtain⟨v,rfl⟩:=qst (l:=R) (by rw[j];exact qbu d (n:=1) (by omega) (by rw[c3];decide));obtain⟨b,hb,_⟩:=qfd (env:=env) (a:=e.name) (i:=v);have x:=qtk env e.name v m (by omega);rw[hb]at x;simp only[qaO]at f;simp[*,qd e];refine qFQ x ?_;simp
  by_cases s:e.op=24
  . have I:=wD (A (.inr s));simp[*,qd e];refine qFQ (quA env e.name m (by omega)) ?_;simp
  simp[*,qd e];refine qb.outN2 (by simp) (qhY e.op R u (fun c=>?_) (fun c=>?_) (fun G E=>?_)) ?_
  . rw[j];exact qbu d (n:=3) (by omega) (by rw[c];decide)
  . rw[j];have:=Zz F c;omega
  . rw[j];exact qkt d c1 c2 c3 s G E
  simp
def qcX(env e):jC env e=((zS [2] e).all (fun s=>(ji env s).isSome)&&(zS [3,24] e).all fun s=>(ji env (zX s 0)).isSome):=by
 rw[qCo,qBq,jC];simp only[qBx];constructor
 . intro h;refine⟨fun s c=>?_,fun s c=>?_⟩
   . obtain⟨x,a,b,rfl⟩:=yj.1 c;have:=h x a;have h2:x.op=2:=(by simpa using b);simpa[qiM,h2] using this
   obtain⟨x,a,b,rfl⟩:=yj.1 c;have:=h x a;have d:x.op=3\/x.op=24:=(by simpa using b);unfold qiM at this
   rwa[if_neg (by omega),if_pos d]at this
 rintro⟨h1,h2⟩ x a;unfold qiM;split
 . rename_i h;exact h1 _ (yj.2 ⟨x,a,by simp[h],rfl⟩)
 split
 . rename_i h;exact h2 _ (yj.2 ⟨x,a,by simpa using h,rfl⟩)
 rfl
def qmo{α:Type}{p:α->Bool}{l:List α}{i:Nat}{a:α}(h:l[i]?=some a)(b:p a=false):l.all p=false:=qfk (qBl h) b
def qbB{α:Type}{p:α->Bool}{l:List α}{i:Nat}(hi:l.length<=i)(h:∀a∈l.take i,p a=true):l.all p=true:=by
 rw[qBr hi]at h;exact qBx.2 h
def qcJ{ops e}:(zS ops e).length<=(pre e).length:=by
 unfold zS;have:∀(l:List Ex) (s:List Str),(l.foldl (WS ops) s).length<=s.length+l.length:=by
  intro l
  induction l with
  |nil=>intro s;simp
  | cons a r ih=>
   intro s;have h1:=ih (WS ops s a);have h2:=vL (ops:=ops) (s:=s) (e:=a);simp only[qB2,qBB];omega
 simpa using this (pre e) []
def qsA(env)(D:Fits env)(e)(F:Wen e)(M:ki e)(G:(pre e).length<=100000):Pure prog GG 280 [.agg [.sl 2 (env.map qN) .none],.agg (qo e)] (.bool (jC env e)):=by
 refine qF6 func280 ?_;have z:=Jc e F G;have y:=QE e F G;have c:=qcX env e;generalize jC env e=r at c⊢;have C:∀s∈zS [3,24] e,s.length<=1000:=by
  intro s L;obtain⟨x,I,J,rfl⟩:=yj.1 L;have:=wD ((jm (M x I)).2.2.2.2.2.2.1 (by simpa using J));omega
 have N:=qcJ (ops:=[2]) (e:=e);have O:=qcJ (ops:=[3,24]) (e:=e);generalize zS [2] e=A at z N c⊢;generalize zS [3,24] e=B at y C O c⊢;simp only[qd e];simp;rw[<- qd e];refine qFQ z ?_
 try simp
 refine qF3 (fun n ev σ=>∃i,i<=A.length/\n=A.length-i/\ev 2=.ptr 0 0/\ev 3=.ptr 1 0/\ev 14=.sl 1 (A.map jo) .none/\ev 15=.int .i64 A.length/\ev 16=.int .i64 i/\σ=⟨[.cells [.sl 2 (env.map qN) .none],.cells (qo e)],[]⟩/\∀s∈A.take i,(ji env s).isSome=true) A.length ⟨0,by simp[qd e]⟩ ?_;rintro n ev σ ⟨i,hi,rfl,h2,l,o,j,u,rfl,f⟩
 cases hv:A[i]? with
 | some s=>
  obtain⟨d,w⟩:=qBk.1 hv;simp[h2,l,o,j,u,d,w];refine qFQ (qeS env s D) ?_;cases hf:(ji env s).isSome
  . rw[qmo (p:=fun s=>(ji env s).isSome) hv hf,qDy]at c;subst c;simp[Zh,hf]
  simp[Zh,hf,h2,l,o,j,u];exact⟨_,by omega,i+1,by omega,rfl,wr,by simpa using zf (p:=fun s=>(ji env s).isSome=true) hv (by simpa using f) hf⟩
 | none=>
  have v:A.length<=i:=by simpa using hv
  have d:¬i<A.length:=by omega
  rw[qbB (p:=fun s=>(ji env s).isSome) v f,qCC]at c;simp[l,o,j,u,d,qd e];rw[<- qd e];refine qFQ y ?_
  try simp
  have K:=h2;refine qF3 (fun n ev σ=>∃i,i<=B.length/\n=B.length-i/\ev 2=.ptr 0 0/\ev 30=.sl 1 (B.map jo) .none/\ev 31=.int .i64 B.length/\ev 32=.int .i64 i/\σ=⟨[.cells [.sl 2 (env.map qN) .none],.cells (qo e)],[]⟩/\∀s∈B.take i,(ji env (zX s 0)).isSome=true) B.length ⟨0,by simp[qd e,K]⟩ ?_;rintro n ev σ ⟨i,hi,rfl,h2,t,h,m,rfl,f⟩
  cases hv:B[i]? with
  | some s=>
   obtain⟨d,w⟩:=qBk.1 hv;obtain⟨b,hb,g⟩:=qfd (env:=env) (a:=s) (i:=0);have g:=g rfl;have E:=qtk env s 0 D (C s (qBl hv));rw[hb]at E;simp[h2,t,h,m,d,w];refine qFQ E ?_;cases hf:(ji env (zX s 0)).isSome
   . rw[qmo (p:=fun s=>(ji env (zX s 0)).isSome) hv hf]at c;subst c;simp[g,hf]
   simp[g,hf,h2,t,h,m];exact⟨_,by omega,i+1,by omega,rfl,wr,by simpa using zf (p:=fun s=>(ji env (zX s 0)).isSome=true) hv (by simpa using f) hf⟩
  | none=>
   have v:B.length<=i:=(by simpa using hv);have d:¬i<B.length:=(by omega);rw[qbB (p:=fun s=>(ji env (zX s 0)).isSome) v f]at c;subst c;simp[t,h,m,d]
def qv5(env)(j:Fits env)(e)(g:Wen e)(o:hgt e<1000000)(m:(pre e).length<=100000):Pure prog GG 222 [.agg (qo e),.sl 2 (env.map qN) .none] (.tup [.int .i64 (evalV env e),.int .i64 (Jm env e)]):=by
 refine qF6 func222 ?_;have c:=Km e g o;have h:Jm env e=if zr e≠0 then 1 else if jC env e=true then 0 else 7:=rfl
 have f:evalV env e=if zr e=0/\jC env e=true then yi env e else 0:=rfl
 by_cases h0:zr e=0
 . have i:=Qa h0;have d:=qsA env j e g i m;have l:=qra env j e g i;cases hk:jC env e
   . have a:Jm env e=7:=(by rw[h];simp[h0,hk]);have b:evalV env e=0:=(by rw[f];simp[h0,hk]);rw[a,b];rw[h0]at c;rw[hk]at d;simp only[qd e];simp[qV,zt,qx,zC];rw[<- qd e];refine qFQ c ?_;simp[qd e];rw[<- qd e];refine qFQ d ?_;simp
   have a:Jm env e=0:=(by rw[h];simp[h0,hk]);have b:evalV env e=yi env e:=(by rw[f];simp[h0,hk]);rw[a,b];rw[h0]at c;rw[hk]at d;simp only[qd e];simp[qV,zt,qx,zC];rw[<- qd e];refine qFQ c ?_;simp[qd e];rw[<- qd e];refine qFQ d ?_;simp[qd e];rw[<- qd e];refine qFQ l ?_;simp
 have a:Jm env e=1:=by rw[h];simp[h0]
 have b:evalV env e=0:=by rw[f];simp[h0]
 rw[a,b];simp only[qd e];simp[qV,zt,qx,zC];rw[<- qd e];refine qFQ c ?_;simp[h0]
def qAC(F A:Nat)(p:Problem)(l:List Ex)(s:Option (List Int)×Bool)(H:List Blk)(r:AV)(σ':St):Prop :=
 KpL [F,A] H σ'.H/\(∃c n,σ'.H[F]?=some (.cells (qbL p l c s.2 n)))/\((∃a d b,s.1=some a/\r=.tup [b,.bool true]/\qmt d σ'.H b a)\/(s.1=none/\r=.tup [.sl 0 [] .nil,.bool false]))
def qAD(F A t:Nat)(p:Problem)(l:List Ex)(s:Option (List Int)×Bool)(H:List Blk)(n:Nat)(ev:Env)(σ:St):Prop :=
 ev 0=.ptr F 0/\∃H' T' a over b c,σ=⟨H',T'⟩/\KpL [F,A] H H'/\FndR F A t p l a over n H'/\okA p.vars a/\ja b 2 qN H' (ev 4) (vU p.vars c)/\c.length=p.vars.length/\b≠F/\b≠A/\H.length<=b/\s=if over then(none,true) else qdS p.vars l n a
def qoL{L:List Signal}{i g x}(h:L[i]?=some g):(L.flatMap qN).set (i*2+1) (.int .i64 x)=(L.set i ⟨g.name,x⟩).flatMap qN:=by
 induction L generalizing i with
 |nil=>simp at h
 | cons a r ih=>
  cases i with
  |zero=>simp at h;subst h;simp
  | succ i=>
   simp at h;rw[show(i+1)*2+1=(i*2+1)+2 by omega,qBJ,qEc,qBJ,<- ih h];simp
def qoV{vs}{c a:List Int}(r:c.length=vs.length)(o:a.length=vs.length){i x}(l:a[i]?=some x){g}(f:(vU vs (a.take i++c.drop i))[i]?=some g):(vU vs (a.take i++c.drop i)).set i ⟨g.name,x⟩=vU vs (a.take (i+1)++c.drop (i+1)):=by
 apply qCg;intro k;have h:(a.take i++c.drop i).length=vs.length:=by simp;omega
 have m:(a.take (i+1)++c.drop (i+1)).length=vs.length:=by simp;omega
 by_cases j:k<vs.length
 . obtain⟨v,b⟩:∃v,vs[k]?=some v:=⟨_,qBm j⟩;by_cases e:k=i
   . subst e;have h1:(a.take (k+1)++c.drop (k+1))[k]?=some x:=by
      rw[qBv (by simp;omega),qDM (by omega),l]
     rw[qBo (by rwa[ko h]),Q6 b h1];obtain⟨y,d⟩:∃y,(a.take k++c.drop k)[k]?=some y:=⟨_,qBm (by omega)⟩;rw[Q6 b d]at f;cases f;rfl
   rw[qBn (Ne.symm e)];have:(a.take i++c.drop i)[k]?=(a.take (i+1)++c.drop (i+1))[k]?:=by
    rw[qCn,qCn];simp only[qBY,qCi,qCm];by_cases h1:k<i
    . rw[if_pos (by omega),if_pos (by omega),if_pos (by omega),if_pos (by omega)]
    rw[if_neg (by omega),if_neg (by omega)];congr 1;omega
   obtain⟨y,d⟩:∃y,(a.take i++c.drop i)[k]?=some y:=⟨_,qBm (by omega)⟩;rw[Q6 b d,Q6 b (by rwa[<- this])]
 rw[qBW (by rw[qCO,ko h];omega),qBW (by rw[ko m];omega)]
def qnT:List (Nat×Sch×List Nat):=[(1,.step 0 [9,8,3,2,1] (.step 1 [9,8,3,2] (.step 2 [9,8,3] (.step 3 [9,8] (.step 4 [9,8,7,6,5] (.step 5 [9,8,7,6] (.step 6 [9,8,7] (.step 7 [9,8] (.step 8 [9] (.step 9 [] (.done)))))))))),[8])]
def qvI{F A t p l a n H}(T)(h:FndR F A t p l a false n H)(h7:A<H.length)(hn:n<=262144)(d9:p.vars.length<=1000)(c7:okA p.vars a)(hw:∀v∈p.vars,0<=v.width/\v.width<=28)
 (j:∀e∈l,Wen e/\hgt e<=1000/\(pre e).length<=100000) (d1:Fits l):qh prog GG 173 [.ptr F 0] ⟨H,T⟩ (qAC F A p l (qdS p.vars l n a) H):=by
 refine qFE ⟨false,qnT,[],[]⟩ func173 ?_;have hF:=h.f;have b5:=c7.len;have d6:=qs1 (A:=A) (t:=t) p a b5 d9 T h.r;simp only[qw]at d6;simp only[qbL]at hF;simp;rw[qG rfl];simp[qX,hF];refine qFJ d6 ?_;rintro v ⟨H1,T1⟩ ⟨rfl,a4,b,ho,hb⟩;simp only at a4 ho;simp;obtain⟨s,hs⟩:∃s,s=qdS p.vars l n a:=⟨_,rfl⟩;rw[<- hs];have h8:=(qBk.1 h.f).1;have d8:FndR F A t p l a false n H1:=⟨(a4.2 _ _ h.f (by simp)),fun o=>a4.2 _ _ (h.r o) (by simp)⟩;rw[show ke p.vars a=vU p.vars a by rw[JV,if_pos b5]]at ho;refine qFL (fun m ev σ=>m<=262144/\qAD F A t p l s H m ev σ) n ?_ ?_
 . refine⟨hn,by simp,H1,T1,a,false,b,a,rfl,a4.sub (by simp),d8,c7,by simpa using ho,b5,?_,?_,hb,by simpa using hs⟩
   . omega
   . omega
 rintro m ev σ R hR ⟨hm,e0,H',T',i,over,b',c,rfl,hk,D,a6,c6,hc,X,a9,e3,E⟩;have S:=D.f;have e4:=(qBk.1 S).1;simp only[qbL]at S
 cases over with
 | true=>
  simp at E;subst E;simp[e0,S];exact⟨hk,⟨_,_,D.f⟩,.inr ⟨rfl,rfl⟩⟩
 | false=>
  simp only[qBP,if_false]at E
  cases m with
  | zero=>
   have E:=E;subst E;simp[e0,S];exact⟨hk,⟨_,_,D.f⟩,.inr ⟨rfl,rfl⟩⟩
  | succ m=>
   have I:=a6.len;have h0:=wr (n:=(m:Int));have a1:=qpb (A:=A) (t:=t) i (by omega) T' (H:=H'.set F (.cells (qbL p l (Jy A t i) false m))) (fun o=>by
    have:=D.r o;rw[qBn (Ne.symm (D.ne o))];exact this)
   have c1:∀y,(H'.set F y)[F]?=some y:=fun y=>qBo e4
   simp only[qbL]at a1;simp[e0,S,h0,show(0:Int)<(m:Int)+1 by omega,c1];refine qFJ a1 ?_;rintro Q ⟨H2,T2⟩ ⟨rfl,M,G,V,d7⟩;simp only at M V;rw[qCO]at d7;have g7:i≠[]->H2[A]?=some (.cells (zc i)):=fun o=>M.2 _ _ (by rw[qBn (Ne.symm (D.ne o))];exact D.r o) (by simp)
   have e1:ja b' 2 qN H2 (ev 4) (vU p.vars c):=c6.keep fun x _ j=>M.2 _ _ (by rw[qBn (Ne.symm X)];exact j) (by simp)
   have c9:=(hk.trans (qGf (by simp))).trans (M.sub (by simp));have f1:G≠F/\G≠A:=by
    have:=hk.1;constructor<;>omega
   have d4:i≠[]->G≠b':=fun o=>by
    have a8:vU p.vars c≠[]:=fun e=>by
     have:=ko hc;rw[e]at this;exact o (qBy (by rw[I,<- this];rfl))
    have:=c6.lt a8;omega
   generalize e8:ev 4=K at *;have e2:∀H T,Yk (Dof prog) ⟨H,T⟩ 36 Q=some (.int .i64 i.length):=fun H T=>by
    rcases V with⟨P,h6,tok,rfl⟩|⟨P,rfl,b8⟩
    . simp[Yk,P]
    simp[Yk]
   by_cases h4:True
   . simp[-Yk,e2];refine qFW i (fun d z σ2=>z 0=.ptr F 0/\z 4=K/\z 5=Q/\z 45=Q/\z 46=.int .i64 i.length/\z 47=.int .i64 d.length/\∃C,σ2=⟨C,T2⟩/\KpL [b'] H2 C/\ja b' 2 qN C K (vU p.vars (i.take d.length++c.drop d.length))) ?_ ?_ ?_
     . exact⟨by simp[e0],by simp[e8],by simp,by simp,by simp,by simp,H2,by simp,qGd,by simpa using e1⟩
     . rintro d x rest z σ2 R2 f2 hd c0 J ⟨L,Y,g5,b1,a2,b2,C,rfl,w,a3⟩;have b4:=wr (n:=(d.length:Int)+1);have P:i≠[]:=fun e=>by rw[e]at J;simp at J
       obtain⟨_,f6,b8⟩:=V.resolve_left (fun h=>P h.1);have c8:=b1;rw[f6]at c8;have g3:(zc i).drop d.length=.int .i64 x::(zc i).drop (d.length+1):=by
        obtain⟨h1,h2⟩:=qBk.1 (by rw[WF,c0];rfl);rw[qBE h1,h2]
       have a1:(i.take d.length++c.drop d.length).length=p.vars.length:=(by simp;omega);have O:=ko a1;have a8:vU p.vars (i.take d.length++c.drop d.length)≠[]:=fun e=>by rw[e]at O;simp at O;omega
       obtain⟨hv,d3⟩:=a3.at a8;obtain⟨g,hg⟩:∃g,(vU p.vars (i.take d.length++c.drop d.length))[d.length]?=some g:=⟨_,qBm (by rw[O];omega)⟩;have c2:=qoL (x:=x) hg;have e7:=qoV hc I c0 hg;have f8:((vU p.vars (i.take d.length++c.drop d.length)).flatMap qN).length=p.vars.length*2:=(by rw[Go.Abs.zZ (sz:=2) (fun x=>by simp),O]);have g6:=(qBk.1 d3).1;rw[O]at hv;rw[e7]at c2;generalize i1:(vU p.vars (i.take d.length++c.drop d.length)).flatMap qN=FL at *;simp[Y,c8,a2,b2,J,show C[G]?=some (.cells (zc i)) from w.2 _ _ b8 (by simpa using d4 P),g3,show d.length+1<=(zc i).length by rw[qO];omega,hv,show(d.length:Int)<p.vars.length by omega,d3,show d.length*2+1+1<=p.vars.length*2 by omega,f8,c2,b4];have e6:(i.take (d.length+1)++c.drop (d.length+1)).length=p.vars.length:=(by simp;omega);have a7:=ko e6;refine f2 _ _ ⟨by simp[L],by simp[Y],by simp[g5],by simp[b1],by simp[a2],by simp,_,rfl,w.trans (qGf (by simp)),?_⟩;rw[qBp,qBR];refine .inr ⟨fun e=>by rw[e]at a7;simp at a7;omega,by rw[a7];exact hv,qBo g6⟩
     rintro z σ2 ⟨L,Y,g5,b1,a2,b2,C,rfl,w,a3⟩;rw[show i.take i.length++c.drop i.length=i by rw[qCS,qBZ (by omega),qB4]]at a3;have f3:FndR F A t p l i false m C:=⟨w.2 _ _ (M.2 _ _ (c1 _) (by simp)) (by simpa using Ne.symm X),fun o=>w.2 _ _ (g7 o) (by simpa using Ne.symm a9)⟩;have g1:=qiP T2 f3 I (by omega) a6 hw;simp[L,a2,b2];refine qFJ g1 ?_;rintro v2 ⟨H4,T4⟩ ⟨rfl,c5,a0,U⟩;simp only at c5 a0 U;subst c5;have e5:ja b' 2 qN H4 K (vU p.vars i):=a3.keep fun x _ j=>U.2 _ _ j (by simp;exact⟨X,a9⟩)
     have g2:∀u,qmt G (H4++u) Q i:=fun u=>by
      rcases V with h|⟨h1,h2,h3⟩
      . exact .inl h
      exact .inr ⟨h1,h2,qa (U.2 _ _ (w.2 _ _ h3 (by simpa using d4 h1)) (by simp;exact f1)) u⟩
     have b6:=a0.f;simp only[qbL]at b6;have c3:KpL [F,A] H H4:=by
      refine⟨by have:=c9.1;have:=w.1;have:=U.1;omega,fun k x d2 d0=>?_⟩;have h2:=c9.2 k x d2 d0;have h9:=(qBk.1 d2).1;have h3:=w.2 k x h2 (by simp;omega);exact U.2 k x h3 d0
     have N:s=if yX p.vars l i then(some i,(qJ p.vars i).2) else if(qJ p.vars i).2 then(none,true) else qdS p.vars l m (qJ p.vars i).1:=E
     have e9:=Z9 a6;simp[b6,L];have i0:=ko I;have c4:yX p.vars l i=l.all fun e=>decide (evalV (vU p.vars i) e≠0):=by unfold yX;rw[show ke p.vars i=vU p.vars i by rw[JV,if_pos I]]
     refine qFW l (fun d B σ3=>B 0=.ptr F 0/\B 4=K/\B 5=Q/\B 63=.sl 4 (l.map qo) .none/\B 64=.int .i64 l.length/\B 65=.int .i64 d.length/\(∃u,σ3=⟨H4++u,T4⟩)/\∀e∈d,evalV (vU p.vars i) e≠0) ?_ ?_ ?_
     . exact⟨by simp[L],by simp[Y],by simp[g5],by simp,by simp,by simp,⟨[],by simp⟩,by simp⟩
     . rintro d e rest B σ3 R3 h5 hd b9 J ⟨f0,f4,f5,a5,Z,W,⟨u,rfl⟩,b0⟩;have d5:=qBl b9;obtain⟨f7,hh,f9⟩:=j e d5;have b4:=wr (n:=(d.length:Int)+1) (by unfold Fits at d1;omega) (by unfold Fits at d1;omega);have g8:=qv5 (vU p.vars i) (by show(vU p.vars i).length<_;omega) e f7 (by omega) f9;have b7:∀u,ja b' 2 qN (H4++u) K (vU p.vars i):=fun u=>e5.keep fun x _ j=>qa j u
       simp[-getElem?_pos,f4,a5,Z,W,J,b9,qd e];rw[<- qd e];refine qFI g8 rfl ?_ ?_
       . simp only[qBz,qBS,zl,and_true];refine⟨?_,(b7 _).frz (fun x=>by simp) (fun x=>by simp) (fun x=>by simp) 7⟩;rw[ql (by simp)];exact qFN _
       by_cases hz:evalV (vU p.vars i) e=0
       . have g9:yX p.vars l i=false:=(by rw[c4,qEl];exact⟨e,d5,by simp[hz]⟩);rw[g9]at N;simp only[qBP,if_false]at N;simp[hz];exact hR m _ _ (by omega) ⟨by omega,by simp[f0],_,T4,(qJ p.vars i).1,(qJ p.vars i).2,b',i,rfl,c3.trans qGe,a0.look _,e9,by simpa[f4] using b7 _,I,X,a9,e3,N⟩
       simp[hz,W,b4];refine h5 _ _ ⟨by simp[f0],by simp[f4],by simp[f5],by simp[a5],by simp[Z],by simp,⟨_,by simp;rfl⟩,fun x j=>?_⟩;rcases qBC.1 j with j|j
       . exact b0 x j
       simp only[qBN,qDk,or_false]at j
       rwa[j]
     rintro B σ3 ⟨f0,f4,f5,a5,Z,W,⟨u,rfl⟩,b0⟩;rw[show yX p.vars l i=true by rw[c4,qBx];exact fun e he=>by simpa using b0 e he,if_pos rfl]at N;simp[f5,Z,W];rw[N];exact⟨c3.trans qGe,⟨_,_,(a0.look u).f⟩,.inl ⟨i,G,_,rfl,rfl,g2 u⟩⟩
   exact absurd trivial h4
def qnU:List (Nat×Sch×List Nat):=[(9,.step 1 [9,8,7] (.step 2 [9,8,7,5,4,3] (.step 3 [9,8,7,5,4] (.step 4 [9,8,7,5] (.step 6 [9,8,7] (.fork (.cons 0 (.step 5 [9,8,7] (.step 7 [9,8] (.step 8 [9] (.step 9 [] (.done))))) (.cons 5 (.step 0 [9,8,7] (.step 7 [9,8] (.step 8 [9] (.step 9 [] (.done))))) (.nil)))))))),[]),(14,.step 0 [8,7,3,2,1] (.step 1 [8,7,3,2] (.step 2 [8,7,3] (.step 3 [8,7] (.step 4 [8,7] (.step 5 [8,7,6] (.step 6 [8,7] (.step 7 [8] (.step 8 [] (.done))))))))),[])]
noncomputable def qgX(p:Problem)(l:List Ex)(n:Int):Bool:=decide (qg p=0)&&(decide (0<=n)&&(decide (n<=262144)&&l.all (wJ p.vars)))
def qtC(p:Problem)(l:List Ex)(n:Nat)(r:AV)(σ':St):Prop :=
 if qgX p l n=true then ∃F A t,r=.tup [.ptr F 0,.int .i64 0]/\FndR F A t p l (qZ p.vars) false n σ'.H/\A<σ'.H.length else r=.tup [.nilp,.int .i64 1]
def qpp(p l)(n:Nat)(h:VQ p)(Z:Fits l)(b:∀e∈l,Wen e/\hgt e<=1000/\(pre e).length<=100000)(hn:n<4611686018427387904)(H T):
 qh prog GG 172 [.agg (qw p),.sl 4 (l.map qo) .none,.int .i64 n] ⟨H,T⟩ (qtC p l n):=by
 refine qFE ⟨false,qnU,[],[]⟩ func172 ?_;have o:=yw p h;obtain⟨Q,z⟩:∃Q,Q=qtC p l n:=⟨_,rfl⟩;rw[<- z];by_cases G:qg p=0
 case neg=>
  have:Q=fun r _=>r=.tup [.nilp,.int .i64 1]:=by rw[z];funext r σ;unfold qtC;rw[if_neg (by simp[qgX,G])]
  simp only[qw]at o;simp;refine qFG o ?_;simp[G,this]
 by_cases b5:n<=262144
 case neg=>
  have:Q=fun r _=>r=.tup [.nilp,.int .i64 1]:=by rw[z];funext r σ;unfold qtC;rw[if_neg (by simp[qgX];omega)]
  have b1:(262144:Int)<n:=by omega
  simp only[qw]at o;simp;refine qFG o ?_;simp[G,b1,this]
 simp only[qw]at o;simp;refine qFG o ?_;simp[G,show ¬(262144:Int)<n by omega,show ¬(n:Int)<0 by omega];refine qFW l (fun d ev σ=>ev 1=.sl 4 (l.map qo) .none/\ev 2=.int .i64 n/\ev 3=.ptr H.length 0/\ev 24=.sl 4 (l.map qo) .none/\ev 25=.int .i64 l.length/\ev 26=.int .i64 d.length/\(∃H',σ=⟨H',T⟩/\H'[H.length]?=some (.cells (qw p)))/\∀e∈d,wJ p.vars e=true) ?_ ?_ ?_
 . refine⟨by simp,by simp,by simp,by simp,by simp,by simp,⟨_,rfl,?_⟩,by simp⟩;simp
 . rintro d e rest ev σ R E hd a0 w ⟨M,J,u,U,y,C,⟨H',rfl,a⟩,P⟩;have X:=qBl a0;obtain⟨a6,hh,a7⟩:=b e X;have a3:=qon p e (by have:=h.vars;show p.vars.length<_;omega) a6 (by omega) a7;have I:=wr (n:=(d.length:Int)+1) (by unfold Fits at Z;omega) (by unfold Fits at Z;omega);simp only[qw]at a3 a;simp[-getElem?_pos,u,U,y,C,w,a0,qa a,qd e];rw[<- qd e];refine qFG a3 ?_
   cases hk:wJ p.vars e with
   | false=>
    have:Q=fun r _=>r=.tup [.nilp,.int .i64 1]:=by
     rw[z];funext r σ;unfold qtC;have hb:qgX p l n=false:=by
      have:l.all (wJ p.vars)=false:=qEl.2 ⟨e,X,by simp[hk]⟩;simp[qgX,this]
     rw[hb];simp
    simp[this]
   | true=>
    simp[C,I];refine E _ _ ⟨by simp[M],by simp[J],by simp[u],by simp[U],by simp[y],by simp,⟨_,rfl,qa a _⟩,fun x b=>?_⟩;rcases qBC.1 b with b|b
    . exact P x b
    simp only[qBN,qDk,or_false]at b
    rwa[b]
 rintro ev σ ⟨M,J,u,U,y,C,⟨H',rfl,a⟩,P⟩;have a9:qgX p l n=true:=by
  have:=qBx.2 P;simp[qgX,this,G];omega
 have a4:Q=fun r σ'=>∃F A t,r=.tup [.ptr F 0,.int .i64 0]/\FndR F A t p l (qZ p.vars) false n σ'.H/\A<σ'.H.length:=by
  rw[z];funext r σ;unfold qtC;rw[if_pos a9]
 rw[a4];simp only[qw]at a;by_cases s:p.vars=[]
 . rw[s]at a;simp only[qBS]at a;simp[y,C];rw[qG rfl];simp[qX,M,J,u,a,qa a,s,qz,qV,zt,qx];refine⟨?_,?_⟩
   all_goals
    refine qFL (fun m ev σ=>ev 10=.ptr H'.length 0/\ev 46=.int .i64 0/\ev 47=.int .i64 0/\σ=⟨H'++[.cells [.sl 4 [] .none,.sl 4 (p.hard.map qo) .none,.sl 4 (p.soft.map qo) .none,.sl 2 (p.dists.map zu) .none,.sl 1 (p.groups.map qn) .none,.sl 4 (l.map qo) .none,.sl 1 [] (.chain T.length 0),.bool false,.int .i64 n]],T++[some 0]⟩) 0 ⟨by simp,by simp⟩ ?_;rintro m ev σ R E ⟨i,c,g,rfl⟩;simp[i,c,g];refine⟨H'.length,⟨T.length,?_,fun h=>absurd rfl h⟩,by simp⟩;simp[s,Jy,qZ]
 have b4:=qBA.2 s;have a5:(p.vars.length:Int)<=549755813888:=by have:=h.vars;omega
 simp[y,C];rw[qG rfl];simp[qX,M,J,u,a,qa a,s,a5,qz,qV,zt,qx];refine⟨?_,?_⟩
 all_goals
  refine qFW p.vars (fun d ev σ=>ev 10=.ptr (H'.length+1) 0/\ev 45=.sl 4 (p.vars.map qu) .none/\ev 46=.int .i64 p.vars.length/\ev 47=.int .i64 d.length/\∃D,σ=⟨D,T⟩/\H'.length<D.length/\FndR (H'.length+1) H'.length T.length p l (qZ d++List.replicate (p.vars.length-d.length) 0) false n D) ?_ ?_ ?_
  . refine⟨by simp,by simp,by simp,by simp,_,rfl,by simp,⟨?_,fun _=>?_⟩⟩
    . have O:qZ []++List.replicate (p.vars.length-([]:List Var).length) (0:Int)≠[]:=fun e=>by
       have:=congrArg List.length e;simp[qZ]at this
       first|omega|exact s (by simpa using this)
      have K:(qZ []++List.replicate (p.vars.length-([]:List Var).length) (0:Int)).length=p.vars.length:=(by simp[qZ]);rw[qbL,Jy,if_neg O,K];simp
    . simp[qZ,zc]
  . rintro d v rest ev σ R E hd a1 w ⟨i,B,c,g,D,rfl,Y,j⟩;have I:=wr (n:=(d.length:Int)+1);have b2:List.replicate (p.vars.length-d.length) (0:Int)=0::List.replicate (p.vars.length-(d.length+1)) 0:=by
     rw[show p.vars.length-d.length=(p.vars.length-(d.length+1))+1 by omega,qCK]
    rw[b2]at j;have N:qZ (d++[v])=qZ d++[if v.mode=0 then v.value else 0]:=(by simp[qZ]);have a2:(qZ d).length=d.length:=(by simp[qZ]);have W:∀x:Int,qZ d++x::List.replicate (p.vars.length-(d.length+1)) 0=(qZ d++[x])++List.replicate (p.vars.length-(d.length+1)) 0:=fun x=>by simp
    have K:∀x:Int,(qZ d++x::List.replicate (p.vars.length-(d.length+1)) 0).length=p.vars.length:=fun x=>by simp[a2];omega
    have O:∀x:Int,qZ d++x::List.replicate (p.vars.length-(d.length+1)) 0≠[]:=fun x=>by simp
    have S:=j.f;have b0:=j.r (O 0);have V:∀x:Int,Jy H'.length T.length (qZ d++x::List.replicate (p.vars.length-(d.length+1)) 0)=.ms H'.length 0 p.vars.length 1:=fun x=>by rw[Jy,if_neg (O x),K]
    rw[qbL,V]at S;by_cases L:v.mode=0
    . rw[if_pos L]at N;have a8:(zc (qZ d++0::List.replicate (p.vars.length-(d.length+1)) 0)).set d.length (.int .i64 v.value)=zc (qZ d++v.value::List.replicate (p.vars.length-(d.length+1)) 0):=by
       rw[yR,qCd _ _ (by omega),a2,qCh];rfl
      simp[-getElem?_pos,B,c,g,w,a1,L];rw[qG rfl];simp[-getElem?_pos,qX,i,g,qa S,qa b0,w,show(zc (qZ d++0::List.replicate (p.vars.length-(d.length+1)) 0)).length=p.vars.length by rw[qO,K],a8,show d.length+1<=p.vars.length by omega,I];refine E _ _ ⟨by simp[i],by simp[B],by simp[c],by simp,_,rfl,by simp;omega,?_⟩;rw[N,qBp,qBR,<- W];refine⟨?_,fun _=>?_⟩
      . rw[qbL,V,qBn (by omega)];exact qa S _
      exact qBo (by simp;omega)
    rw[if_neg L]at N;simp[-getElem?_pos,B,c,g,w,a1,L,I];refine E _ _ ⟨by simp[i],by simp[B],by simp[c],by simp,_,rfl,by simp;omega,?_⟩;rw[N,qBp,qBR,<- W];exact j.look _
  rintro ev σ ⟨i,B,c,g,D,rfl,Y,j⟩;rw[qCh,qDN,qB4]at j;simp[i,c,g];exact⟨H'.length,⟨T.length,j⟩,Y⟩
def zJ{p}(h:qg p=0):∀v∈p.vars,jS v=0:=by
 have a:jd p.vars=0:=by
  unfold qg at h;split at h
  . exact absurd h (by assumption)
  rename_i h1;exact qCf.1 h1
 unfold jd at a;split at a
 . cases a
 split at a
 . rename_i h1;exact absurd a h1
 rename_i h1;exact zs.1 (qCf.1 h1)
def jD:∀(a),zc a=a.flatMap qf
 |[]=>rfl
 | x::r=>by
  have:=jD r;rw[qBJ,<- this];rfl
noncomputable def Yp(p:Problem)(l:List Ex)(n:Nat):List Int×Int :=
 if qgX p l n=true then(match qdS p.vars l n (qZ p.vars) with
  |(some a,_)=>(a,0)
  |(none,true)=>([],11)
  |(none,false)=>([],18)) else([],1)
def qoN(p:Problem)(l:List Ex)(n:Nat)(h:VQ p)(o:Fits l)(j:∀e∈l,Wen e/\hgt e<=1000/\(pre e).length<=100000)(O:n<4611686018427387904):
 Pure prog GG 128 [.agg (qw p),.sl 4 (l.map qo) .none,.int .i64 n] (.tup [.sl 1 ((Yp p l n).1.map qf) .none,.int .i64 (Yp p l n).2]):=by
 refine qFC o0 true func128 ?_;have hb:=qpp p l n h o j O [.cells (qw p)] [];simp only[qw]at hb;simp;refine qFJ hb ?_;rintro v ⟨Q,z⟩ c;unfold qtC at c;by_cases b:qgX p l n=true
 . rw[if_pos b]at c;obtain⟨F,A,t,rfl,w,y⟩:=c;simp only at w y;have P:qg p=0:=by
    simp only[qgX,qBq,decide_eq_true_eq]at b;exact b.1
   have L:n<=262144:=by
    simp only[qgX,qBq,decide_eq_true_eq]at b;omega
   have G:∀v∈p.vars,0<=v.width/\v.width<=28:=fun v K=>by have:=zb (zJ P v K);omega
   have I:=qvI z w y L h.vars (Qn p.vars) G j o;have g:Yp p l n=(match qdS p.vars l n (qZ p.vars) with
    |(some a,_)=>(a,0)
    |(none,true)=>([],11)
    |(none,false)=>([],18)):=if_pos b
   rw[g];generalize qdS p.vars l n (qZ p.vars)=s at *;simp;refine qFJ I ?_;rintro T ⟨C,V⟩ ⟨S,⟨U,n',f⟩,M⟩;simp only[qbL]at f;rcases M with⟨a,r,R,d,rfl,i⟩|⟨d,rfl⟩
   . obtain⟨N,m⟩:=s;simp only at d;subst d;simp only at i;simp;rcases i with⟨rfl,sz,tok,rfl⟩|⟨E,rfl,B⟩
     . have J:∀H t k,frz H 7 (.sl sz [] (.chain t k))=.sl sz [] .none:=fun H t k=>by rw[frz];simp[qE]
       cases tok with
       | chain t k=>
        rw[frz,if_neg (by simp[qE,qr])];simp only[qBz,qBS,J,wL,qE,qr,Leq,zl];simp[qM]
       |none=>rw[ql (by simp)];exact⟨by simp,by simp[Leq,zl]⟩
       |nil=>rw[ql (by simp)];exact⟨by simp,by simp[Leq,zl]⟩
       |tight=>rw[ql (by simp)];exact⟨by simp,by simp[Leq,zl]⟩
     have u:ja r 1 qf C (.ms r 0 a.length 1) a:=.inr ⟨E,rfl,by
      rw[B,jD]⟩
     have f1:=u.frz (fun x=>by simp) (fun x=>by simp) (fun x=>by simp) 6;have D:=u.frzNo (fun x=>by simp) (fun x=>by simp) (fun x=>by simp) 6;rw[frz,if_neg (by simp[qE,qr])];simp only[qBz,qBS,wL,qE,qr,Leq,zl,qCR,and_true];exact⟨D,f1⟩
   obtain⟨N,m⟩:=s;simp only at d f;subst d;cases m
   . simp[f];rw[ql (by simp)];exact⟨by simp,by simp[Leq,zl]⟩
   simp[f];rw[ql (by simp)];exact⟨by simp,by simp[Leq,zl]⟩
 rw[if_neg b]at c;subst c;have g:Yp p l n=([],1):=if_neg b;rw[g];simp;rw[ql (by simp)];exact⟨by simp,by simp[Leq,zl]⟩
def qth(p)(h:VQ p)(t:p.vars.length<=20):Pure prog GG 174 [.agg (qw p)] (.int .i64 (kj p.vars (qI p))):=by
 refine qF6 func174 ?_;have c:=qkb p h;have s:=Yh p t;have g:∀i∈qI p,0<=i/\i<p.vars.length:=fun i hi=>Z5 hi
 simp only[qw]at c;generalize qI p=R at c s g⊢;simp;refine qFQ c ?_
 try simp
 refine qF3 (fun q env σ=>∃i,i<=R.length/\q=R.length-i/\env 1=.ptr 0 0/\env 3=.int .i64 (kj p.vars (R.take i))/\env 7=.sl 1 (R.map qf) .none/\env 8=.int .i64 R.length/\env 9=.int .i64 i/\σ=⟨[.cells (qw p)],[]⟩) R.length ⟨0,by simp[kj]⟩ ?_;rintro q env σ ⟨i,hi,rfl,h1,a,e,m,f,rfl⟩
 cases hvi:R[i]? with
 | some v=>
  obtain⟨d,u⟩:=qBk.1 hvi;obtain⟨r,w⟩:=g v (qBl hvi);obtain⟨j,rfl⟩:=qBG r;have o:j<p.vars.length:=by omega
  have b:=qfC (l:=p.vars) hvi;simp only[qBU]at b;rw[Kf o]at b;simp[h1,a,e,m,f,d,u,o];exact⟨_,by omega,i+1,by omega,rfl,by rw[b],wr⟩
 | none=>
  have d:¬i<R.length:=by simp at hvi;omega
  rw[show R.take i=R from qBr (by omega)]at a;simp[a,e,m,f,d]
def qma(p)(h:VQ p)(c:p.vars.length<=20)(h0:0<=kj p.vars (qI p))(a:kj p.vars (qI p)<=28):Pure prog GG 129 [.agg (qw p)] (.int .i64 ((2^(kj p.vars (qI p)).toNat:Nat):Int)):=by
 refine qFD func129 ?_;have hb:=qth p h c;have b:=yo h0 a;generalize kj p.vars (qI p)=B at *;generalize d:2^B.toNat=N at *;simp only[qw]at hb;simp;refine qFG hb ?_;simp[show ¬B<0 by omega,IntKind.bits,b]
def qfa(v:Var):Nat:=if v.mode=0 then 0 else v.width.toNat
def qfD{l}(d:∀v∈l,0<=v.width/\v.width<=8)(g:l.length<=1000):∀k,k<=l.length->kj l (YD l k)=(((l.take k).map qfa).sum:Nat)/\((l.take k).map qfa).sum<=8*k
 |0,_=>⟨by simp[YD,kj],by simp⟩
 | k+1,m=>by
  obtain⟨c,r⟩:=qfD d g k (by omega);obtain⟨v,a⟩:∃v,l[k]?=some v:=⟨_,qBm (by omega)⟩;have o:=d v (qBl a);have i:l.take (k+1)=l.take k++[v]:=by rw[qBQ,a];rfl
  have e:yU l (k:Int)=(v.mode != 0):=by simp[yU,a]
  rw[KM,e,i,qCl,qE4];by_cases b:v.mode=0
  . have hb:qfa v=0:=(by simp[qfa,b]);simp only[b,bne_self_eq_false,qBP,if_false,qBz,qBS,qDv,qFs,hb];exact⟨by simpa using c,by omega⟩
  have hb:qfa v=v.width.toNat:=by simp[qfa,b]
  have h:(v.mode != 0)=true:=by simpa using b
  rw[if_pos h];have j:kj l (YD l k++[(k:Int)])=IntKind.i64.wrap (kj l (YD l k)+zP l k):=by
   unfold kj;rw[qCb];simp
  rw[j,c];have f:zP l k=v.width:=by simp[zP,a]
  rw[f];simp only[qBz,qBS,qDv,qFs,hb,qCV];rw[wr];exact⟨by omega,by omega⟩
def Jw{p}(a:qg p=0)(c:p.vars.length<=1000):kj p.vars (qI p)=((p.vars.map qfa).sum:Nat)/\(yS p.vars).length=2^(p.vars.map qfa).sum:=by
 have b:∀v∈p.vars,0<=v.width/\v.width<=8:=fun v d=>by have:=zb (zJ a v d);omega
 have h1:=qfD b c p.vars.length (qBs _);rw[qCS]at h1;rw[show qI p=YD p.vars p.vars.length by unfold qI;rw[if_neg (by simpa using a)]];exact⟨h1.1,qfj p.vars⟩
noncomputable def Yz(p:Problem)(l:List Ex):Bool:=decide (qg p=0)&&(l.all (wJ p.vars)&&jw p.vars l)
def Zu(p l)(h:VQ p)(u:p.vars.length<=20)(hb:kj p.vars (qI p)<=18)(v:Fits l)(r:∀e∈l,Wen e/\hgt e<=1000/\(pre e).length<=100000):
 Pure prog GG 90 [.agg (qw p),.sl 4 (l.map qo) .none] (.bool (Yz p l)):=by
 refine qFD func90 ?_;have h0:0<=kj p.vars (qI p):=by
  by_cases c:qg p=0
  . rw[(Jw c (by omega)).1];omega
  have:qI p=[]:=by unfold qI;rw[if_pos (by simpa using c)]
  rw[this];simp[kj]
 have i:=qma p h u h0 (by omega);have D:2^(kj p.vars (qI p)).toNat<=2^18:=qBF (by omega) (by omega);have m:=qoN p l (2^(kj p.vars (qI p)).toNat) h v r (by omega);have o:(Yp p l (2^(kj p.vars (qI p)).toNat)).2≠18/\decide ((Yp p l (2^(kj p.vars (qI p)).toNat)).2=0)=Yz p l:=by
  unfold Yp;by_cases b:qgX p l (2^(kj p.vars (qI p)).toNat:Nat)=true
  . rw[if_pos b];simp only[qgX,qBq,decide_eq_true_eq]at b;obtain⟨c,_,_,x⟩:=b;have j:=Jw c (by omega);have g:=qoE (vs:=p.vars) (l:=l) (k:=2^(kj p.vars (qI p)).toNat) (by rw[j.2,j.1];simp);have d:Yz p l=jw p.vars l:=(by simp[Yz,c,x]);rw[d,<- g.1];generalize qdS p.vars l _ (qZ p.vars)=s at g;obtain⟨z,A⟩:=s
    cases z with
    |some a=>simp
    | none=>
     have:=g.2 rfl;simp only at this;subst this;simp
  rw[if_neg b];have d:Yz p l=false:=by
   apply qCs.2;intro f;simp only[Yz,qBq,decide_eq_true_eq]at f;apply b;simp only[qgX,qBq,decide_eq_true_eq];have B:0<2^(kj p.vars (qI p)).toNat:=qDt _;generalize 2^(kj p.vars (qI p)).toNat=N at *;exact⟨f.1,by omega,by omega,f.2.1⟩
  rw[d];simp
 generalize Yp p l (2^(kj p.vars (qI p)).toNat)=C at *;generalize 2^(kj p.vars (qI p)).toNat=N at *;obtain⟨t,y⟩:=o;rw[<- y];have w:vR (.int .i64 (N:Int)) (.int .i64 262144)=some (.int .i64 N):=by
  simp only[vR];rw[if_neg (by omega)]
 simp only[qw]at i m;simp;refine qFG i ?_;simp[w];refine qFG m ?_;simp[t];rw[qCo];simp
