import Derived.Test.YtafbccendejkeaaGreatDoorPv20
import Derived.RangeFuncBox
import Derived.RangeFuncLeaves
import Derived.Shelf.Abstract
import Derived.WalkKit
import Derived.OwnWalkIn
import Derived.TacticsInMore
import Derived.LoopNIn
import Derived.LoopIn
import Derived.RegionIn
import Derived.OrdersIn
import Derived.SizedLaws
set_option maxRecDepth 100000
set_option maxHeartbeats 16000000
set_option linter.all false
namespace Go.Proofs.YtafbccendejkeaaGreatDoor
open Go Go.Abs Tryz Go.RowKit Go.Shelf
def wtO(o:Option (List Weight))(v:Int):Nat:=match o with
 |none=>1
 |some w=>if(zR w v).2≠0 then lim else sat (zR w v).1.toNat
def quj(o v):wtO o v<=lim:=by
 unfold wtO;split
 . unfold lim;omega
 split
 . exact qBl _
 exact Ky _
def qsP(n):0<=(Yg n).1:=by
 unfold Yg;split<;>simp
def QH(l v):0<=(zR l v).1:=by
 unfold zR;split
 . simp
 split
 . simp
 unfold vV;split
 . simp
 split<;>exact qsP _
def qe8(o:Option (List Weight)):AV:=match o with
 |none=>.sl 0 [] .nil
 |some w=>.sl 4 (w.map qy) .none
def qs1(o):qlh o=[qe8 o]:=by cases o<;>rfl
def qy2(l:List (Option (List Weight))):l.flatMap qlh=l.map qe8:=by
 induction l with
 |nil=>rfl
 |cons a r ih=>rw[qBC,ih,qs1];rfl
def map_drop{α:Type}(f:α->AV){l:List α}{i:Nat}{x:α}(h:l[i]?=some x):(l.map f).drop i=f x::(l.map f).drop (i+1):=by
 obtain⟨h1,h2⟩:=qBa.1 h;rw[qBx (by simpa using h1),qCR,h2]
def qal(p){L LL H}(hw:WFn p L LL H){i:Nat}{o:Option (List Weight)}(hi:(ja p.vars.length p.dists)[i]?=some o)(ho:∀w,o=some w->w≠[]/\w.length<=1000)(v T):
 qj prog GG 75 [.int .i64 (i:Int),.int .i64 v,.ptr L 0] ⟨H,T⟩ (fun r U'=>r=.int .i64 (wtO o v:Nat)/\U'=⟨H,T⟩):=by
 refine okzA func75 rfl rfl ?_;have hil:=(qBa.1 hi).1;rw[ye]at hil;have hne:p.vars≠[]:=fun e=>by rw[e]at hil;simp at hil
 obtain⟨c,hL,hc⟩:=hw;obtain⟨rfl,hLL⟩:=hc hne;rw[qy2]at hLL;have hdr:=map_drop qe8 hi;have hlen:((ja p.vars.length p.dists).map qe8).length=p.vars.length:=by rw[qBM,ye]
 have hil':(i:Int)<p.vars.length:=by omega
 have hi1:i+1<=p.vars.length:=hil;generalize (ja p.vars.length p.dists).map qe8=F at *
 cases o with
 | none=>
  simp[hL,hLL,hil',hi1,hlen,hdr,qe8,qR,JF,TD.isSl,wtO]
 | some w=>
  obtain⟨hwn,hwl⟩:=ho w rfl;obtain⟨a,r,rfl⟩:=qDV hwn;have h51:=qmw (a::r) hwl v;have hnn:=QH (a::r) v;have hwt:wtO (some (a::r)) v=if(zR (a::r) v).2≠0 then lim else sat (zR (a::r) v).1.toNat:=rfl
  rw[hwt];generalize zR (a::r) v=wd at *;obtain⟨x,e⟩:=wd;simp only at hnn h51⊢;have hm:w6 (.int .i64 x) (.int .i64 1099511627777)=some (.int .i64 (sat x.toNat:Nat)):=by
   simp only[w6,Vw];congr 2;split<;>omega
  simp[hL,hLL,hil',hi1,hlen,hdr,qe8,qR,JF,TD.isSl];refine qFz (by simpa using h51) (by simp) ?_;by_cases he:e=0
  . simp[he,hm]
  simp[he,lim]
structure Spc where
 S:Nat
 L:Nat
 LL:Nat
 p:Problem
 R:List Ex
 rtok:Tok
 lv:List Int
 dv:AV
 root:Nat
 small:Bool
def spE(s:Spc):List AV:=qu s.p++[.sl 4 (s.R.map qp) s.rtok,.sl 1 (s.lv.map qh) .none,s.dv,.int .i64 s.root,.bool s.small,.fn 75 [] [.ptr s.L 0]]
structure SpOk(s:Spc)(H:List Blk):Prop where
 c:H[s.S]?=some (.cells (spE s))
 w:WFn s.p s.L s.LL H
 b:s.LL<H.length
def SpOk.keep{s H H' bs}(h:SpOk s H)(hk:KpL bs H H')(h1:s.S∉bs)(h2:s.L∉bs)(h3:s.LL∉bs):SpOk s H':=by
 refine⟨hk.2 _ _ h.c h1,?_,qBt h.b hk.1⟩;obtain⟨c,hL,hc⟩:=h.w;exact⟨c,hk.2 _ _ hL h2,fun hn=>⟨(hc hn).1,hk.2 _ _ (hc hn).2 h3⟩⟩
def qon{d}(h:DagOk d){f}(hf:f<d.length)(L o):ym d f L o<d.length:=by
 have hn:=qBc hf;unfold ym;rw[hn];simp only;split
 . by_cases h2:2<=f
   . obtain⟨g1,g2,g3,g4,g5,g6⟩:=h.node f _ h2 hn;split<;>omega
   . have ht:=h.two;have:f=0\/f=1:=by omega
     rcases this with rfl|rfl
     . have e:=h.n0;rw[hn]at e;rw[Option.some.inj e];split<;>simp<;>omega
     have e:=h.n1;rw[hn]at e;rw[Option.some.inj e];split<;>simp<;>omega
 exact hf
def vJ(d:List Nd)(l w:Nat)(v:Nat)(node:Nat)(k:Nat):Nat:=(List.range k).foldl (fun node k=>ym d node (l+k) (v.testBit (w-1-k))) node
def JU(d l w v node k):vJ d l w v node (k+1)=ym d (vJ d l w v node k) (l+k) (v.testBit (w-1-k)):=by simp[vJ,qCt,qCe]
def Y1{d}(h:DagOk d){node}(hn:node<d.length)(l w v):∀k,vJ d l w v node k<d.length
 |0=>hn
 |k+1=>by rw[JU];exact qon h (Y1 h hn l w v k) _ _
def qpk(n i:Nat)(hn:n<2^63):zA .and .i64 ((n:Int).fdiv (2^i)) 1=some (.int .i64 (if n.testBit i=true then 1 else 0)):=by
 rw[ql9 n i hn];cases n.testBit i<;>rfl
def qab{s:Spc}{H}(h:SpOk s H){d tok}(hd:DagOk d)(hdv:s.dv=.sl 3 (d.map qI) tok){i l node val:Nat}{v:Var}(hv:s.p.vars[i]?=some v)(hl:s.lv[i]?=some (l:Int))(hw:0<=v.width/\v.width<=8)(hlw:l<=20)(hn:node<d.length)(hval:val<2^16)(T):
 qj prog GG 80 [.ptr s.S 0,.int .i64 node,.int .i64 i,.int .i64 val] ⟨H,T⟩ (fun r U'=>r=.int .i64 (vJ d l v.width.toNat val node v.width.toNat:Nat)/\KpL [] H U'.H):=by
 refine okzA func80 rfl rfl ?_;have hS:=h.c;simp only[spE,qu,qBB,qBy,hdv]at hS;have hwn:v.width=(v.width.toNat:Int):=by omega
 generalize hwN:v.width.toNat=w at *;simp[hS,hv,hwn];refine yU w (fun k ev U=>ev 0=.ptr s.S 0/\ev 1=.int .i64 (vJ d l w val node k:Nat)/\ev 2=.int .i64 (i:Int)/\ev 3=.int .i64 (val:Int)/\ev 9=.int .i64 (w:Int)/\ev 21=.int .i64 (w:Int)/\ev 22=.int .i64 (k:Int)/\KpL [] H U.H) ?_ ?_ ?_
 . exact⟨by simp,by simp[vJ],by simp,by simp,by simp,by simp,by simp,qF5⟩
 . rintro k ev ⟨H1,T1⟩ R hR hkw ⟨e0,e1,e2,e3,e9,e21,e22,hkp⟩;have hS1:=hkp.2 _ _ hS (by simp);have hnl:=Y1 hd hn l w val k;have hsucc:=JU d l w val node k;generalize vJ d l w val node k=nd at *;obtain⟨n,hnn⟩:∃n,d[nd]?=some n:=⟨_,qBc hnl⟩;have hk':(k:Int)<w:=(by omega);have hwk:=wr (n:=(k:Int)+1) (by omega) (by omega);have hlk:=wr (n:=(l:Int)+k) (by omega) (by omega);have hw1:=wr (n:=(w:Int)-1) (by omega) (by omega);have hw2:=wr (n:=(w:Int)-1-k) (by omega) (by omega);have hsub:(w:Int)-1-k=((w-1-k:Nat):Int):=(by omega);rw[hsub]at hw2;have hmin:min (w-1-k) 64=w-1-k:=(by omega);have hand:=qpk val (w-1-k) (by omega);have hneg:¬((w-1-k:Nat):Int)<0:=(by omega);unfold ym at hsucc;rw[hnn]at hsucc;simp only at hsucc;generalize hm:w-1-k=m at *;by_cases hlv:n.1=l+k
   . have hlv':(n.1:Int)=(l:Int)+k:=(by omega);rw[if_pos hlv]at hsucc
     cases hbit:val.testBit m with
     | true=>
      rw[hbit,if_pos rfl]at hsucc;rw[hbit]at hand;simp[-zA,qf8,qcD,VN,qkb,qf9,e0,e1,e2,e3,e9,e21,e22,hk',qd hS1,hS1,hnn,hl,hlk,hlv',hw1,hsub,hw2,hmin,IntKind.bits,hand,hneg,hwk];exact hR _ _ ⟨by simp[e0],by simp[hsucc],by simp[e2],by simp[e3],by simp[e9],by simp[e21],by simp,hkp.trans qF7⟩
     | false=>
      rw[hbit,if_neg (by simp)]at hsucc;rw[hbit]at hand;simp[-zA,qf8,qcD,VN,qkb,qf9,e0,e1,e2,e3,e9,e21,e22,hk',qd hS1,hS1,hnn,hl,hlk,hlv',hw1,hsub,hw2,hmin,IntKind.bits,hand,hneg,hwk];exact hR _ _ ⟨by simp[e0],by simp[hsucc],by simp[e2],by simp[e3],by simp[e9],by simp[e21],by simp,hkp.trans qF7⟩
   have hlv':¬(n.1:Int)=(l:Int)+k:=(by omega);rw[if_neg hlv]at hsucc;simp[-zA,qf8,qcD,VN,qkb,e0,e1,e2,e3,e9,e21,e22,hk',qd hS1,hS1,hnn,hl,hlk,hlv',hwk];exact hR _ _ ⟨by simp[e0],by simp[e1,hsucc],by simp[e2],by simp[e3],by simp[e9],by simp[e21],by simp,hkp.trans qF7⟩
 rintro ev ⟨H1,T1⟩ ⟨e0,e1,e2,e3,e9,e21,e22,hkp⟩;simp[e1,e21,e22];exact hkp
def qiP(m:AV)(fx:Nat->Option Nat)(H:List Blk):Prop :=
 (m=.nilm/\∀i,fx i=none)\/∃F es n,m=.map F/\H[F]?=some (.map es n)/\∀i:Nat,match fx i with
   |none=>jV (.int .i64 (i:Int)) es 0=some none
   |some x=>∃j,jV (.int .i64 (i:Int)) es 0=some (some (j,.int .i64 (x:Int)))
def qiP.keep{m fx H H' bs}(h:qiP m fx H)(hk:KpL bs H H')(hb:∀F,m=.map F->F∉bs):qiP m fx H':=by
 rcases h with h|⟨F,es,n,rfl,hF,h⟩
 . exact .inl h
 exact .inr ⟨F,es,n,rfl,hk.2 _ _ hF (hb F rfl),h⟩
def qiP.look{m fx H}(h:qiP m fx H)(i:Nat)(T):zz (Dof prog) ⟨H,T⟩ 96 m (.int .i64 (i:Int)) true=some (match fx i with|none=>.tup [.int .i64 0,.bool false]|some x=>.tup [.int .i64 (x:Int),.bool true]):=by
 rcases h with⟨rfl,h⟩|⟨F,es,n,rfl,hF,h⟩
 . rw[h i];simp[zz,zG,jV,qbJ]
 have:=h i
 cases hx:fx i with
 |none=>rw[hx]at this;simp[zz,zG,hF,this,qbJ]
 | some x=>
  rw[hx]at this;obtain⟨j,hj⟩:=this;simp[zz,zG,hF,hj]
def zL(n:Nat):List AV:=[.int .i64 (n:Int)]
def qmg(r:AV)(vals:List Nat)(H:List Blk)(n:Nat):Prop:=r=.sl 1 (vals.map zL) .tight\/∃N,r=.ms N 0 vals.length 1/\n<=N/\H[N]?=some (.cells (qz vals))
def wT(w:Nat)(o:Option Nat):List Nat:=match o with
 |none=>List.range (2^w)
 |some x=>[x]
def qAi(vals:List Nat)(H:List Blk)(r:AV)(U':St):Prop:=KpL [] H U'.H/\qmg r vals U'.H H.length
def qbX{s:Spc}{H}(h:SpOk s H){m fx}(hf:qiP m fx H){i:Nat}{v:Var}(hv:s.p.vars[i]?=some v)(hw:0<=v.width/\v.width<=8)(T):
 qj prog GG 137 [.ptr s.S 0,.int .i64 i,m] ⟨H,T⟩ (qAi (wT v.width.toNat (fx i)) H):=by
 refine okzA func137 rfl rfl ?_;have hS:=h.c;have hlk:=hf.look i T;simp only[spE,qu,qBB,qBy]at hS
 cases hfx:fx i with
 | some x=>
  rw[hfx]at hlk;simp[hlk,qe,ql];exact⟨qF5,.inl rfl⟩
 | none=>
  rw[hfx]at hlk;have hs1:=wN hw.1 (by omega);have hp8:2^v.width.toNat<=2^8:=qBL (by omega) (by omega);have hp0:0<2^v.width.toNat:=qD2 _;have hvs:wT v.width.toNat none=List.range (2^v.width.toNat):=rfl;rw[hvs];obtain⟨N,hN⟩:∃N,N=2^v.width.toNat:=⟨_,rfl⟩;rw[<- hN]at hs1 hp8 hp0⊢;simp[hlk,hS,hv,show ¬v.width<0 by omega,IntKind.bits,hs1,qD,show N≠0 by omega,show(N:Int)<=549755813888 by omega];rw[show List.replicate N (AV.int .i64 0)=qz (List.replicate N 0) by simp[qz]];refine yU N (fun k ev U=>ev 9=.ms H.length 0 N 1/\ev 32=.int .i64 (N:Int)/\ev 33=.int .i64 (k:Int)/\KpL [] H U.H/\∃W,W.length=N/\U.H[H.length]?=some (.cells (qz W))/\∀j,j<k->W[j]?=some j) ?_ ?_ ?_
  . exact⟨by simp,by simp,by simp,qF7,List.replicate N 0,by simp,lk0,fun j hj=>absurd hj (by omega)⟩
  . rintro k ev ⟨H1,T1⟩ R hR hk ⟨e9,e32,e33,hkp,W,hWl,bW,hWj⟩;have hk1:k+1<=N:=hk;have hwk:=wr (n:=(k:Int)+1) (by omega) (by omega);have hl1:=(qBa.1 bW).1;simp[e9,e32,e33,show(k:Int)<N by omega,hk1,bW,hWl,kR,hwk];refine hR _ _ ⟨by simp[e9],by simp[e32],by simp,hkp.setF (qBl _),W.set k k,by simp[hWl],qBg hl1,fun j hj=>?_⟩;by_cases hjk:j=k
    . subst hjk;rw[qBg (by omega)]
    rw[qBd (Ne.symm hjk)];exact hWj j (by omega)
  rintro ev ⟨H1,T1⟩ ⟨e9,e32,e33,hkp,W,hWl,bW,hWj⟩;have hWr:W=List.range N:=by
   apply qCb;intro j;by_cases hj:j<N
   . rw[hWj j hj,qDW hj]
   rw[qBI (by omega),qBI (by simp;omega)]
  rw[hWr]at bW;simp[e9,e32,e33];exact⟨hkp,.inr ⟨H.length,by simp,qBl _,bW⟩⟩
def ji(p:Problem)(i:Nat):Nat:=(zM p.vars i).toNat
def JH(lv:List Int)(i:Nat):Nat:=(lv.getD i 0).toNat
def wtP(p:Problem)(i v:Nat):Nat:=wtO ((ja p.vars.length p.dists).getD i none) (v:Int)
def qfr(p i v):wtP p i v<=lim:=quj _ _
def qbC(p:Problem)(lv:List Int)(d:List Nd)(fx:Nat->Option Nat):List Nat->Nat->Nat
 |[],node=>if node=0 then 0 else 1
 |i::r,node=>if node=0 then 0 else(wT (ji p i) (fx i)).foldl (fun s v=>sat (s+sat (wtP p i v*qbC p lv d fx r (vJ d (JH lv i) (ji p i) v node (ji p i))))) 0
def y9{α:Type}(f:α->Nat):∀(l:List α) (s:Nat),s<=lim->l.foldl (fun s v=>sat (s+f v)) s<=lim
 |[],s,h=>h
 |a::r,s,h=>y9 f r _ (Ky _)
def qjp(p lv d fx g node):qbC p lv d fx g node<=lim:=by
 cases g with
 |nil=>unfold qbC lim;split<;>omega
 | cons i r=>
  unfold qbC;split
  . exact qC7 _
  exact y9 _ _ _ (qC7 _)
abbrev Pt:=(Nat×Nat)×Nat×Nat
def ptE(q:Pt):AV×AV×Nat:=(.agg [.int .i64 (q.1.1:Int),.int .i64 (q.1.2:Int)],.int .i64 (q.2.1:Int),q.2.2)
def qer{x}:∀(E:List Pt) (k),(jV (.agg [.int .i64 (x.1:Int),.int .i64 (x.2:Int)]) (E.map ptE) k=some none/\∀q∈E,q.1≠x)\/∃j q,E[j]?=some q/\q.1=x/\jV (.agg [.int .i64 (x.1:Int),.int .i64 (x.2:Int)]) (E.map ptE) k=some (some (k+j,.int .i64 (q.2.1:Int)))
 |[],k=>.inl ⟨rfl,by simp⟩
 | e::E,k=>by
  have hk:Q8 (.agg [.int .i64 (x.1:Int),.int .i64 (x.2:Int)]) (.agg [.int .i64 (e.1.1:Int),.int .i64 (e.1.2:Int)])=some (decide (x=e.1)):=by
   obtain⟨a,b⟩:=x;obtain⟨⟨c,d⟩,r⟩:=e;simp only[Q8,je,kx,if_true];congr 1;rw[qB7];simp;omega
  by_cases h:x=e.1
  . right;have hd:decide (x=e.1)=true:=(by simpa using h);rw[hd]at hk;exact⟨0,e,rfl,h.symm,by simp[jV,ptE,hk]⟩
  have hd:decide (x=e.1)=false:=by simpa using h
  rw[hd]at hk;rcases qer (x:=x) E (k+1) with⟨h1,h2⟩|⟨j,q,h1,h2,h3⟩
  . left;refine⟨by simp only[qBn,ptE,jV,hk];exact h1,fun q hq=>?_⟩;rcases qBz.1 hq with rfl|hq
    . exact fun e=>h e.symm
    exact h2 q hq
  right;refine⟨j+1,q,by simpa using h1,h2,?_⟩;simp only[qBn,ptE,jV,hk];have:k+(j+1)=k+1+j:=by omega
  rw[this];exact h3
def qvD(a b):zG (Dof prog) 135 (.agg [.int .i64 a,.int .i64 b])=true:=by
 simp[zG,YA,kl,qR,zW,qCt]
def qpu(p:Problem)(lv:List Int)(d:List Nd)(fx:Nat->Option Nat)(g:List Nat)(K:Nat)(H:List Blk):Prop:=∃(E:List Pt) (n:Nat),H[K]?=some (.map (E.map ptE) n)/\∀q∈E,q.2.1=qbC p lv d fx (g.drop q.1.1) q.1.2
def qmg.len{r vals H n}(h:qmg r vals H n)(U):YT (Dof prog) U 28 r=some (.int .i64 (vals.length:Nat)):=by
 rcases h with rfl|⟨N,rfl,_⟩<;>simp
def qmg.at{r}{vals:List Nat}{H}{n:Nat}(h:qmg r vals H n){j x:Nat}(hj:vals[j]?=some x):∃a,zE (Dof prog) 28 r (.int .i64 (j:Int))=some a/\∀T,kQ (Dof prog) ⟨H,T⟩ 3 a=some (.int .i64 (x:Int)):=by
 have hl:=(qBa.1 hj).1;rcases h with rfl|⟨N,rfl,_,hN⟩
 . exact⟨.rptr [.int .i64 (x:Int)],by simp[hj,zL],fun T=>by simp⟩
 have hl':(j:Int)<vals.length:=by omega
 have hl1:j+1<=vals.length:=hl;exact⟨.ptr N j,by simp[hl'],fun T=>by simp[hN,hl1,z4 hj]⟩
def qmg.keep{r vals H H' n K}(h:qmg r vals H n)(hk:KpL [K] H H')(hK:K<n):qmg r vals H' n:=by
 rcases h with h|⟨N,h1,h2,h3⟩
 . exact .inl h
 exact .inr ⟨N,h1,h2,hk.2 _ _ h3 (by simp;omega)⟩
def que(s:Spc)(g:List Nat):Prop:=∀i∈g,∃(v:Var) (l:Nat),s.p.vars[i]?=some v/\0<=v.width/\v.width<=8/\s.lv[i]?=some (l:Int)/\l<=20/\∀w,(ja s.p.vars.length s.p.dists)[i]?=some (some w)->w≠[]/\w.length<=1000
def qxN(s:Spc)(d:List Nd)(fx:Nat->Option Nat)(g:List Nat)(K at_ node:Nat)(H:List Blk)(r:AV)(U':St):Prop :=
 r=.int .i64 (qbC s.p s.lv d fx (g.drop at_) node:Nat)/\KpL [K] H U'.H/\qpu s.p s.lv d fx g K U'.H
def qf0:List (Nat×Sch×List Nat):=[(13,.step 0 [15,14] (.step 1 [15,14] (.step 2 [15,14] (.step 3 [15,14] (.step 4 [15,14,13,6,5] (.step 7 [15,14,13,12] (.step 8 [15,14,13,12,9] (.step 9 [15,14,13,12] (.step 10 [15,14,13,12] (.step 11 [15,14,13,12] (.fork (.cons 5 (.step 6 [15,14,13] (.step 12 [15,14,13] (.step 13 [15,14] (.step 14 [15] (.step 15 [] (.done)))))) (.cons 12 (.step 5 [15,14,13,6] (.step 6 [15,14,13] (.step 13 [15,14] (.step 14 [15] (.step 15 [] (.done)))))) (.nil))))))))))))),[12,14])]
def qjl{s d tok}(hd:DagOk d)(hdv:s.dv=.sl 3 (d.map qI) tok){fx}(hfx:∀i x,fx i=some x->x<65536){m g}(hg:que s g)(hgl:g.length<=1000){K}(hSK:s.S≠K)(hLK:s.L≠K)(hLLK:s.LL≠K)(hmK:∀F,m=.map F->F≠K):
 ∀ (k at_),at_+k=g.length->∀(node) (H) (T),node<d.length->SpOk s H->qiP m fx H->qpu s.p s.lv d fx g K H ->
  qj prog GG 81 [.ptr s.S 0,.sl 1 (g.map zL) .none,m,.map K,.agg [.int .i64 at_,.int .i64 node]] ⟨H,T⟩ (qxN s d fx g K at_ node H):=by
 intro k
 induction k with
 | zero=>
  intro at_ hat node H T hn hs hf hmem;refine qFy ⟨false,qf0,[],[]⟩ qX func81 rfl (by kernel_rfl) ?_;have hat':(at_:Int)=g.length:=by omega
  obtain⟨E,n,hE,hEv⟩:=hmem;have fin:∀u,qxN s d fx g K at_ node H (.int .i64 (if node=0 then 0 else 1:Nat)) ⟨H++u,T⟩:=fun u=>⟨by rw[show g.drop at_=[] from qBS (by omega)];rfl,qF7,E,n,qd hE _,hEv⟩
  by_cases hn0:node=0
  . subst hn0;simp;exact fin _
  have hn0':¬(node:Int)=0:=by omega
  rw[if_neg hn0]at fin;simp[hn0,hat'];exact fin _
 | succ k ih=>
  intro at_ hat node H T hn hs hf hmem;refine qFy ⟨false,qf0,[],[]⟩ qX func81 rfl (by kernel_rfl) ?_;obtain⟨i,hi⟩:∃i,g[at_]?=some i:=⟨_,qBc (by omega)⟩;obtain⟨v,l,hv,hw0,hw8,hl,hl20,hwn⟩:=hg i (qBb hi);have hdr:g.drop at_=i::g.drop (at_+1):=by
   obtain⟨h1,h2⟩:=qBa.1 hi;rw[qBx h1,h2]
  have hat':¬(at_:Int)=g.length:=by omega
  obtain⟨E,n,hE,hEv⟩:=hmem;have hKl:=(qBa.1 hE).1;by_cases hn0:node=0
  . subst hn0;have fin:∀u,qxN s d fx g K at_ 0 H (.int .i64 0) ⟨H++u,T⟩:=fun u=>⟨by rw[hdr];rfl,qF7,E,n,qd hE _,hEv⟩
    simp;exact fin _
  have hfit:=qvD at_ node;rcases qer (x:=(at_,node)) E 0 with⟨hfind,hno⟩|⟨j,q,hj1,hj2,hfind⟩
  case inr=>
   have hqv:=hEv q (qBb hj1);rw[hj2]at hqv;have fin:∀u,qxN s d fx g K at_ node H (.int .i64 (q.2.1:Nat)) ⟨H++u,T⟩:=fun u=>⟨by rw[hqv],qF7,E,n,qd hE _,hEv⟩
   have hlk:∀(u:List Blk) (T:List (Option Nat)),zz (Dof prog) ⟨H++u,T⟩ 133 (.map K) (.agg [.int .i64 at_,.int .i64 node]) true=some (.tup [.int .i64 (q.2.1:Int),.bool true]):=fun u T=>by
    simp only[zz,qxT,hfit,if_true];simp[qd hE,hfind]
   simp[hn0,hat',hlk];exact fin _
  have hlk:∀(u:List Blk) (T:List (Option Nat)),zz (Dof prog) ⟨H++u,T⟩ 133 (.map K) (.agg [.int .i64 at_,.int .i64 node]) true=some (.tup [.int .i64 0,.bool false]):=fun u T=>by
   simp only[zz,qxT,hfit,if_true];simp[qd hE,hfind,qbJ]
  have hs0:=hs.keep (H':=H++[.cells [.int .i64 at_,.int .i64 node]]) (bs:=[]) qF7 (by simp) (by simp) (by simp);have hf0:=hf.keep (H':=H++[.cells [.int .i64 at_,.int .i64 node]]) (bs:=[]) qF7 (by simp);have hval:=qbX hs0 hf0 hv ⟨hw0,hw8⟩ T;obtain⟨vals,hvals⟩:∃vals,vals=wT v.width.toNat (fx i):=⟨_,rfl⟩;rw[<- hvals]at hval;have hvb:∀x∈vals,x<65536:=fun x hx=>by
   rw[hvals]at hx
   cases hfi:fx i with
   | none=>
    rw[hfi]at hx;have:=qB5.1 hx;have:2^v.width.toNat<=2^8:=qBL (by omega) (by omega);omega
   | some y=>
    rw[hfi]at hx;have:x=y:=by simpa[wT] using hx
    rw[this];exact hfx i y hfi
  have hvl:vals.length<=256:=by
   rw[hvals]
   cases hfi:fx i with
   |none=>simp only[wT,qEM];exact qB6 (qBL (by omega) (show v.width.toNat<=8 by omega)) (by decide)
   |some y=>simp[wT]
  have hsum:qbC s.p s.lv d fx (g.drop at_) node=vals.foldl (fun a x=>sat (a+sat (wtP s.p i x*qbC s.p s.lv d fx (g.drop (at_+1)) (vJ d l v.width.toNat x node v.width.toNat)))) 0:=by
   rw[hdr,hvals];simp only[qbC,if_neg hn0,show ji s.p i=v.width.toNat by simp[ji,zM,hv],show JH s.lv i=l by simp[JH,qBi,hl]]
  obtain⟨f,hff⟩:∃f:Nat->Nat,∀x,f x=sat (wtP s.p i x*qbC s.p s.lv d fx (g.drop (at_+1)) (vJ d l v.width.toNat x node v.width.toNat)):=⟨_,fun _=>rfl⟩;have hfle:∀x,f x<=lim:=fun x=>by rw[hff];exact Ky _
  simp only[<- hff]at hsum;simp[hn0,hat',hlk,hi,zL];refine qFC hval ?_;rintro r ⟨H1,T1⟩ ⟨hk1,hrow⟩;have hlen:=hrow.len;have hrow:qmg r vals H1 H.length:=hrow.imp id fun⟨N,h1,h2,h3⟩=>⟨N,h1,by simp at h2;omega,h3⟩
  simp[-YT,hlen];refine qFP vals (fun dn ev U=>ev 0=.ptr s.S 0/\ev 1=.sl 1 (g.map zL) .none/\ev 2=m/\ev 3=.map K/\ev 9=.ptr H.length 0/\ev 13=.int .i64 (dn.foldl (fun a x=>sat (a+f x)) 0:Nat)/\ev 14=.int .i64 (i:Int)/\ev 44=r/\ev 45=.int .i64 vals.length/\ev 46=.int .i64 dn.length/\KpL [K] H U.H/\qpu s.p s.lv d fx g K U.H/\qmg r vals U.H H.length/\U.H[H.length]?=some (.cells [.int .i64 at_,.int .i64 node])) ?_ ?_ ?_
  . exact⟨by simp,by simp,by simp,by simp,by simp,by simp,by simp,by simp,by simp,by simp,((qF7.trans hk1).sub (by simp)),(⟨E,n,hk1.2 _ _ (qd hE _) (by simp),hEv⟩),hrow,(hk1.2 _ _ lk0 (by simp))⟩
  . rintro dn x rest ev ⟨H2,T2⟩ R hR hdl hx hlt ⟨e0,e1,e2,e3,e9,e13,e14,e44,e45,e46,hkp,hme,hro,bX2⟩;obtain⟨a,ha1,ha2⟩:=hro.at hx;have hdw:=wr (n:=(dn.length:Int)+1) (by omega) (by omega);have hxb:=hvb x (qBb hx);have hs2:=hs.keep hkp (by simpa using hSK) (by simpa using hLK) (by simpa using hLLK);have hf2:=hf.keep hkp (fun F hF=>by simpa using hmK F hF);have hatw:=wr (n:=(at_:Int)+1) (by omega) (by omega);have hdes:=qab hs2 hd hdv hv hl ⟨hw0,hw8⟩ hl20 hn (val:=x) (by omega) T2;have hnl:=Y1 hd hn l v.width.toNat x v.width.toNat;have hffx:=hff x;have hfx1:=hfle x;generalize hnd:vJ d l v.width.toNat x node v.width.toNat=nd at *;simp[-zE,-kQ,e44,e45,e46,show(dn.length:Int)<vals.length by omega,ha1,ha2];rw[qP rfl];simp[zc,e0,e1,e2,e3,e9,e14,bX2,hatw];refine⟨qFC hdes ?_,qFC hdes ?_⟩
    all_goals
     rintro w ⟨H3,T3⟩ ⟨rfl,hk3⟩;have hk3':KpL [K] H2 H3:=hk3.sub (by simp);have bX3:=hk3.2 _ _ bX2 (by simp);have hs3:=hs2.keep hk3' (by simpa using hSK) (by simpa using hLK) (by simpa using hLLK);have hf3:=hf2.keep hk3' (fun F hF=>by simpa using hmK F hF);have hme3:qpu s.p s.lv d fx g K H3:=by
      obtain⟨E3,n3,h1,h2⟩:=hme;exact⟨E3,n3,hk3.2 _ _ h1 (by simp),h2⟩
     have hih:=ih (at_+1) (by omega) nd H3 T3 hnl hs3 hf3 hme3;simp only[qEs,qE3]at hih;simp[zc,bX3,hatw,zt,zX,qM];refine qFC hih ?_;rintro w ⟨H4,T4⟩ ⟨rfl,hk4,hme4⟩;have hs4:=hs3.keep hk4 (by simpa using hSK) (by simpa using hLK) (by simpa using hLLK);have bX4:=hk4.2 _ _ bX3 (by simp;omega);have hS4:=hs4.c;simp only[spE,qu,qBB,qBy]at hS4;obtain⟨o,ho⟩:∃o,(ja s.p.vars.length s.p.dists)[i]?=some o:=⟨_,qBc (by rw[ye];exact(qBa.1 hv).1)⟩;have hweigh:=qal s.p hs4.w ho (fun w hw=>hwn w (by rw[ho,hw])) (x:Int) T4;rw[<- show wtP s.p i x=wtO o (x:Int) by simp[wtP,qBi,ho]]at hweigh;have hwle:=qfr s.p i x;have hsle:=qjp s.p s.lv d fx (g.drop (at_+1)) nd;generalize qbC s.p s.lv d fx (g.drop (at_+1)) nd=sd at *;generalize wtP s.p i x=wx at *;have hacc:dn.foldl (fun a x=>sat (a+f x)) 0<=lim:=y9 f dn 0 (qC7 _);have hsnoc:(dn++[x]).foldl (fun a x=>sat (a+f x)) 0=sat (dn.foldl (fun a x=>sat (a+f x)) 0+f x):=(by rw[qCe];rfl);generalize dn.foldl (fun a x=>sat (a+f x)) 0=acc at *;have ht:=qaw wx sd hwle hsle;rw[<- hffx]at ht;have hp:=qj3 acc (f x) hacc hfx1;simp[zc,e0,e13,e14,hS4];refine qFC hweigh ?_;rintro w U ⟨rfl,rfl⟩;simp;refine qFz ht rfl ?_;simp;refine qFz hp rfl ?_;simp[e46,hdw];exact hR _ _ ⟨by simp[e0],by simp[e1],by simp[e2],by simp[e3],by simp[e9],by simp[hsnoc],by simp[e14],by simp[e44],by simp[e45],by simp,(hkp.trans hk3').trans hk4,hme4,(hro.keep hk3' hKl).keep hk4 hKl,bX4⟩
  rintro ev ⟨H2,T2⟩ ⟨e0,e1,e2,e3,e9,e13,e14,e44,e45,e46,hkp,hme,hro,bX2⟩;rw[<- hsum]at e13;obtain⟨E2,n2,hE2,hEv2⟩:=hme;have hK2:=(qBa.1 hE2).1;generalize hsd:qbC s.p s.lv d fx (g.drop at_) node=sd at *;obtain⟨E3,n3,hup,hEv3⟩:∃(E3:List Pt) (n3:Nat),zi (Dof prog) ⟨H2,T2⟩ 133 (.map K) (.agg [.int .i64 at_,.int .i64 node]) (.int .i64 (sd:Nat))=some ⟨H2.set K (.map (E3.map ptE) n3),T2⟩/\∀q∈E3,q.2.1=qbC s.p s.lv d fx (g.drop q.1.1) q.1.2:=by
   rcases qer (x:=(at_,node)) E2 0 with⟨hfind,_⟩|⟨j,q,hj1,hj2,hfind⟩
   . refine⟨E2++[((at_,node),sd,n2)],n2+1,?_,fun q hq=>?_⟩
     . simp only[zi,qxT,hfit,if_true];simp[hE2,hfind,ptE]
     . rcases qBp.1 hq with hq|hq
       . exact hEv2 q hq
       . rw[qBR]at hq;rw[hq];exact hsd.symm
   refine⟨E2.modify j fun q=>((at_,node),sd,q.2.2),n2,?_,fun q hq=>?_⟩
   . simp only[zi,qxT,hfit,if_true];simp[hE2,hfind];congr 2;apply qCb;intro k;simp only[qC8,qBD];by_cases hkj:j=k
     . subst hkj;cases E2[j]?<;>simp[ptE]
     cases E2[k]?<;>simp[hkj]
   obtain⟨k,hk⟩:=qBT hq;rw[qC8]at hk;by_cases hkj:j=k
   . subst hkj;rw[hj1]at hk;simp at hk;rw[<- hk];exact hsd.symm
   cases he:E2[k]? with
   |none=>rw[he]at hk;simp at hk
   | some y=>
    rw[he]at hk;simp[hkj]at hk;rw[<- hk];exact hEv2 y (qBb he)
  simp[e3,e9,e13,e45,e46,bX2,hup];exact⟨by rw[hsd],hkp.trans (qF8 (by simp)),E3,n3,qBg hK2,hEv3⟩
def eqE(s:Str)(n:Int):Ex:=.mk 15 0 [] [wS s,jH n]
def qet(s n):pre (eqE s n)=[eqE s n,wS s,jH n]:=by
 rw[jF];show eqE s n::wD [wS s,jH n]=_;rw[yJ,qfV,yJ,ZZ];rfl
def qqo{s}(hs:wq s=true){n}(h0:0<=n)(h1:n<=65535):EOk s 2 3 (eqE s n):=by
 refine⟨fun x hx=>?_,?_,by rw[qet];simp⟩
 . rw[qet]at hx;simp only[qBz,qCQ,or_false]at hx;rcases hx with rfl|rfl|rfl
   . exact⟨by simp[qt,eqE,qk,zB,Ex.op,Ex.n,Ex.name,Ex.args],by simp[eqE,Ex.op],by simp[eqE,Ex.op],by simp[eqE,Ex.op]⟩
   . exact⟨qi6 hs,by simp[wS,Ex.op],by simp[wS,Ex.op],fun _=>rfl⟩
   exact⟨qaS h0 h1,by simp[jH,Ex.op],by simp[jH,Ex.op],by simp[jH,Ex.op]⟩
 rw[wH];simp[eqE,wS,jH,wH]
def qgQ{p:Problem}(h:VQ p)(hv:qg p=0){i:Nat}{v:Var}(hi:p.vars[i]?=some v){n:Int}(h0:0<=n)(h1:n<=65535):zy p.vars (eqE v.name n)=0/\Jx (eqE v.name n):=by
 have hm:=qBb hi;have hve:=zf (z5 hv v hm);have ho:=qqo hve.1 h0 h1;exact⟨ho.valid (by omega) (by omega) (by unfold Qr;rw[qBJ];exact⟨v,hm,by simp⟩),ho.tame (h.names v hm) (by omega) (by omega)⟩
def qdm{s:Spc}{H}(h:SpOk s H){i:Nat}{v:Var}(hv:s.p.vars[i]?=some v)(n:Int)(T:List (Option Nat)):
 qj prog GG 83 [.ptr s.S 0,.int .i64 i,.int .i64 n] ⟨H,T⟩ (fun r U'=>r=.agg (qp (eqE v.name n))/\KpL [] H U'.H):=by
 refine qj.up (okzA func83 rfl rfl ?_);have hS:=h.c;simp only[spE,qu,qBB,qBy]at hS;simp[qd hS,hv,zt,zX,qM,qe,ql];refine⟨_,?_,rfl,qF7⟩;simp[eqE,qc,wS,jH,Leq,zm,yq]
def qlB(R tok)(h:R≠[]\/tok.known=true):Pure prog GG 82 [.sl 4 (R.map qp) tok] (.sl 4 (R.map qp) .tight):=by
 refine qFx o0 true qX func82 rfl (by kernel_rfl) ?_;have hs:=qkF (en:=qp) (sz:=4) (R:=R) (tok:=tok) (n:=(R.length:Int)) rfl h;simp[hs];rw[qs (by simp)];exact⟨by simp,qFG _⟩
def qbF(vs:List Var):List (Str×AV×Nat):=vs.zipIdx.map fun q=>(q.1.name,.bool true,q.2)
def qkl{vs:List Var}{i}{v:Var}(hv:vs[i]?=some v):qbF (vs.take (i+1))=qbF (vs.take i)++[(v.name,.bool true,i)]:=by
 have hl:=(qBa.1 hv).1;unfold qbF;rw[qBG,hv];simp[qD6,qCw (qFn hl)]
def qkm{vs:List Var}{j:Nat}{q:Str×AV×Nat}(h:(qbF vs)[j]?=some q):∃v,vs[j]?=some v/\q=(v.name,.bool true,j):=by
 unfold qbF at h;rw[qBD,qDx]at h
 cases hv:vs[j]? with
 |none=>rw[hv]at h;simp at h
 |some v=>rw[hv]at h;simp at h;exact⟨v,rfl,h.symm⟩
def qsb{vs:List Var}(hn:(vs.map (·.name)).Nodup){i}{v:Var}(hv:vs[i]?=some v)(k):jV (.str v.name) ((qbF (vs.take i)).map J8) k=some none:=by
 have hl:=(qBa.1 hv).1;rcases ZN (s:=v.name) (qbF (vs.take i)) k with⟨h1,_⟩|⟨j,q,h1,h2,_⟩
 . exact h1
 exfalso;obtain⟨w,hw,rfl⟩:=qkm h1;rw[qCj]at hw;split at hw
 . rename_i hj;obtain⟨hj1,hj2⟩:=qBa.1 hw;obtain⟨_,hi2⟩:=qBa.1 hv;have hp:=qC3.1 hn;have h2:w.name=v.name:=h2;exact hp j i (by simpa using hj1) (by simpa using hl) hj (by rw[qCR,qCR,hj2,hi2,h2])
 cases hw
def qsa{vs v}(hv:v∈vs)(k):∃j,jV (.str v.name) ((qbF vs).map J8) k=some (some (j,.bool true)):=by
 rcases ZN (s:=v.name) (qbF vs) k with⟨_,h2⟩|⟨j,q,h1,h2,h3⟩
 . exfalso;obtain⟨i,hi⟩:=qBT hv;have hm:(v.name,AV.bool true,i)∈qbF vs:=qBA.2 ⟨(v,i),qBb (i:=i) (by rw[qDx,hi];simp),rfl⟩;exact h2 _ hm rfl
 obtain⟨w,_,rfl⟩:=qkm h1;exact⟨k+j,h3⟩
def Wd{vs e}(hk:zy vs e=0)(ht:Jx e):zk e=0/\zO [3,24] e=[]/\(∀s∈zO [2] e,∃v∈vs,v.name=s)/\(zO [2] e).length<=100000:=by
 have he:zk e=0/\Yq e=false/\Zx vs e=false:=by
  unfold zy at hk;split at hk
  . rename_i h;exact absurd hk h
  rename_i h;split at hk
  . cases hk
  split at hk
  . cases hk
  rename_i h2 h3;exact⟨qB2.1 h,by simpa using h2,by simpa using h3⟩
 refine⟨he.1,?_,fun s hs=>?_,K6 ht.2.2⟩
 . have:=QZ (e:=e);rw[he.2.1]at this
   cases hl:zO [3,24] e with
   |nil=>rfl
   |cons a r=>rw[hl]at this;simp at this
 have:=QR (l:=vs) (e:=e);rw[he.2.2,qCV]at this;have h1:=this s hs;simp only[qCA,Bool.not_eq_false,Qr,qBJ]at h1;obtain⟨v,hv,hvn⟩:=h1;exact⟨v,hv,by simpa using hvn⟩
def qo2(p)(h:VQ p)(hv:qg p=0)(l:List Ex)(hf:l.length<=1000000)(hx:∀e∈l,zy p.vars e=0/\Jx e):Pure prog GG 208 [.agg (qu p),.sl 4 (l.map qp) .none] (.int .i64 0):=by
 refine okzP func208 rfl rfl ?_;have hval:=ke p h;rw[hv]at hval;have hnd:=yX hv;have hvl:=h.vars;simp only[qu]at hval;simp;refine qFz hval (by simp) ?_;simp;refine qFP l (fun d ev U=>ev 1=.sl 4 (l.map qp) .none/\ev 2=.ptr 0 0/\ev 17=.sl 4 (l.map qp) .none/\ev 18=.int .i64 l.length/\ev 19=.int .i64 d.length/\∃u T,U=⟨.cells (qu p)::u,T⟩) ?_ ?_ ?_
 . exact⟨by simp,by simp,by simp,by simp,by simp,_,_,rfl⟩
 . rintro d e rest ev U R hR hd hxe hlt ⟨e1,e2,e17,e18,e19,u,T,rfl⟩;have hdw:=wr (n:=(d.length:Int)+1) (by omega) (by omega);have hlt':(d.length:Int)<l.length:=(by omega);obtain⟨hk,ht⟩:=hx e (qBb hxe);have hev:=Ki e ht.1 (by have:=ht.2.1;omega);rw[(Wd hk ht).1]at hev;have henc:=qc e;rw[henc]at hev;simp[e17,e18,e19,hlt',hxe,henc];refine qFz hev (by simp) ?_;simp[e19,hdw];exact hR _ _ ⟨by simp[e1],by simp[e2],by simp[e17],by simp[e18],by simp,_,_,rfl⟩
 rintro ev U ⟨e1,e2,e17,e18,e19,u,T,rfl⟩;simp[e2,e18,e19];refine qFP p.vars (fun d ev U=>ev 1=.sl 4 (l.map qp) .none/\ev 7=.map (u.length+1)/\ev 29=.sl 4 (p.vars.map qG) .none/\ev 30=.int .i64 p.vars.length/\ev 31=.int .i64 d.length/\U.H[u.length+1]?=some (.map ((qbF (p.vars.take d.length)).map J8) d.length)) ?_ ?_ ?_
 . exact⟨by simp[e1],by simp,by simp,by simp,by simp,by simp[qbF]⟩
 . rintro d v rest ev ⟨H1,T1⟩ R hR hd hxv hlt ⟨e1,e7,e29,e30,e31,bM⟩;have hdw:=wr (n:=(d.length:Int)+1) (by omega) (by omega);have hlt':(d.length:Int)<p.vars.length:=(by omega);have hfn:=qsb hnd hxv 0;have ht1:=qkl hxv;have hMl:=(qBa.1 bM).1;have hup:∀(w:List Blk) (T:List (Option Nat)),zi (Dof prog) ⟨H1++w,T⟩ 313 (.map (u.length+1)) (.str v.name) (.bool true)=some ⟨H1.set (u.length+1) (.map ((qbF (p.vars.take (d.length+1))).map J8) (d.length+1))++w,T⟩:=fun w T=>by
    rw[ht1,qCi];generalize (qbF (p.vars.take d.length)).map J8=E at *;simp[zi,qd bM,zG,hfn,kI bM,J8]
   generalize hE2:(qbF (p.vars.take (d.length+1))).map J8=E2 at *;simp[e7,e29,e30,e31,hlt',hxv,hup,hdw];refine hR _ _ ⟨by simp[e1],by simp[e7],by simp[e29],by simp[e30],by simp,?_⟩;rw[qBe,qBK,hE2];exact qd (qBg hMl) _
 rintro ev ⟨H1,T1⟩ ⟨e1,e7,e29,e30,e31,bM⟩;rw[qCX]at bM;simp[e1,e30,e31];refine qFP l (fun d ev U=>ev 7=.map (u.length+1)/\ev 39=.sl 4 (l.map qp) .none/\ev 40=.int .i64 l.length/\ev 41=.int .i64 d.length/\U.H[u.length+1]?=some (.map ((qbF p.vars).map J8) p.vars.length)) ?_ ?_ ?_
 . exact⟨by simp[e7],by simp,by simp,by simp,bM⟩
 . rintro d e rest ev ⟨H2,T2⟩ R hR hd hxe hlt ⟨e7,e39,e40,e41,bM⟩;have hdw:=wr (n:=(d.length:Int)+1) (by omega) (by omega);obtain⟨hk,ht⟩:=hx e (qBb hxe);obtain⟨_,h0,hall,hfit⟩:=Wd hk ht;have ha:=QE e ht.1 ht.2.2;have hna:=Z5 e ht.1 ht.2.2;have henc:=qc e;rw[h0]at ha;rw[henc]at ha hna;generalize zO [2] e=N at *;simp[e39,e40,e41,show(d.length:Int)<l.length by omega,hxe,henc];refine qFz ha (by simp) ?_;simp;refine qFz hna (by simp) ?_;simp;refine qFP N (fun dn ev U=>ev 7=.map (u.length+1)/\ev 39=.sl 4 (l.map qp) .none/\ev 40=.int .i64 l.length/\ev 41=.int .i64 d.length/\ev 50=.sl 1 (N.map jo) .none/\ev 51=.int .i64 N.length/\ev 52=.int .i64 dn.length/\U.H[u.length+1]?=some (.map ((qbF p.vars).map J8) p.vars.length)) ?_ ?_ ?_
   . exact⟨by simp[e7],by simp[e39],by simp[e40],by simp[e41],by simp,by simp,by simp,qd bM _⟩
   . rintro dn s rest2 ev ⟨H3,T3⟩ R2 hR2 hd2 hxs hlt2 ⟨e7,e39,e40,e41,e50,e51,e52,bM⟩;have hdw2:=wr (n:=(dn.length:Int)+1) (by omega) (by omega);obtain⟨v,hvm,hvn⟩:=hall s (qBb hxs);obtain⟨j,hj⟩:=qsa hvm 0;rw[hvn]at hj;have hlk:zz (Dof prog) ⟨H3,T3⟩ 313 (.map (u.length+1)) (.str s) false=some (.bool true):=by
      generalize (qbF p.vars).map J8=E at *;simp[zz,bM,zG,hj]
     simp[e7,e50,e51,e52,show(dn.length:Int)<N.length by omega,hxs,hlk,hdw2];exact hR2 _ _ ⟨by simp[e7],by simp[e39],by simp[e40],by simp[e41],by simp[e50],by simp[e51],by simp,bM⟩
   rintro ev ⟨H3,T3⟩ ⟨e7,e39,e40,e41,e50,e51,e52,bM⟩;simp[e41,e51,e52,hdw];exact hR _ _ ⟨by simp[e7],by simp[e39],by simp[e40],by simp,bM⟩
 rintro ev ⟨H2,T2⟩ ⟨e7,e39,e40,e41,bM⟩;simp[e40,e41]
def WU(p)(h:VQ p)(hv:qg p=0)(hv20:p.vars.length<=20)(hb:kw p.vars (qJ p)<=18)(l)(hf:l.length<=1000000)(hx:∀e∈l,zy p.vars e=0/\Jx e):
 Pure prog GG 139 [.agg (qu p),.sl 4 (l.map qp) .none] (.tup [.bool (jK p.vars l),.int .i64 0]):=by
 refine okzP func139 rfl rfl ?_;have hc:=qo2 p h hv l hf hx;have hs:=Zn p l h hv20 hb (by show l.length<_;omega) (fun e he=>(hx e he).2);have hsb:Ys p l=jK p.vars l:=by
  have:l.all (wP p.vars)=true:=qBk.2 fun e he=>decide_eq_true (hx e he).1
  unfold Ys;rw[this];simp[hv]
 rw[hsb]at hs;simp only[qu]at hc hs;simp;refine qFz hc (by simp) ?_;simp;refine qFz hs (by simp) ?_;simp
def Yy(p:Problem)(i:Nat):Str:=match p.vars[i]? with
 |some v=>v.name
 |none=>[]
noncomputable def qeb(p:Problem)(fx:Nat->Option Nat):List Nat->List Ex->Nat
 |[],R=>if jK p.vars R=true then 1 else 0
 |i::r,R=>if jK p.vars R=true then(wT (ji p i) (fx i)).foldl (fun s v=>sat (s+sat (wtP p i v*qeb p fx r (R++[eqE (Yy p i) (v:Int)])))) 0 else 0
def qjn(p fx g R):qeb p fx g R<=lim:=by
 cases g with
 |nil=>unfold qeb lim;split<;>omega
 | cons i r=>
  unfold qeb;split
  . exact y9 _ _ _ (qC7 _)
  exact qC7 _
def quU:Tok->Tok
 |.chain .. =>.none
 |t=>t
def qtx(R:List Ex)(tok:Tok):Prop:=R≠[]\/tok=.tight
def qtx.p{R tok}(h:qtx R tok):R≠[]\/(quU tok).known=true:=h.imp id fun e=>by rw[e];rfl
def qfZ:List (Nat×Sch×List Nat):=[(10,.step 0 [10,9,8,7,1] (.step 1 [10,9,8,7] (.step 2 [10,9,8,7] (.step 3 [10,9,8,7,5,4] (.step 4 [10,9,8,7,5] (.step 5 [10,9,8,7] (.step 6 [10,9,8,7] (.step 7 [10,9,8] (.step 8 [10,9] (.step 9 [10] (.step 10 [] (.done))))))))))),[7]),(11,.step 0 [18,17] (.step 1 [18,17,16,15,9,4,3,2] (.step 2 [18,17,16,15,9,4,3] (.step 3 [18,17,16,15,9,4] (.step 4 [18,17,16,15,9] (.step 5 [18,17,16,15,9,7,6] (.step 6 [18,17,16,15,9,7] (.step 7 [18,17,16,15,9] (.step 8 [18,17,16,15,9] (.step 10 [18,17,16,15] (.step 11 [18,17,16,15,12] (.step 12 [18,17,16,15] (.step 13 [18,17,16,15] (.step 14 [18,17,16,15] (.step 9 [18,17,16,15] (.step 15 [18,17,16] (.step 16 [18,17] (.step 17 [18] (.step 18 [] (.done))))))))))))))))))),[9,15])]
def qmN{s}(hvq:VQ s.p)(hvp:qg s.p=0)(hv20:s.p.vars.length<=20)(hb:kw s.p.vars (qJ s.p)<=18){fx}(hfx:∀i x,fx i=some x->x<65536){m}:
 ∀ (g) (R) (tok) (H) (T),que s g->(∀e∈R,zy s.p.vars e=0/\Jx e)->R.length+g.length<=100000->qtx R tok->SpOk s H->qiP m fx H ->
  qj prog GG 84 [.ptr s.S 0,.sl 1 (g.map zL) .none,m,.sl 4 (R.map qp) tok] ⟨H,T⟩ (fun r U'=>r=.int .i64 (qeb s.p fx g R:Nat)/\KpL [] H U'.H):=by
 intro g
 induction g with
 | nil=>
  intro R tok H T hg hR hlen htok hs hf;refine qFy ⟨false,qfZ,[],[]⟩ qX func84 rfl (by kernel_rfl) ?_;have hsv:=WU s.p hvq hvp hv20 hb R (by omega) hR;have hS:=hs.c;simp only[spE,qu,qBB,qBy]at hS;simp only[qu]at hsv;have hst:qeb s.p fx [] R=if jK s.p.vars R=true then 1 else 0:=rfl
  rw[hst];simp[hS];refine qFA hsv (by cases tok<;>simp) (by cases tok<;>simp[zm,Leq,qFI]) ?_
  cases hsol:jK s.p.vars R with
  | false=>
   simp[unA];exact qF5
  | true=>
   simp[unA];exact qF5
 | cons i r ih=>
  intro R tok H T hg hR hlen htok hs hf;refine qFy ⟨false,qfZ,[],[]⟩ qX func84 rfl (by kernel_rfl) ?_;have hsv:=WU s.p hvq hvp hv20 hb R (by omega) hR;have hS:=hs.c;simp only[spE,qu,qBB,qBy]at hS;simp only[qu]at hsv;obtain⟨v,l,hv,hw0,hw8,hl,hl20,hwn⟩:=hg i (by simp);have hval:=qbX hs hf hv ⟨hw0,hw8⟩ T;obtain⟨vals,hvals⟩:∃vals,vals=wT v.width.toNat (fx i):=⟨_,rfl⟩;rw[<- hvals]at hval;have hvb:∀x∈vals,x<65536:=fun x hx=>by
   rw[hvals]at hx
   cases hfi:fx i with
   | none=>
    rw[hfi]at hx;have:=qB5.1 hx;have:2^v.width.toNat<=2^8:=qBL (by omega) (by omega);omega
   | some y=>
    rw[hfi]at hx;have:x=y:=by simpa[wT] using hx
    rw[this];exact hfx i y hfi
  have hvl:vals.length<=256:=by
   rw[hvals]
   cases hfi:fx i with
   |none=>simp only[wT,qEM];exact qB6 (qBL (by omega) (show v.width.toNat<=8 by omega)) (by decide)
   |some y=>simp[wT]
  have hsum:qeb s.p fx (i::r) R=if jK s.p.vars R=true then vals.foldl (fun a x=>sat (a+sat (wtP s.p i x*qeb s.p fx r (R++[eqE v.name (x:Int)])))) 0 else 0:=by
   rw[hvals,<- show ji s.p i=v.width.toNat by simp[ji,zM,hv],<- show Yy s.p i=v.name by simp[Yy,hv]];rfl
  obtain⟨f,hff⟩:∃f:Nat->Nat,∀x,f x=sat (wtP s.p i x*qeb s.p fx r (R++[eqE v.name (x:Int)])):=⟨_,fun _=>rfl⟩;have hfle:∀x,f x<=lim:=fun x=>by rw[hff];exact Ky _
  simp only[<- hff]at hsum;rw[hsum];simp[hS];refine qFA hsv (by cases tok<;>simp) (by cases tok<;>simp[zm,Leq,qFI]) ?_
  cases hsol:jK s.p.vars R with
  | false=>
   simp[unA];exact qF5
  | true=>
   simp[unA,zL,show ¬(r.length:Int)+1=0 by omega];refine qFC hval ?_;rintro w ⟨H1,T1⟩ ⟨hk1,hrow⟩;have hlenr:=hrow.len;simp[-YT,hlenr];refine qFP vals (fun dn ev U=>ev 0=.ptr s.S 0/\ev 1=.sl 1 ((i::r).map zL) .none/\ev 2=m/\ev 3=.sl 4 (R.map qp) tok/\ev 11=.int .i64 (dn.foldl (fun a x=>sat (a+f x)) 0:Nat)/\ev 38=w/\ev 39=.int .i64 vals.length/\ev 40=.int .i64 dn.length/\KpL [] H U.H/\qmg w vals U.H H.length) ?_ ?_ ?_
   . exact⟨by simp,by simp[zL],by simp,by simp,by simp,by simp,by simp,by simp,hk1,hrow⟩
   . rintro dn x rest ev ⟨H2,T2⟩ R2 hR2 hdl hx hlt ⟨e0,e1,e2,e3,e11,e38,e39,e40,hkp,hro⟩;obtain⟨a,ha1,ha2⟩:=hro.at hx;have hdw:=wr (n:=(dn.length:Int)+1) (by omega) (by omega);have hxb:=hvb x (qBb hx);have hs2:=hs.keep hkp (by simp) (by simp) (by simp);have hf2:=hf.keep hkp (by simp);have hcl:=qlB R (quU tok) htok.p;have heq:=qdm hs2 hv (x:Int) T2;have hek:=qgQ hvq hvp hv (n:=(x:Int)) (by omega) (by omega);have hae:=yP (eqE v.name (x:Int));have hl4:=zj (eqE v.name (x:Int));have hap:=fun H T=>qa3 (R:=R) (X:=eqE v.name (x:Int)) (H:=H) (T:=T) (by omega)
     have hih:=fun n H T=>ih (R++[eqE v.name (x:Int)]) (.chain n 1) H T (fun j hj=>hg j (by simp[hj])) (fun e he=>by
      rcases qBp.1 he with he|he
      . exact hR e he
      rw[qBR]at he;rwa[he]) (by rw[qBe];simp at hlen⊢;omega) (.inl (by simp))
     have hffx:=hff x;have hfx1:=hfle x;have hsl1:(((i::r).map zL).take (r.length+1)).drop 1=r.map zL:=by
      rw[qBh (by simp)];rfl
     generalize eqE v.name (x:Int)=X at *;simp[-zE,-kQ,e38,e39,e40,show(dn.length:Int)<vals.length by omega,ha1,ha2];rw[qP rfl];simp[-qV,zc,e3];refine qFA hcl (by cases tok<;>simp) (by cases tok<;>simp[quU]) ?_;simp[-qV,zc,e0,e1,zL];refine qFC heq ?_;rintro w3 ⟨H3,T3⟩ ⟨rfl,hk3⟩;have hs3:=hs2.keep hk3 (by simp) (by simp) (by simp);have hf3:=hf2.keep hk3 (by simp);have hS3:=hs3.c;simp only[spE,qu,qBB,qBy]at hS3;simp[-qV,zc,hae,hl4,qe,ql,hap];rw[qP rfl];obtain⟨o,ho⟩:∃o,(ja s.p.vars.length s.p.dists)[i]?=some o:=⟨_,qBc (by rw[ye];exact(qBa.1 hv).1)⟩;have hweigh:=qal s.p hs3.w ho (fun w hw=>hwn w (by rw[ho,hw])) (x:Int) (T3++[some 1]);rw[<- show wtP s.p i x=wtO o (x:Int) by simp[wtP,qBi,ho]]at hweigh;have hwle:=qfr s.p i x;have hsle:=qjn s.p fx r (R++[X]);have hih1:=hih T3.length H3 (T3++[some 1]) hs3 hf3;generalize qeb s.p fx r (R++[X])=sd at *;generalize wtP s.p i x=wx at *;have hacc:dn.foldl (fun a x=>sat (a+f x)) 0<=lim:=y9 f dn 0 (qC7 _);have hsnoc:(dn++[x]).foldl (fun a x=>sat (a+f x)) 0=sat (dn.foldl (fun a x=>sat (a+f x)) 0+f x):=(by rw[qCe];rfl);generalize dn.foldl (fun a x=>sat (a+f x)) 0=acc at *;have ht:=qaw wx sd hwle hsle;rw[<- hffx]at ht;have hp:=qj3 acc (f x) hacc hfx1;simp only[qCi,qBn,qBN]at hih1;have hsl2:zl (.sl 1 ([AV.int .i64 (i:Int)]::r.map zL) .none) (some (.int .i64 1)) none none=some (.sl 1 (r.map zL) .none):=by
      have h2:(1:Int)<=(r.length:Int)+1:=(by omega);simp[zl,zS,ki,zU,h2,qBh]
     simp[zc,e0,e1,e2,e11,hS3,zL,hsl2];refine qFC hweigh ?_;rintro w4 U ⟨rfl,rfl⟩;simp[zc];refine qFC hih1 ?_;rintro w5 ⟨H5,T5⟩ ⟨rfl,hk5⟩;simp[zc];refine qFz ht rfl ?_;simp[zc];refine qFz hp rfl ?_;simp[zc,e40,hdw];exact hR2 _ _ ⟨by simp[e0],by simp[e1,zL],by simp[e2],by simp[e3],by simp[hsnoc],by simp[e38],by simp[e39],by simp,(hkp.trans hk3).trans hk5,((hro.imp id fun⟨N,h1,h2,h3⟩=>⟨N,h1,h2,hk5.2 _ _ (hk3.2 _ _ h3 (by simp)) (by simp)⟩))⟩
   rintro ev ⟨H2,T2⟩ ⟨e0,e1,e2,e3,e11,e38,e39,e40,hkp,hro⟩;simp[e11,e39,e40];exact hkp
def NG(p:Problem):List (List Nat):=p.groups.map fun g=>g.map Int.toNat
def yM(g:List Nat):List AV:=[.sl 1 (g.map zL) .none]
def qak{p}(h:qg p=0):p.groups.map qA=(NG p).map yM:=by
 unfold NG;rw[qCI];refine qCf fun g hg=>?_
 simp only[qA,yM,Function.comp,qCI];congr 2;refine qCf fun i hi=>?_
 obtain⟨n,rfl,_⟩:=YW h i (qBH.2 ⟨g,hg,hi⟩);simp[zL]
def ZE{p}(h:qg p=0):p.groups.flatten=(NG p).flatten.map fun n:Nat=>(n:Int):=by
 unfold NG;have:∀(G:List (List Int)),(∀i∈G.flatten,∃n:Nat,i=n)->G.flatten=(G.map fun g=>g.map Int.toNat).flatten.map fun n:Nat=>(n:Int):=by
  intro G hG
  induction G with
  |nil=>rfl
  | cons g r ih=>
   rw[qBZ,qBn,qBZ,qCi,<- ih fun i hi=>hG i (by simp at hi⊢;exact .inr hi),qCI];congr 1;have:g=g.map id:=by simp
   rw[this,qCI];refine qCf fun i hi=>?_
   obtain⟨n,rfl⟩:=hG i (by simp[hi]);simp
 exact this _ fun i hi=>by obtain⟨n,h1,_⟩:=YW h i hi;exact⟨n,h1⟩
def AsR(r:AV)(a:List Int)(H:List Blk):Prop:=(∃tok,r=.sl 1 (a.map qh) tok)\/∃N,r=.ms N 0 a.length 1/\H[N]?=some (.cells (zd a))
def AsR.at{r}{a:List Int}{H}(h:AsR r a H){j:Nat}{x:Int}(hj:a[j]?=some x):∃u,zE (Dof prog) 28 r (.int .i64 (j:Int))=some u/\∀w T,kQ (Dof prog) ⟨H++w,T⟩ 3 u=some (.int .i64 x):=by
 have hl:=(qBa.1 hj).1;rcases h with⟨tok,rfl⟩|⟨N,rfl,hN⟩
 . exact⟨.rptr [.int .i64 x],by simp[hj],fun w T=>by simp⟩
 have hl':(j:Int)<a.length:=by omega
 have hl1:j+1<=a.length:=hl;have hdr:(zd a).drop j=.int .i64 x::(zd a).drop (j+1):=by
  obtain⟨h1,h2⟩:=qBa.1 (by rw[qbf,hj];rfl);rw[qBx h1,h2]
 exact⟨.ptr N j,by simp[hl'],fun w T=>by simp[qd hN,hdr,qQ,hl1]⟩
def AsR.at0{r}{a:List Int}{H}(h:AsR r a H){j:Nat}{x:Int}(hj:a[j]?=some x):∃u,zE (Dof prog) 28 r (.int .i64 (j:Int))=some u/\∀T,kQ (Dof prog) ⟨H,T⟩ 3 u=some (.int .i64 x):=by
 obtain⟨u,h1,h2⟩:=h.at hj;exact⟨u,h1,fun T=>by have:=h2 [] T;rwa[qBU]at this⟩
def AsR.len{r a H}(h:AsR r a H)(U):YT (Dof prog) U 28 r=some (.int .i64 (a.length:Nat)):=by
 rcases h with⟨tok,rfl⟩|⟨N,rfl,_⟩<;>simp
def AsR.keep{r a H H' bs}(h:AsR r a H)(hk:KpL bs H H')(hb:∀N o n z,r=.ms N o n z->N∉bs):AsR r a H':=by
 rcases h with h|⟨N,rfl,hN⟩
 . exact .inl h
 exact .inr ⟨N,rfl,hk.2 _ _ hN (hb _ _ _ _ rfl)⟩
def aN(a:List Int)(i:Nat):Nat:=(a.getD i 0).toNat
def Z4(s:Spc)(d:List Nd)(a:List Int)(l:List Nat):Nat:=l.foldl (fun node i=>vJ d (JH s.lv i) (ji s.p i) (aN a i) node (ji s.p i)) s.root
def VA(s:Spc)(a:List Int)(l:List Nat):List Ex:=s.R++l.map fun i=>eqE (Yy s.p i) (aN a i:Int)
structure SpG(s)(a:List Int)(l):Prop where
 gr:que s l
 val:∀i∈l,∃n:Nat,a[i]?=some (n:Int)/\n<65536
def qkM{g:List Nat}{tok:Tok}{k i:Nat}(h:g[k]?=some i):zE (Dof prog) 28 (.sl 1 (g.map zL) tok) (.int .i64 (k:Int))=some (.rptr [.int .i64 (i:Int)]):=by simp[h,zL]
def qp4{U:St}{i:Nat}:kQ (Dof prog) U 3 (.rptr [.int .i64 (i:Int)])=some (.int .i64 (i:Int)):=by simp
def qf1:List (Nat×Sch×List Nat):=[(21,.step 0 [11,10,9,8,1] (.step 1 [11,10,9,8] (.step 2 [11,10,9,8] (.step 3 [11,10,9,8] (.step 4 [11,10,9,8,7,6] (.step 5 [11,10,9,8,7,6] (.step 6 [11,10,9,8,7] (.step 7 [11,10,9,8] (.step 8 [11,10,9] (.step 9 [11,10] (.step 10 [11] (.step 11 [] (.done)))))))))))),[8])]
def qpH{G:List (List Nat)}{gi}(h:gi<=G.length):zl (.sl 1 (G.map yM) .none) none (some (.int .i64 (gi:Int))) none=some (.sl 1 ((G.take gi).map yM) .none):=by
 simp[zl,zS,ki,zU,h]
def qre{s}(hvp:qg s.p=0)(hsm:s.small=true){d tok}(hd:DagOk d)(hdv:s.dv=.sl 3 (d.map qI) tok)(hroot:s.root<d.length){fx}(hfx:∀i x,fx i=some x->x<65536){m gi g}(hgi:(NG s.p)[gi]?=some g)(hgl:∀g∈NG s.p,g.length<=1000)(hGl:(NG s.p).length<=1000)
 {r a H} (hg:que s g) (hpre:SpG s a ((NG s.p).take gi).flatten) (hs:SpOk s H) (hf:qiP m fx H) (ha:AsR r a H) (T):
 qj prog GG 44 [.ptr s.S 0,.int .i64 gi,r,m] ⟨H,T⟩ (fun v U'=>v=.int .i64 (qbC s.p s.lv d fx g (Z4 s d a ((NG s.p).take gi).flatten):Nat)/\KpL [] H U'.H):=by
 refine qFy ⟨false,qf1,[],[]⟩ qX func44 rfl (by kernel_rfl) ?_;have hS:=hs.c;have hgil:=(qBa.1 hgi).1;have hgil':(gi:Int)<(NG s.p).length:=by omega
 have hG:=qak hvp;simp only[spE,qu,qBB,qBy,hsm,hdv,hG]at hS;have hsl:=qpH (G:=NG s.p) (gi:=gi) (by omega);have htl:((NG s.p).take gi).length<=1000:=by rw[qBV];omega
 have htm:∀g∈(NG s.p).take gi,g.length<=1000:=fun g hg=>hgl g (qBW hg)
 obtain⟨PG,hPG⟩:∃PG,PG=(NG s.p).take gi:=⟨_,rfl⟩;rw[<- hPG]at hsl htl htm hpre⊢;simp[hS,hgi,yM,hsl];have hgg:=hgl g (qBb hgi);refine qFP PG (fun dn ev U=>ev 0=.ptr s.S 0/\ev 2=r/\ev 3=m/\ev 9=.sl 1 (g.map zL) .none/\ev 10=.int .i64 (Z4 s d a dn.flatten:Nat)/\ev 42=.sl 1 (PG.map yM) .none/\ev 43=.int .i64 PG.length/\ev 44=.int .i64 dn.length/\Z4 s d a dn.flatten<d.length/\KpL [] H U.H) ?_ ?_ ?_
 . exact⟨by simp,by simp,by simp,by simp,by simp[Z4],by simp,by simp,by simp,hroot,qF5⟩
 . rintro dn g1 rest ev ⟨H1,T1⟩ R hR hdl hx hlt ⟨e0,e2,e3,e9,e10,e42,e43,e44,hnl,hkp⟩;have hdw:=wr (n:=(dn.length:Int)+1) (by omega) (by omega);have hg1m:=qBb hx;have hg1l:=htm g1 hg1m;simp[e42,e43,e44,show(dn.length:Int)<PG.length by omega,hx,yM];refine qFP g1 (fun dg ev U=>ev 0=.ptr s.S 0/\ev 2=r/\ev 3=m/\ev 9=.sl 1 (g.map zL) .none/\ev 10=.int .i64 (Z4 s d a (dn.flatten++dg):Nat)/\ev 42=.sl 1 (PG.map yM) .none/\ev 43=.int .i64 PG.length/\ev 44=.int .i64 dn.length/\ev 48=.sl 1 (g1.map zL) .none/\ev 49=.int .i64 g1.length/\ev 50=.int .i64 dg.length/\Z4 s d a (dn.flatten++dg)<d.length/\KpL [] H U.H) ?_ ?_ ?_
   . exact⟨by simp[e0],by simp[e2],by simp[e3],by simp[e9],by simp[e10],by simp[e42],by simp[e43],by simp[e44],by simp,by simp,by simp,by simpa using hnl,hkp⟩
   . rintro dg i rest2 ev ⟨H2,T2⟩ R2 hR2 hdl2 hx2 hlt2 ⟨e0,e2,e3,e9,e10,e42,e43,e44,e48,e49,e50,hnl2,hkp2⟩;have hdw2:=wr (n:=(dg.length:Int)+1) (by omega) (by omega);have him:=qBH.2 ⟨g1,hg1m,qBb hx2⟩;obtain⟨v,l,hv,hw0,hw8,hl,hl20,_⟩:=hpre.gr i him;obtain⟨n,hna,hn16⟩:=hpre.val i him;have hs2:=hs.keep hkp2 (by simp) (by simp) (by simp);have ha2:=ha.keep hkp2 (by simp);obtain⟨u,hu1,hu2⟩:=ha2.at0 hna;have hdes:=qab hs2 hd hdv hv hl ⟨hw0,hw8⟩ hl20 hnl2 (val:=n) (by omega) T2;have hsn:Z4 s d a (dn.flatten++(dg++[i]))=vJ d l v.width.toNat n (Z4 s d a (dn.flatten++dg)) v.width.toNat:=by
      rw[<- qBQ];unfold Z4;rw[qCe];simp only[qBP,List.foldl_nil,show JH s.lv i=l by simp[JH,qBi,hl],show ji s.p i=v.width.toNat by simp[ji,zM,hv],show aN a i=n by simp[aN,qBi,hna]]
     have hnl3:=Y1 hd hnl2 l v.width.toNat n v.width.toNat;rw[<- hsn]at hdes hnl3;have hix:=qkM (tok:=.none) hx2;generalize Z4 s d a (dn.flatten++dg)=nd at *;generalize hn2:Z4 s d a (dn.flatten++(dg++[i]))=nd2 at *;simp[-zE,-kQ,e0,e2,e10,e48,e49,e50,show(dg.length:Int)<g1.length by omega,hix,qp4,hu1,hu2];refine qFC hdes ?_;rintro w ⟨H3,T3⟩ ⟨rfl,hk3⟩;simp[e50,hdw2];exact hR2 _ _ ⟨by simp[e0],by simp[e2],by simp[e3],by simp[e9],by simp,by simp[e42],by simp[e43],by simp[e44],by simp[e48],by simp[e49],by simp,by first|exact hnl3|(rwa[hn2]),hkp2.trans hk3⟩
   rintro ev ⟨H2,T2⟩ ⟨e0,e2,e3,e9,e10,e42,e43,e44,e48,e49,e50,hnl2,hkp2⟩;simp[e44,e49,e50,hdw];exact hR _ _ ⟨by simp[e0],by simp[e2],by simp[e3],by simp[e9],by simp[e10],by simp[e42],by simp[e43],by simp,by simpa using hnl2,hkp2⟩
 rintro ev ⟨H1,T1⟩ ⟨e0,e2,e3,e9,e10,e42,e43,e44,hnl,hkp⟩;dsimp only at hkp;have hH1l:=hkp.1;have hs1:=hs.keep hkp (by simp) (by simp) (by simp);have hf1:=hf.keep hkp (by simp);have hSl:=(qBa.1 hs.c).1;obtain⟨cw,hL,hcw⟩:=hs.w;have hLl:=(qBa.1 hL).1;have hLLl:=hs.b;have hs2:=hs1.keep (H':=H1++[.map [] 0]) (bs:=[]) qF7 (by simp) (by simp) (by simp);have hf2:=hf1.keep (H':=H1++[.map [] 0]) (bs:=[]) qF7 (by simp);have hmF:∀F,m=.map F->F≠H1.length:=fun F hF=>by
  rcases hf1 with⟨rfl,_⟩|⟨F',es,n,rfl,hF',_⟩
  . cases hF
  cases hF;have:=(qBa.1 hF').1;omega
 have hsu:=qjl hd hdv hfx hg hgg (K:=H1.length) (by omega) (by omega) (by omega) hmF g.length 0 (by omega) (Z4 s d a PG.flatten) (H1++[.map [] 0]) T1 hnl hs2 hf2 ⟨[],0,lk0,by simp⟩;simp only[qCy]at hsu;simp[e0,e3,e9,e10,e43,e44,zt,zX,qM];refine qFC hsu ?_;rintro w ⟨H3,T3⟩ ⟨rfl,hk3,_⟩;simp;refine hkp.trans ⟨by have:=hk3.1;simp at this;omega,fun k x hk _=>hk3.2 _ _ (qd hk _) (by have:=(qBa.1 hk).1;simp;omega)⟩
def qrd{s}(hvq:VQ s.p)(hvp:qg s.p=0)(hv20:s.p.vars.length<=20)(hb:kw s.p.vars (qJ s.p)<=18)(hsm:s.small=false)(hRk:∀e∈s.R,zy s.p.vars e=0/\Jx e)(hRl:s.R.length<=50000)(hrt:qtx s.R s.rtok){fx}(hfx:∀i x,fx i=some x->x<65536){m gi g}(hgi:(NG s.p)[gi]?=some g)(hgl:∀g∈NG s.p,g.length<=1000)(hGl:(NG s.p).length<=1000)(hfl:(NG s.p).flatten.length<=1000)
 {r a H} (hg:que s g) (hpre:SpG s a ((NG s.p).take gi).flatten) (hs:SpOk s H) (hf:qiP m fx H) (ha:AsR r a H) (T):
 qj prog GG 44 [.ptr s.S 0,.int .i64 gi,r,m] ⟨H,T⟩ (fun v U'=>v=.int .i64 (qeb s.p fx g (VA s a ((NG s.p).take gi).flatten):Nat)/\KpL [] H U'.H):=by
 refine qFy ⟨false,qf1,[],[]⟩ qX func44 rfl (by kernel_rfl) ?_;have hS:=hs.c;have hgil:=(qBa.1 hgi).1;have hgil':(gi:Int)<(NG s.p).length:=by omega
 have hG:=qak hvp;simp only[spE,qu,qBB,qBy,hsm,hG]at hS;have hsl:=qpH (G:=NG s.p) (gi:=gi) (by omega);have htl:((NG s.p).take gi).length<=1000:=by rw[qBV];omega
 have htm:∀g∈(NG s.p).take gi,g.length<=1000:=fun g hg=>hgl g (qBW hg)
 have hfl2:((NG s.p).take gi).flatten.length<=1000:=by
  have:(NG s.p).flatten=((NG s.p).take gi).flatten++((NG s.p).drop gi).flatten:=by rw[<- qCU,qBX]
  rw[this,qBe]at hfl;omega
 obtain⟨PG,hPG⟩:∃PG,PG=(NG s.p).take gi:=⟨_,rfl⟩;rw[<- hPG]at hsl htl htm hpre hfl2⊢;simp[hS,hgi,yM,hsl];have hgg:=hgl g (qBb hgi);have hrl:∀l,(VA s a l).length=s.R.length+l.length:=fun l=>by simp[VA]
 refine qFP PG (fun dn ev U=>ev 0=.ptr s.S 0/\ev 2=r/\ev 3=m/\ev 9=.sl 1 (g.map zL) .none/\(∃tok,ev 15=.sl 4 ((VA s a dn.flatten).map qp) tok/\qtx (VA s a dn.flatten) tok)/\ev 81=.sl 1 (PG.map yM) .none/\ev 82=.int .i64 PG.length/\ev 83=.int .i64 dn.length/\KpL [] H U.H) ?_ ?_ ?_
 . exact⟨by simp,by simp,by simp,by simp,⟨s.rtok,by simp[VA],by simpa[VA] using hrt⟩,by simp,by simp,by simp,qF5⟩
 . rintro dn g1 rest ev ⟨H1,T1⟩ R hR hdl hx hlt ⟨e0,e2,e3,e9,⟨tok,e15,htok⟩,e81,e82,e83,hkp⟩;have hdw:=wr (n:=(dn.length:Int)+1) (by omega) (by omega);have hg1m:=qBb hx;have hg1l:=htm g1 hg1m;simp[e81,e82,e83,show(dn.length:Int)<PG.length by omega,hx,yM];refine qFP g1 (fun dg ev U=>ev 0=.ptr s.S 0/\ev 2=r/\ev 3=m/\ev 9=.sl 1 (g.map zL) .none/\(∃tok,ev 15=.sl 4 ((VA s a (dn.flatten++dg)).map qp) tok/\qtx (VA s a (dn.flatten++dg)) tok)/\ev 81=.sl 1 (PG.map yM) .none/\ev 82=.int .i64 PG.length/\ev 83=.int .i64 dn.length/\ev 87=.sl 1 (g1.map zL) .none/\ev 88=.int .i64 g1.length/\ev 89=.int .i64 dg.length/\KpL [] H U.H) ?_ ?_ ?_
   . exact⟨by simp[e0],by simp[e2],by simp[e3],by simp[e9],⟨tok,by simp[e15],by simpa using htok⟩,by simp[e81],by simp[e82],by simp[e83],by simp,by simp,by simp,hkp⟩
   . rintro dg i rest2 ev ⟨H2,T2⟩ R2 hR2 hdl2 hx2 hlt2 ⟨e0,e2,e3,e9,⟨tok,e15,htok⟩,e81,e82,e83,e87,e88,e89,hkp2⟩;have hdw2:=wr (n:=(dg.length:Int)+1) (by omega) (by omega);have him:=qBH.2 ⟨g1,hg1m,qBb hx2⟩;obtain⟨v,l,hv,hw0,hw8,hl,hl20,_⟩:=hpre.gr i him;obtain⟨n,hna,hn16⟩:=hpre.val i him;have hs2:=hs.keep hkp2 (by simp) (by simp) (by simp);have ha2:=ha.keep hkp2 (by simp);obtain⟨u,hu1,hu2⟩:=ha2.at0 hna;have heq:=qdm hs2 hv (n:Int) T2;have hsn:VA s a (dn.flatten++(dg++[i]))=VA s a (dn.flatten++dg)++[eqE v.name (n:Int)]:=by
      have h2:Yy s.p i=v.name:=(by simp[Yy,hv]);have h3:aN a i=n:=(by simp[aN,qBi,hna]);simp[VA,h2,h3]
     have hlen2:(VA s a (dn.flatten++dg)).length<=60000:=by
      rw[hrl];have:(dn.flatten++dg).length<=PG.flatten.length:=by rw[hdl,hdl2];simp
      omega
     have hcl:=qlB (VA s a (dn.flatten++dg)) (quU tok) htok.p;have hae:=yP (eqE v.name (n:Int));have hl4:=zj (eqE v.name (n:Int));have hap:=fun H T=>qa3 (R:=VA s a (dn.flatten++dg)) (X:=eqE v.name (n:Int)) (H:=H) (T:=T) (by omega)
     have hix:=qkM (tok:=.none) hx2;generalize VA s a (dn.flatten++dg)=R0 at *;generalize eqE v.name (n:Int)=X at *;simp[-zE,-kQ,e87,e88,e89,show(dg.length:Int)<g1.length by omega,hix,qp4];rw[qP rfl];simp[-qV,-zE,-kQ,zc,e15];refine qFA hcl (by cases tok<;>simp) (by cases tok<;>simp[quU]) ?_;simp[-qV,-zE,-kQ,zc,e0,e2,hu1,hu2];refine qFC heq ?_;rintro w ⟨H3,T3⟩ ⟨rfl,hk3⟩;simp[-qV,zc,hae,hl4,qe,ql,hap,e89,hdw2];refine hR2 _ _ ⟨by simp[e0],by simp[e2],by simp[e3],by simp[e9],⟨.chain T3.length 1,by simp[hsn],by rw[hsn];exact .inl (by simp)⟩,by simp[e81],by simp[e82],by simp[e83],by simp[e87],by simp[e88],by simp,hkp2.trans hk3⟩
   rintro ev ⟨H2,T2⟩ ⟨e0,e2,e3,e9,⟨tok,e15,htok⟩,e81,e82,e83,e87,e88,e89,hkp2⟩;simp[e83,e88,e89,hdw];exact hR _ _ ⟨by simp[e0],by simp[e2],by simp[e3],by simp[e9],⟨tok,by simp[e15],by simpa using htok⟩,by simp[e81],by simp[e82],by simp,hkp2⟩
 rintro ev ⟨H1,T1⟩ ⟨e0,e2,e3,e9,⟨tok,e15,htok⟩,e81,e82,e83,hkp⟩;have hs1:=hs.keep hkp (by simp) (by simp) (by simp);have hf1:=hf.keep hkp (by simp);have hkn:∀e∈VA s a PG.flatten,zy s.p.vars e=0/\Jx e:=fun e he=>by
  rcases qBp.1 he with he|he
  . exact hRk e he
  obtain⟨i,hi,rfl⟩:=qBA.1 he;obtain⟨v,l,hv,_⟩:=hpre.gr i hi;obtain⟨n,hna,hn16⟩:=hpre.val i hi;rw[show Yy s.p i=v.name by simp[Yy,hv],show aN a i=n by simp[aN,qBi,hna]];exact qgQ hvq hvp hv (by omega) (by omega)
 have htr:=qmN hvq hvp hv20 hb hfx (m:=m) g (VA s a PG.flatten) tok H1 T1 hg hkn (by rw[hrl];omega) htok hs1 hf1;simp[e0,e3,e9,e15,e82,e83];refine qFC htr ?_;rintro w ⟨H3,T3⟩ ⟨rfl,hk3⟩;simp;exact hkp.trans hk3
def qdB{s H}(hs:SpOk s H)(hw:∀v∈s.p.vars,0<=v.width/\v.width<=8)(hvl:s.p.vars.length<=1000){r a}(ha:AsR r a H)(T):
 qj prog GG 35 [.ptr s.S 0,r] ⟨H,T⟩ (fun v U'=>v=.bool (qB s.p.vars a)/\KpL [] H U'.H):=by
 refine okzA func35 rfl rfl ?_;have hS:=hs.c;have hlen:=ha.len;simp only[spE,qu,qBB,qBy]at hS;obtain⟨res,hres⟩:∃res,res=qB s.p.vars a:=⟨_,rfl⟩;rw[<- hres];unfold qB at hres;by_cases hl:a.length=s.p.vars.length
 case neg=>
  have hl':¬(a.length:Int)=s.p.vars.length:=by omega
  have:res=false:=by rw[hres];simp[hl]
  subst this;simp[-YT,hlen,hS,show YT (Dof prog) ⟨H,T⟩ 22 (.sl 4 (s.p.vars.map qG) .none)=some (.int .i64 (s.p.vars.length:Nat)) by simp,hl'];exact qF5
 simp[-YT,hlen,hS,show ∀U,YT (Dof prog) U 22 (.sl 4 (s.p.vars.map qG) .none)=some (.int .i64 (s.p.vars.length:Nat)) from fun U=>by simp,show(a.length:Int)=s.p.vars.length by omega];refine qFP s.p.vars (fun d ev U=>ev 1=r/\ev 20=.sl 4 (s.p.vars.map qG) .none/\ev 21=.int .i64 s.p.vars.length/\ev 22=.int .i64 d.length/\KpL [] H U.H/\res=((s.p.vars.drop d.length).zip (a.drop d.length)).all zD) ?_ ?_ ?_
 . exact⟨by simp,by simp,by simp,by simp,qF5,by simpa using(by rw[hres];simp[hl])⟩
 . rintro d v rest ev ⟨H1,T1⟩ R hR hd hx hlt ⟨e1,e20,e21,e22,hkp,hr⟩;have hdw:=wr (n:=(d.length:Int)+1) (by omega) (by omega);have hlt':(d.length:Int)<s.p.vars.length:=(by omega);have hda:d.length<a.length:=(by omega);obtain⟨x,hax⟩:∃x,a[d.length]?=some x:=⟨_,qBc hda⟩;have hvd:s.p.vars.drop d.length=v::s.p.vars.drop (d.length+1):=by
    obtain⟨h1,h2⟩:=qBa.1 hx;rw[qBx h1,h2]
   have had:a.drop d.length=x::a.drop (d.length+1):=by
    obtain⟨h1,h2⟩:=qBa.1 hax;rw[qBx h1,h2]
   rw[hvd,had,qEH,qCz]at hr;have hwv:=hw v (qBb hx);have hs1:=wN hwv.1 (by omega);have hwn:¬v.width<0:=(by omega);have ha1:=ha.keep hkp (by simp);have hgo:∀ev' U',ev' 1=r->ev' 20=.sl 4 (s.p.vars.map qG) .none->ev' 21=.int .i64 s.p.vars.length->ev' 22=.int .i64 (d.length+1:Nat)->KpL [] H U'.H->zD (v,x)=true->R ev' U':=fun ev' U' b1 b2 b3 b4 b5 b6=>hR _ _ ⟨b1,b2,b3,by rw[b4,qBe,qBK],b5,by rw[hr,b6,qCs,qBe,qBK]⟩
   have hbad:zD (v,x)=false->res=false:=fun h=>by rw[hr,h];rfl
   unfold zD at hgo hbad;simp only at hgo hbad;rw[<- show((2^v.width.toNat:Nat):Int)=(2:Int)^v.width.toNat by simp]at hgo hbad;generalize 2^v.width.toNat=N at *;have hnext:∀u,KpL [] H (H1++u):=fun u=>hkp.trans qF7
   rcases ha1 with⟨tok,rfl⟩|⟨A,rfl,hA⟩
   case' inr=>
    have hdr:(zd a).drop d.length=.int .i64 x::(zd a).drop (d.length+1):=by
     obtain⟨h1,h2⟩:=qBa.1 (by rw[qbf,hax];rfl);rw[qBx h1,h2]
    have hla:d.length+1<=a.length:=hda;have hdi:(d.length:Int)<a.length:=by omega
   all_goals
    by_cases hm:v.mode=0
    . by_cases hxv:x=v.value
      . subst hxv;by_cases hx0:v.value<0
        . have hb:=hbad (by simp;omega);subst hb
          first|simp[e1,e20,e21,e22,hlt',hx,qd hA,hdr,qQ,hla,hdi,hm,hx0]|simp[e1,e20,e21,e22,hlt',hx,hax,hm,hx0]
          exact hnext _
        by_cases hxN:(N:Int)<=v.value
        . have hb:=hbad (by simp;omega);subst hb
          first|simp[e1,e20,e21,e22,hlt',hx,hwn,IntKind.bits,hs1,qd hA,hdr,qQ,hla,hdi,hm,hx0,hxN]|simp[e1,e20,e21,e22,hlt',hx,hax,hwn,IntKind.bits,hs1,hm,hx0,hxN]
          exact hnext _
        have hg:=hgo
        first|simp[e1,e20,e21,e22,hlt',hx,hwn,IntKind.bits,hs1,hdw,qd hA,hdr,qQ,hla,hdi,hm,hx0,hxN]|simp[e1,e20,e21,e22,hlt',hx,hax,hwn,IntKind.bits,hs1,hdw,hm,hx0,hxN]
        exact hgo _ _ (by simp[e1]) (by simp[e20]) (by simp[e21]) (by simp) (hnext _) (by simp[hm,hxN];omega)
      . have hb:=hbad (by simp[hm,hxv]);subst hb
        first|simp[e1,e20,e21,e22,hlt',hx,hwn,IntKind.bits,hs1,hdw,qd hA,hdr,qQ,hla,hdi,hm,hxv]|simp[e1,e20,e21,e22,hlt',hx,hax,hwn,IntKind.bits,hs1,hdw,hm,hxv]
        exact hnext _
    by_cases hx0:x<0
    . have hb:=hbad (by simp;omega);subst hb
      first|simp[e1,e20,e21,e22,hlt',hx,qd hA,hdr,qQ,hla,hdi,hm,hx0]|simp[e1,e20,e21,e22,hlt',hx,hax,hm,hx0]
      exact hnext _
    by_cases hxN:(N:Int)<=x
    . have hb:=hbad (by simp;omega);subst hb
      first|simp[e1,e20,e21,e22,hlt',hx,hwn,IntKind.bits,hs1,qd hA,hdr,qQ,hla,hdi,hm,hx0,hxN]|simp[e1,e20,e21,e22,hlt',hx,hax,hwn,IntKind.bits,hs1,hm,hx0,hxN]
      exact hnext _
    have hg:=hgo
    first|simp[e1,e20,e21,e22,hlt',hx,hwn,IntKind.bits,hs1,hdw,qd hA,hdr,qQ,hla,hdi,hm,hx0,hxN]|simp[e1,e20,e21,e22,hlt',hx,hax,hwn,IntKind.bits,hs1,hdw,hm,hx0,hxN]
    exact hgo _ _ (by simp[e1]) (by simp[e20]) (by simp[e21]) (by simp) (hnext _) (by simp[hm,hxN];omega)
 rintro ev ⟨H1,T1⟩ ⟨e1,e20,e21,e22,hkp,hr⟩;have:res=true:=by rw[hr,qCg];rfl
 subst this;simp[e21,e22];exact hkp
structure SpV(s:Spc)(d):Prop where
 vq:VQ s.p
 vp:qg s.p=0
 v20:s.p.vars.length<=20
 bits:kw s.p.vars (qJ s.p)<=18
 rk:∀e∈s.R,zy s.p.vars e=0/\Jx e
 rl:s.R.length<=50000
 rt:qtx s.R s.rtok
 lv:s.lv=qN s.p
 dag:s.small=true->DagOk d/\(∃tok,s.dv=.sl 3 (d.map qI) tok)/\s.root<d.length
 ws:∀(i:Nat) (w:List Weight),(ja s.p.vars.length s.p.dists)[i]?=some (some w)->w≠[]/\w.length<=1000
noncomputable def qaz(s:Spc)(d:List Nd)(fx:Nat->Option Nat)(a:List Int)(gi:Nat):Nat :=
 if s.small=true then qbC s.p s.lv d fx ((NG s.p).getD gi []) (Z4 s d a ((NG s.p).take gi).flatten) else qeb s.p fx ((NG s.p).getD gi []) (VA s a ((NG s.p).take gi).flatten)
def qrb(s d fx a gi):qaz s d fx a gi<=lim:=by
 unfold qaz;split
 . exact qjp _ _ _ _ _ _
 exact qjn _ _ _ _
def qmh{p:Problem}(h:qg p=0){i:Nat}(hi:i∈(NG p).flatten):∃(k:Nat),p.groups.flatten[k]?=some (i:Int):=by
 have:(i:Int)∈p.groups.flatten:=by rw[ZE h];exact qBA.2 ⟨i,hi,rfl⟩
 exact qBT this
def SpV.gr{s d}(h:SpV s d){l}(hl:∀i∈l,i∈(NG s.p).flatten):que s l:=fun i hi=>by
 obtain⟨k,hk⟩:=qmh h.vp (hl i hi);obtain⟨n,v,hn,hv,hm⟩:=Ze ((jz h.vp).2.1 _ (qBb hk));have hn:n=i:=by omega
 subst hn;have hw:=zf (z5 h.vp v (qBb hv));have hl:=Wa h.vp hk;have h1:=YK (QI h.vp) (s.p.groups.flatten.take k);have h2:=Vr (QI h.vp) s.p.groups.flatten k;have h3:=Wq h.vp;refine⟨v,(kH s.p.vars (s.p.groups.flatten.take k)).toNat,hv,by omega,by omega,?_,by omega,h.ws n⟩;rw[h.lv,hl];congr 1;omega
def qg6{p}(h:qg p=0):(NG p).flatten.length<=p.vars.length:=by
 have:=VZ h
 rwa[ZE h,qBM]at this
def QF{p}(h:qg p=0)(hv:p.vars.length<=1000):(∀g∈NG p,g.length<=1000)/\(NG p).length<=1000:=by
 have h1:=qg6 h;have h2:∀g∈NG p,g≠[]:=fun g hg=>by
  obtain⟨g',hg',rfl⟩:=qBA.1 hg;have:=(jz h).1 g' hg';simpa using this
 have key:∀G:List (List Nat),(∀g∈G,g≠[])->(∀g∈G,g.length<=G.flatten.length)/\G.length<=G.flatten.length:=by
  intro G
  induction G with
  |nil=>intro _;simp
  | cons a r ih=>
   intro hG;obtain⟨i1,i2⟩:=ih fun g hg=>hG g (by simp[hg])
   have ha:=qBv.2 (hG a (by simp));refine⟨fun g hg=>?_,by rw[qBZ,qBe,qBr];omega⟩;rcases qBz.1 hg with rfl|hg
   . simp
   have:=i1 g hg;rw[qBZ,qBe];omega
 obtain⟨k1,k2⟩:=key (NG p) h2;exact⟨fun g hg=>by have:=k1 g hg;omega,by omega⟩
def AOk(p:Problem)(a:List Int):Prop:=∀i∈(NG p).flatten,∃n:Nat,a[i]?=some (n:Int)/\n<65536
def vL{p}(h:qg p=0){a}(ha:qB p.vars a=true):AOk p a:=fun i hi=>by
 obtain⟨k,hk⟩:=qmh h hi;obtain⟨n,v,hn,hv,hm⟩:=Ze ((jz h).2.1 _ (qBb hk));have hn:n=i:=by omega
 subst hn;unfold qB at ha;simp only[qBf,decide_eq_true_eq]at ha;have hil:=(qBa.1 hv).1;obtain⟨x,hx⟩:∃x,a[n]?=some x:=⟨_,qBc (by omega)⟩;have hz:(v,x)∈p.vars.zip a:=qBb (i:=n) (qCS.2 ⟨hv,hx⟩);have h1:=qBk.1 ha.2 _ hz;unfold zD at h1;simp only[qBf,decide_eq_true_eq]at h1;have hw:=zf (z5 h v (qBb hv));have h2:(2:Nat)^v.width.toNat<=2^8:=qBL (by omega) (by omega);have h3:((2^v.width.toNat:Nat):Int)=(2:Int)^v.width.toNat:=by simp
 exact⟨x.toNat,by rw[hx];congr 1;omega,by omega⟩
def qpF{s d}(h:SpV s d){fx}(hfx:∀i x,fx i=some x->x<65536){m gi}(hgi:gi<(NG s.p).length){r a H}(hao:AOk s.p a)(hs:SpOk s H)(hf:qiP m fx H)(ha:AsR r a H)(T):
 qj prog GG 44 [.ptr s.S 0,.int .i64 gi,r,m] ⟨H,T⟩ (fun v U'=>v=.int .i64 (qaz s d fx a gi:Nat)/\KpL [] H U'.H):=by
 obtain⟨g,hg⟩:∃g,(NG s.p)[gi]?=some g:=⟨_,qBc hgi⟩;have hl:=QF h.vp h.vq.vars;have hgr:=h.gr fun i hi=>qBH.2 ⟨g,qBb hg,hi⟩
 have hsub:∀i∈((NG s.p).take gi).flatten,i∈(NG s.p).flatten:=fun i hi=>by
  obtain⟨g',hg',hi'⟩:=qBH.1 hi;exact qBH.2 ⟨g',qBW hg',hi'⟩
 have hpre:SpG s a ((NG s.p).take gi).flatten:=⟨h.gr hsub,fun i hi=>hao i (hsub i hi)⟩;unfold qaz;rw[show(NG s.p).getD gi []=g by simp[qBi,hg]];by_cases hsm:s.small=true
 . obtain⟨hd,⟨tok,hdv⟩,hr⟩:=h.dag hsm;rw[if_pos hsm];exact qre h.vp hsm hd hdv hr hfx hg hl.1 hl.2 hgr hpre hs hf ha T
 rw[if_neg hsm];exact qrd h.vq h.vp h.v20 h.bits (by simpa using hsm) h.rk h.rl h.rt hfx hg hl.1 hl.2 (qB6 (qg6 h.vp) h.vq.vars) hgr hpre hs hf ha T
noncomputable def Vq(s:Spc)(d:List Nd)(gi:Int)(a:List Int):Int×Int :=
 if gi<0\/((NG s.p).length:Int)<=gi\/qB s.p.vars a=false then(0,1)
 else if qaz s d (fun _=>none) a gi.toNat=0 then(0,11) else if qaz s d (fun _=>none) a gi.toNat=lim then(0,3) else(qaz s d (fun _=>none) a gi.toNat,0)
def qau{s d}(h:SpV s d)(gi){r a H}(hs:SpOk s H)(ha:AsR r a H)(T):
 qj prog GG 22 [.ptr s.S 0,.int .i64 gi,r] ⟨H,T⟩ (fun v U'=>v=.tup [.int .i64 (Vq s d gi a).1,.int .i64 (Vq s d gi a).2]/\KpL [] H U'.H):=by
 refine okzA func22 rfl rfl ?_;have hS:=hs.c;have hG:=qak h.vp;have hw:∀v∈s.p.vars,0<=v.width/\v.width<=8:=fun v hv=>by have:=zf (z5 h.vp v hv);omega
 have has:=qdB hs hw h.vq.vars ha T;simp only[spE,qu,qBB,qBy,hG]at hS;obtain⟨res,hres⟩:∃res,res=Vq s d gi a:=⟨_,rfl⟩;rw[<- hres];unfold Vq at hres;by_cases h0:gi<0
 . rw[if_pos (.inl h0)]at hres;subst hres;simp[h0,unA];exact qF5
 by_cases h1:((NG s.p).length:Int)<=gi
 . rw[if_pos (.inr (.inl h1))]at hres;subst hres;simp[h0,h1,hS];exact qF5
 simp[h0,h1,hS];refine qFC has ?_;rintro v ⟨H1,T1⟩ ⟨rfl,hk1⟩
 cases hA:qB s.p.vars a with
 | false=>
  rw[if_pos (.inr (.inr hA))]at hres;subst hres;simp[unA];exact hk1
 | true=>
  rw[if_neg (by simp[h0,hA];omega)]at hres;obtain⟨g,rfl⟩:=qBw (by omega:0<=gi);have hsu:=qpF h (fx:=fun _=>none) (by simp) (m:=.nilm) (gi:=g) (by omega) (vL h.vp hA) (hs.keep hk1 (by simp) (by simp) (by simp)) (.inl ⟨rfl,fun _=>rfl⟩) (ha.keep hk1 (by simp)) T1;rw[qBF]at hres;generalize qaz s d (fun _=>none) a g=n at *;simp[unA];refine qFC hsu ?_;rintro v ⟨H2,T2⟩ ⟨rfl,hk2⟩;have hkk:=hk1.trans hk2;by_cases hn0:n=0
  . rw[if_pos hn0]at hres;subst hres;simp[hn0];exact hkk
  rw[if_neg hn0]at hres;by_cases hnl:n=lim
  . rw[if_pos hnl]at hres;subst hres;have hnl':(n:Int)=1099511627777:=(by rw[hnl];rfl);simp[hnl'];exact hkk
  rw[if_neg hnl]at hres;subst hres;simp[hn0,show ¬(n:Int)=1099511627777 by unfold lim at hnl;omega];exact hkk
section
attribute [local go_sem] Oper.semAt_some
def qri{K}{l:List Int}{tok v}(h:qf K (.sl 1 (l.map fun n=>[.int .i64 n]) tok) v):
 ∃a cap,v=.slice a l.length cap/\∀j n,l[j]?=some n->∃B off,a=some ⟨B,off,none⟩/\K.ro B (off+j)=some (.int .i64 n):=by
 simp only[qf]at h;rcases h with⟨⟨a,rfl,_⟩,h0,_⟩|⟨B,off,cap,rfl,hcap,hrows,_⟩
 . have:l=[]:=by simpa using h0
   subst this;exact⟨a,0,rfl,fun j n e=>by simp at e⟩
 refine⟨some ⟨B,off,none⟩,cap,by simp,fun j n e=>⟨B,off,rfl,?_⟩⟩;obtain⟨_,_,h3⟩:=qS.get B 1 _ off hrows j [.int .i64 n] (by simp[e]);simp only[qn,qf]at h3;obtain⟨⟨v,hv,rfl⟩,_⟩:=h3;simpa using hv
def qy1(G)(l:List Int)(tok)(hlen:l.length<2^62):qxQ prog G 91 [.rptr [.sl 1 (l.map fun n=>[.int .i64 n]) tok]] (fun _=>True) (l.map fun n=>.int .i64 n):=by
 refine⟨by kernel_rfl,?_⟩;intro w0 ro0 L K U w vcap S hw hcap _ hS hround;simp only[qi]at hcap;obtain⟨v0,vr,e0,hp,rfl⟩:=hcap;have evs:vcap = #[v0]:=by apply Array.ext';simpa using e0
 subst evs;simp only[qf,qn]at hp;obtain⟨Bs,os,rfl,⟨v,hro,hv⟩,_⟩:=hp;obtain⟨a0,cap,rfl,hcell⟩:=qri hv;have hBs:=(fun K' U' w' h1 h2=>h2.ro _ _ _ (h1.ro _ _ _ hro)) K U w (qFQ K) hw;refine callsIn_of_wp func91 rfl trivial ?_ rfl;simp only[Tryz.ntmps91,qEg,qBr,qB0,Nat.reduceAdd,Nat.reduceSub,Array.replicate_succ,Array.replicate_zero,List.push_toArray,List.append_toArray,qBy,qBB]
 gi_wp2
 gi_loopw [7] (fun i wr=>∃k:Nat,k<=l.length/\i=.int .i64 k/\∃K' U',K.le K'/\WRel G w0 ro0 K' U' wr/\S k U')
  (fun i _=>l.length-(intOf i).toNat)
 case atStart=>exact⟨0,qC7 _,rfl,K,U,qFQ K,hw,hS⟩
 case round=>
  obtain⟨k,hk,rfl,K1,U1,hle1,hw1,hS1⟩:=hrel;by_cases hlt:k<l.length
  . obtain⟨B,off,rfl,hro1⟩:=hcell k l[k] (by simp[hlt]);have hcx:wr.cell? ⟨B,off+k,none⟩=some (.int .i64 l[k]):=hw1.ro _ _ _ (hle1.ro _ _ _ hro1);obtain⟨fn,tmps,assign,body,hy,hR⟩:=hround k (.int .i64 l[k]) U1 K1 wr (by simp[hlt]) hS1 hle1 hw1 _ rfl
    gi_wp2
    refine⟨rfl,hR.mono ?_⟩;rintro e W3 ⟨rfl,K2,U2,hle2,hw2,hS2⟩
    gi_wp2
    go_roundw
    case rel=>exact⟨k+1,by omega,by simp,K2,U2,qFR hle1 hle2,hw2,hS2⟩
    case measure=>simp[intOf];omega
  obtain rfl:k=l.length:=by omega
  gi_wp2
  refine bodyPost_end (results_none rfl _ _ _) rfl ?_;exact⟨⟨_,rfl⟩,K1,U1,hle1,hw1,by simpa using hS1⟩
end
section
attribute [local go_sem] Oper.semAt_some
end
abbrev Yv(l:List Int):List (List AV):=l.map fun n=>[.int .i64 n]
def qAn(v:AV)(U:St)(l:List Int):Prop:=(l=[]/\v=.sl 0 [] .nil)\/∃b,v=.ms b 0 l.length 1/\l≠[]/\U.H[b]?=some (.cells (l.map fun n=>.int .i64 n))
def qAl(U:St)(n0:Nat)(l:List Int)(i:Nat)(τ:St):Prop :=
 τ.T=U.T/\(∀k<n0,τ.H[k]?=U.H[k]?)/\∃v,τ.H[n0]?=some (.cells [v])/\((i=0/\v=.sl 0 [] .nil)\/∃b,v=.ms b 0 i 1/\0<i/\n0<b/\τ.H[b]?=some (.cells ((l.take i).map fun n=>.int .i64 n)))
def qz0(U:St)(l:List Int)(v:AV)(τ:St):Prop:=τ.T=U.T/\(∀k<U.H.length,τ.H[k]?=U.H[k]?)/\qAn v τ l
def ql6(H T n):zr (Dof prog) ⟨H,T⟩ 28 28 (.sl 0 [] .nil) (.sl 1 [[.int .i64 n]] .tight)=some (.ms H.length 0 1 1,⟨H++[.cells [.int .i64 n]],T⟩):=by
 simp[zr,zY,YM,qR,St.push]
def qpi(H T n b i c)(hb:H[b]?=some (.cells c))(hc:c.length=i)(hi:i<2^28):zr (Dof prog) ⟨H,T⟩ 28 28 (.ms b 0 i 1) (.sl 1 [[.int .i64 n]] .tight)=some (.ms H.length 0 (i+1) 1,⟨H.set b .dead++[.cells (c++[.int .i64 n])],T⟩):=by
 simp[zr,zY,YM,qR,hb,show i+1<=549755813888 by omega,hc,show c.take i=c from qBh (by omega)]
def qdF(U l tok)(hlen:l.length<2^28):
 qj prog GG 142 [.sl 0 [] .nil,.fn 91 [] [.rptr [.sl 1 (Yv l) tok]]] U (qz0 U l):=by
 refine qFy ⟨true,[],[],[]⟩ qX func142 rfl (by kernel_rfl) ?_;simp;refine qkH (qcq _) (fun _=>True) (l.map fun n=>.int .i64 n) (qAl U U.H.length l) (by simp[ev]) (qy1 GG l tok (by omega)) (fun _ _ _=>trivial) ?_ ?_ ?_
 . refine⟨rfl,fun k hk=>?_,.sl 0 [] .nil,?_,.inl ⟨rfl,rfl⟩⟩
   . simp[qBq hk]
   . simp
 . rintro i v τ hi ⟨h1,h2,w,h3,h4⟩;obtain⟨n,hn,rfl⟩:∃n,l[i]?=some n/\v=.int .i64 n:=by
    simp only[qBD,qBj]at hi;obtain⟨n,a,b⟩:=hi;exact⟨n,a,b.symm⟩
   have hil:i<l.length:=(qBa.1 hn).1;obtain⟨H,T⟩:=τ;simp only at h1 h2 h3 h4;simp[h3];have hnl:=(qBa.1 h3).1;have htk:(l.take (i+1)).map (fun n=>AV.int .i64 n)=(l.take i).map (fun n=>AV.int .i64 n)++[.int .i64 n]:=by
    rw[qBG,hn];simp
   rcases h4 with⟨rfl,rfl⟩|⟨b,rfl,hi0,hb,hcb⟩
   . rw[ql6];simp[qBq hnl,h3];refine⟨h1,fun k hk=>?_,.ms H.length 0 1 1,?_,.inr ⟨H.length,rfl,by omega,hnl,?_⟩⟩
     . simp only;rw[qBd (by omega),qBq (by omega)];exact h2 k hk
     . simp only;rw[qBg (by simp;omega)]
     simp only;rw[qBd (by omega),qBm (qBl _),htk];simp
   have hcl:((l.take i).map fun n=>AV.int .i64 n).length=i:=(by simp;omega);rw[qpi H T n b i _ hcb hcl (by omega)];have hbl:b<H.length:=(qBa.1 hcb).1;have h3':(H.set b .dead++[.cells ((l.take i).map (fun n=>AV.int .i64 n)++[.int .i64 n])])[U.H.length]?=some (.cells [.ms b 0 i 1]):=by
    rw[qBq (by simpa using hnl),qBd (by omega),h3]
   generalize hH':H.set b .dead++[.cells ((l.take i).map (fun n=>AV.int .i64 n)++[.int .i64 n])]=H' at h3';simp[h3'];have hl':H'.length=H.length+1:=(by rw[<- hH'];simp);refine⟨h1,fun k hk=>?_,.ms H.length 0 (i+1) 1,?_,.inr ⟨H.length,rfl,by omega,hnl,?_⟩⟩
   . simp only;rw[qBd (by omega),<- hH',qBq (by simp;omega),qBd (by omega)];exact h2 k hk
   . simp only;rw[qBg (by omega)]
   simp only;rw[qBd (by omega),htk,<- hH',qBm (by simp)];simp
 rintro τ ⟨h1,h2,w,h3,h4⟩;simp[h3];refine⟨h1,h2,?_⟩;simp only[qBM,qCX]at h4;rcases h4 with⟨h0,rfl⟩|⟨b,rfl,h0,hb,hc⟩
 . exact .inl ⟨qBo h0,rfl⟩
 exact .inr ⟨b,rfl,fun e=>by rw[e]at h0;simp at h0,hc⟩
def qiv(U l tok)(hlen:l.length<2^28):
 qj prog GG 89 [.fn 91 [] [.rptr [.sl 1 (Yv l) tok]]] U (qz0 U l):=by
 refine okzA func89 rfl rfl ?_;simp;refine qFC (qdF U l tok hlen) ?_;rintro v τ h;simp;exact h
def qzr:IntKind.i64.wrap 1=1:=wr (by omega) (by omega)
def qeK:List Int->Int->List Int
 |[],x=>[x]
 |y::r,x=>if x<y then y::qeK r x else x::y::r
def qeL(s:List Int)(x:Int):List Int:=(qeK s.reverse x).reverse
def ww(l:List Int):List Int:=l.foldl qeL []
def qgu:∀(s) (x),(qeK s x).length=s.length+1
 |[],x=>rfl
 |y::r,x=>by unfold qeK;split<;>simp[qgu r x]
def qof(s x):(qeL s x).length=s.length+1:=by simp[qeL,qgu]
def JK(l x):ww (l++[x])=qeL (ww l) x:=by simp[ww,qCe]
def Wh:∀(n) (l),l.length=n->(ww l).length=n:=by
 intro n
 induction n with
 |zero=>intro l h;rw[qBo h];rfl
 | succ n ih=>
  intro l h;have hne:l≠[]:=fun e=>by rw[e]at h;simp at h
  rw[<- qCr hne,JK,qof,ih _ (by simp[h])]
def qc2{A B x}(h:∀y∈B,x<y):qeL (A++B) x=qeL A x++B:=by
 unfold qeL;rw[qDY];have:∀(C D:List Int),(∀y∈C,x<y)->qeK (C++D) x=C++qeK D x:=by
  intro C D hC
  induction C with
  |nil=>rfl
  | cons c C ih=>
   have:=hC c (by simp);rw[qBB,qeK,if_pos this,ih fun y hy=>hC y (by simp[hy])];rfl
 rw[this _ _ fun y hy=>h y (by simpa using hy),qDY,List.reverse_reverse]
def qod(x):qeL [] x=[x]:=rfl
def qkL{A y x}(h:¬x<y):qeL (A++[y]) x=A++[y,x]:=by
 unfold qeL;rw[qDY];show(qeK (y::A.reverse) x).reverse=_;rw[qeK,if_neg h];simp
def qsm(a b):Pure prog GG 218 [.int .i64 a,.int .i64 b] (.bool (decide (a<b))):=by
 have hn:∀z:Int,Pure prog GG 286 [.int .i64 z] (.bool false):=fun z=>by
  refine okzP func286 rfl rfl ?_;simp
 refine okzP func218 rfl rfl ?_;simp;refine qFz (hn a) rfl ?_;simp
def qnt:List (Nat×Sch×List Nat):=[(6,.step 0 [17,16,15,14] (.step 1 [17,16,15,14] (.step 2 [17,16] (.step 3 [17,16,4] (.step 4 [17,16] (.step 5 [17,16,15,14,9,8] (.step 6 [17,16,15,14,9,8,7] (.step 7 [17,16,15,14,9,8] (.step 8 [17,16,15,14,9] (.step 9 [17,16,15,14] (.step 10 [17,16,15,14,13,12] (.step 11 [17,16,15,14,13,12] (.step 12 [17,16,15,14,13] (.step 13 [17,16,15,14] (.step 14 [17,16,15] (.step 15 [17,16] (.step 16 [17] (.step 17 [] (.done)))))))))))))))))),[])]
def qxO(b:Nat)(l:List Int)(H:List Blk)(T:List (Option Nat))(r:AV)(τ:St):Prop:=τ=⟨H.set b (.cells (zd (ww l))),T⟩
def qku{A B x j}(h:A.length=j):(zd (A++x::B)).drop j=.int .i64 x::zd B:=by
 subst h;unfold zd;rw[qCi,qCT (by simp),qBS (by simp)];simp
def qsA{b l}(hl:l.length<=1000){H T}(hb:H[b]?=some (.cells (zd l))):
 qj prog GG 212 [.ms b 0 l.length 1,.int .i64 0,.int .i64 l.length] ⟨H,T⟩ (qxO b l H T):=by
 refine qFy ⟨false,qnt,[],[]⟩ qX func212 rfl (by kernel_rfl) ?_;have hbl:=(qBa.1 hb).1;simp;refine qFE (fun n ev U=>ev 0=.ms b 0 l.length 1/\ev 1=.int .i64 0/\ev 2=.int .i64 l.length/\∃i,n=l.length+1-i/\1<=i/\(i<=l.length\/i=1)/\ev 6=.int .i64 (i:Int)/\U=⟨H.set b (.cells (zd (ww (l.take i)++l.drop i))),T⟩) l.length ?_ ?_
 . refine⟨by simp,by simp,by simp,1,by omega,by omega,.inr rfl,by simp[qzr],?_⟩;have:ww (l.take 1)++l.drop 1=l:=by
    cases l with
    |nil=>rfl
    |cons a r=>rfl
   rw[this];have:H.set b (.cells (zd l))=H:=by
    apply qCb;intro j;by_cases hj:b=j
    . subst hj;rw[qBg hbl,hb]
    rw[qBd hj]
   rw[this]
 rintro n ev U R hR ⟨e0,e1,e2,i,rfl,hi1,hi2,e6,rfl⟩;by_cases hil:i<l.length
 . have hil':(i:Int)<l.length:=(by omega);have hw1:=wr (n:=(i:Int)+1) (by omega) (by omega);obtain⟨x,hx⟩:∃x,l[i]?=some x:=⟨_,qBc hil⟩;have hdr:l.drop i=x::l.drop (i+1):=by
    obtain⟨h1,h2⟩:=qBa.1 hx;rw[qBx h1,h2]
   have htk:ww (l.take (i+1))=qeL (ww (l.take i)) x:=(by rw[qBG,hx];exact JK _ _);have hSl:(ww (l.take i)).length=i:=Wh _ _ (by simp;omega);rw[hdr];generalize ww (l.take i)=S at *;generalize hDD:l.drop (i+1)=D at *;have hDl:D.length=l.length-(i+1):=(by rw[<- hDD];simp);simp[e2,e6,hil'];refine qFE (fun n ev U=>ev 0=.ms b 0 l.length 1/\ev 1=.int .i64 0/\ev 2=.int .i64 l.length/\ev 6=.int .i64 (i:Int)/\∃j A B,n=j/\j<=i/\ev 7=.int .i64 (j:Int)/\A.length=j/\S=A++B/\(∀y∈B,x<y)/\U=⟨H.set b (.cells (zd (A++x::(B++D)))),T⟩) i ?_ ?_
   . exact⟨by simp[e0],by simp[e1],by simp[e2],by simp[e6],i,S,[],rfl,qBl _,by simp,hSl,by simp⟩
   rintro n ev U R2 hR2 ⟨e0,e1,e2,e6,j,A,B,rfl,hji,e7,hAl,hSAB,hBx,rfl⟩;have hBl:B.length=i-n:=(by have:=hSl;rw[hSAB,qBe]at this;omega);have fin:∀ev',ev' 0=.ms b 0 l.length 1->ev' 1=.int .i64 0->ev' 2=.int .i64 l.length->ev' 6=.int .i64 ((i+1:Nat):Int)->qeL S x=A++x::B->R ev' ⟨H.set b (.cells (zd (A++x::(B++D)))),T⟩:=fun ev' a0 a1 a2 a6 hins=>by
    refine hR (l.length+1-(i+1)) _ _ (by omega) ⟨a0,a1,a2,i+1,rfl,by omega,.inl (by omega),a6,?_⟩;rw[htk,hins];simp[hDD]
   cases n with
   | zero=>
    have hA0:=qBo hAl;subst hA0;simp;rw[JJ (by rfl)];simp[e1,e6,e7,hw1];refine fin _ (by simp[e0]) (by simp[e1]) (by simp[e2]) (by simp) ?_;rw[hSAB];have:=qc2 (A:=[]) hBx;simpa[qod] using this
   | succ j=>
    obtain⟨A',y,rfl⟩:∃A' y,A=A'++[y]:=by
     have hne:A≠[]:=fun e=>by rw[e]at hAl;simp at hAl
     exact⟨A.dropLast,A.getLast hne,(qCr hne).symm⟩
    have hA'l:A'.length=j:=(by simpa using hAl);have hj1:=wr (n:=((j:Int)+1)-1) (by omega) (by omega);have hjj:((j:Int)+1)-1=j:=(by omega);rw[hjj]at hj1;have hrow:(A'++[y])++x::(B++D)=A'++y::x::(B++D):=(by simp);have hd1:(zd (A'++y::x::(B++D))).drop (j+1)=.int .i64 x::zd (B++D):=by
     have:=qku (A:=A'++[y]) (x:=x) (B:=B++D) (j:=j+1) (by simpa using hA'l)
     rwa[hrow]at this
    have hd0:(zd (A'++y::x::(B++D))).drop j=.int .i64 y::zd (x::(B++D)):=qku hA'l;have hlen:(zd (A'++y::x::(B++D))).length=l.length:=(by rw[qQ];simp;omega);have hget:∀z:Blk,(H.set b z)[b]?=some z:=fun z=>qBg hbl
    have hjl:(j:Int)+1<l.length:=(by omega);have hjl0:(j:Int)<l.length:=(by omega);have hjn:(0:Int)<=(j:Int)+1:=(by omega);have hjt:((j:Int)+1).toNat=j+1:=(by omega);have hjl1:j+1+1<=l.length:=(by omega);have hjl2:j+1<=l.length:=(by omega);simp only[qEs,qE3]at e7;rw[hrow]at fin⊢;have hlt:=qsm x y;simp;rw[JJ (by rfl)];simp[e0,e1,e7,show(0:Int)<(j:Int)+1 by omega,hjl,hjl0,hjn,hjt,hget,hlen,hjl1,hjl2,hd1,hd0,hjj,hj1];refine qFz hlt rfl ?_;by_cases hxy:x<y
    . have hs1:(zd (A'++y::x::(B++D))).set (j+1) (.int .i64 y)=zd (A'++y::y::(B++D)):=by
       rw[yN,qBY _ _ (by omega),hA'l,qCk];rfl
      have hs2:(zd (A'++y::y::(B++D))).set j (.int .i64 x)=zd (A'++x::y::(B++D)):=by
       rw[yN,qBY _ _ (by omega),hA'l,qB9];rfl
      simp[hxy];rw[qP rfl];simp[zc,e0,e7,hjl,hjl0,hjn,hjt,hget,hlen,show(zd (A'++y::y::(B++D))).length=l.length by rw[qQ];simp;omega,hjl1,hjl2,hd1,hd0,hjj,hj1,hs1,hs2];exact hR2 j _ _ (by omega) ⟨by simp[e0],by simp[e1],by simp[e2],by simp[e6],j,A',y::B,rfl,by omega,by simp,hA'l,by rw[hSAB];simp,fun z hz=>by
       rcases qBz.1 hz with rfl|hz
       . exact hxy
       exact hBx z hz,by simp⟩
    simp[hxy,e6,hw1];refine fin _ (by simp[e0]) (by simp[e1]) (by simp[e2]) (by simp) ?_;rw[hSAB,qc2 hBx,qkL hxy];simp
 have hil':¬(i:Int)<l.length:=by omega
 have hq:qxO b l H T (.tup []) ⟨H.set b (.cells (zd (ww (l.take i)++l.drop i))),T⟩:=by
  rw[show l.take i=l from qBh (by omega),show l.drop i=[] from qBS (by omega),qBU];rfl
 simp[e2,e6,hil'];exact hq
def qvn(n:Nat)(h:n<=12):Pure prog GG 222 [.int .u64 n] (.int .i64 ((if n=0 then 0 else if n=1 then 1 else if n<4 then 2 else if n<8 then 3 else 4:Nat):Int)):=by
 refine okzP func222 rfl rfl ?_;have h4:IntKind.u8.wrap (n:Int)=n:=by
  have:n=0\/n=1\/n=2\/n=3\/n=4\/n=5\/n=6\/n=7\/n=8\/n=9\/n=10\/n=11\/n=12:=by omega
  rcases this with rfl|rfl|rfl|rfl|rfl|rfl|rfl|rfl|rfl|rfl|rfl|rfl|rfl<;>decide
 simp[show ¬(4294967296:Int)<=n by omega,show ¬(65536:Int)<=n by omega,show ¬(256:Int)<=n by omega,yF,h4];have:n=0\/n=1\/n=2\/n=3\/n=4\/n=5\/n=6\/n=7\/n=8\/n=9\/n=10\/n=11\/n=12:=by omega
 rcases this with rfl|rfl|rfl|rfl|rfl|rfl|rfl|rfl|rfl|rfl|rfl|rfl|rfl<;>simp[yF,show IntKind.i64.wrap 0=0 by decide,show IntKind.i64.wrap 1=1 by decide,show IntKind.i64.wrap 2=2 by decide,show IntKind.i64.wrap 3=3 by decide,show IntKind.i64.wrap 4=4 by decide]
def qso(n:Nat)(h:n<=12):Pure prog GG 144 [.int .u64 n] (.int .i64 ((if n=0 then 0 else if n=1 then 1 else if n<4 then 2 else if n<8 then 3 else 4:Nat):Int)):=by
 refine okzP func144 rfl rfl ?_;have h1:=qvn n h;generalize ((if n=0 then 0 else if n=1 then 1 else if n<4 then 2 else if n<8 then 3 else 4:Nat):Int)=m at *;simp;refine qFz h1 rfl ?_;simp
def qrT{b l}(hl:l.length<=12)(m){H T}(hb:H[b]?=some (.cells (zd l))):
 qj prog GG 143 [.ms b 0 l.length 1,.int .i64 0,.int .i64 l.length,m] ⟨H,T⟩ (qxO b l H T):=by
 refine okzA func143 rfl rfl ?_;have hw:=wr (n:=(l.length:Int)) (by omega) (by omega);simp;refine qFE (fun n ev U=>ev 0=.ms b 0 l.length 1/\ev 1=.int .i64 0/\ev 2=.int .i64 l.length/\U=⟨H,T⟩) 0 ⟨by simp,by simp⟩ ?_;rintro n ev U R hR ⟨h0,h1,h2,rfl⟩;simp[h0,h1,h2,hw,show(l.length:Int)<=12 by omega];refine qFC (qsA (by omega) hb) ?_;rintro v τ h;simp;exact h
def qkB:∀n:Nat,n<=12->∃m,Pure prog GG 144 [.int .u64 n] (.int .i64 m):=fun n h=>⟨_,qso n h⟩
def qmX{b l}(hl:l.length<=12){H T}(hb:H[b]?=some (.cells (zd l))):
 qj prog GG 90 [.ms b 0 l.length 1] ⟨H,T⟩ (qxO b l H T):=by
 refine okzA func90 rfl rfl ?_;have ec:IntKind.u64.wrap (l.length:Int)=l.length:=by
  have:l.length=0\/l.length=1\/l.length=2\/l.length=3\/l.length=4\/l.length=5\/l.length=6\/l.length=7\/l.length=8\/l.length=9\/l.length=10\/l.length=11\/l.length=12:=by omega
  rcases this with e|e|e|e|e|e|e|e|e|e|e|e|e<;>rw[e]<;>decide
 obtain⟨m,hm⟩:=qkB l.length hl;simp[yF,ec];refine qFz (G:=zh GG) hm (by simp[qx,qL]) ?_;simp;refine qFC (qrT hl _ hb) ?_;rintro v τ h;simp;exact h
def qye(sz tok U):qj prog GG 90 [.sl sz [] tok] U (fun _ τ=>τ=U):=by
 obtain⟨m,hm⟩:=qkB 0 (by omega);refine okzA func90 rfl rfl ?_;simp[yF,show IntKind.u64.wrap 0=0 by decide];refine qFz (G:=zh GG) hm (by simp[qx,qL]) ?_;simp;have h371:∀τ:St,qj prog GG 212 [.sl sz [] tok,.int .i64 0,.int .i64 0] τ (fun _ τ'=>τ'=τ):=fun τ=>by
  refine okzA func212 rfl rfl ?_;simp;refine qFE (fun _ ev (τ':St)=>ev 6=.int .i64 1/\ev 2=.int .i64 0/\τ'=τ) 0 ⟨by simp[qzr],by simp⟩ ?_;rintro n ev τ' R hR ⟨h6,h2,rfl⟩;simp[h6,h2]
 have h295:qj prog GG 143 [.sl sz [] tok,.int .i64 0,.int .i64 0,.int .i64 m] U (fun _ τ'=>τ'=U):=by
  refine okzA func143 rfl rfl ?_;simp;refine qFE (fun _ ev (τ:St)=>ev 0=.sl sz [] tok/\ev 1=.int .i64 0/\ev 2=.int .i64 0/\τ=U) 0 ⟨by simp,by simp⟩ ?_;rintro n ev τ R hR ⟨h0,h1,h2,rfl⟩;simp[h0,h1,h2,show IntKind.i64.wrap 0=0 by decide];refine qFC (h371 τ) ?_;rintro v τ' rfl;simp
 refine qFC h295 ?_;rintro v τ rfl;simp
def qhD(l)(hl:l.length<=12)(tok):Pure prog GG 49 [.fn 91 [] [.rptr [.sl 1 (Yv l) tok]]] (.sl 1 ((ww l).map qh) .none):=by
 refine qFx o0 true qX func49 rfl (by kernel_rfl) ?_;simp;refine qFC (qiv _ l tok (by omega)) ?_;rintro v ⟨H,T⟩ ⟨h1,h2,h3⟩;have hlen:(ww l).length=l.length:=Wh _ _ rfl;have key:∃Q:AV->St->Prop,qj prog GG 90 [v] ⟨H,T⟩ Q/\∀r τ,Q r τ->∃b,jC b 1 qh τ.H v (ww l):=by
  rcases h3 with⟨rfl,rfl⟩|⟨b,rfl,h0,hb⟩
  . exact⟨_,qye _ _ _,fun r τ e=>⟨0,.inl ⟨rfl,rfl⟩⟩⟩
  refine⟨_,qmX hl hb,fun r τ e=>⟨b,.inr ⟨fun e=>h0 (qBo (by rw[<- hlen,e];rfl)),by rw[hlen],?_⟩⟩⟩;rw[e,<- jQ];exact qBg (qBa.1 hb).1
 obtain⟨Q,hQ,hi⟩:=key;simp;refine qFC hQ ?_;rintro r τ hr;obtain⟨b,ho⟩:=hi r τ hr;simp;exact⟨ho.frzNo (fun _=>rfl) (fun _=>rfl) (fun _=>rfl) 7,ho.frz (fun _=>rfl) (fun _=>rfl) (fun _=>rfl) 7⟩
def vt:∀l:List Int,q9 (Yv l)=true
 |[]=>rfl
 | a::r=>by
  have:=vt r;simpa[Yv,q9,qx] using this
def qi7(l tok)(ht:∀t k,tok≠.chain t k):Pure prog GG 50 [.sl 1 (Yv l) tok] (.fn 91 [] [.rptr [.sl 1 (Yv l) tok]]):=by
 refine qFx o0 true qX func50 rfl (by kernel_rfl) ?_;simp;have hn:qL (.sl 1 (Yv l) tok)=true:=by
  have:=vt l;cases tok<;>simp_all[qL]
 have e:frz [Blk.cells [.sl 1 (Yv l) tok]] 8 (.fn 91 [] [.ptr 0 0])=.fn 91 [] [.rptr [.sl 1 (Yv l) tok]]:=by
  rw[frz];simp only[qL];simp[qkW,qs hn,qx]
 rw[e];have:=vt l;exact⟨by cases tok<;>simp_all[qL,qx],qFG _⟩
def fxE(e:Nat×Nat×Nat):AV×AV×Nat:=(.int .i64 (e.1:Int),.int .i64 (e.2.1:Int),e.2.2)
def fxO:List (Nat×Nat×Nat)->Nat->Option Nat
 |[],_=>none
 |e::r,i=>if e.1=i then some e.2.1 else fxO r i
def yj(f:Nat->Option Nat)(i x:Nat):Nat->Option Nat:=fun k=>if k=i then some x else f k
def qeP(i):∀(E) (k),(fxO E i=none/\jV (.int .i64 (i:Int)) (E.map fxE) k=some none/\∀y c,fxO (E++[(i,y,c)])=yj (fxO E) i y) \/
 ∃j x,fxO E i=some x/\jV (.int .i64 (i:Int)) (E.map fxE) k=some (some (k+j,.int .i64 (x:Int)))/\∀y:Nat,∃E':List (Nat×Nat×Nat),(E.map fxE).modify j (fun e=>(.int .i64 (i:Int),.int .i64 (y:Int),e.2.2))=E'.map fxE/\fxO E'=yj (fxO E) i y:=by
 intro E
 induction E with
 | nil=>
  intro k;refine .inl ⟨rfl,rfl,fun y c=>?_⟩;funext j;by_cases h:j=i
  . subst h;simp[fxO,yj]
  simp[fxO,yj,h];exact fun e=>h e.symm
 | cons e r ih=>
  intro k;by_cases he:e.1=i
  . refine .inr ⟨0,e.2.1,by simp[fxO,he],?_,fun y=>⟨(i,y,e.2.2)::r,by simp[fxE,List.modify],?_⟩⟩
    . simp[fxE,jV,Q8,he]
    . funext j;by_cases h:j=i
      . subst h;simp[fxO,yj]
      have h':¬i=j:=fun e=>h e.symm
      simp[fxO,yj,h,h',he]
  have hne:¬(i:Int)=(e.1:Int):=by omega
  have hfind:jV (.int .i64 (i:Int)) ((e::r).map fxE) k=jV (.int .i64 (i:Int)) (r.map fxE) (k+1):=by
   simp[fxE,jV,Q8,show((i:Int)==(e.1:Int))=false by simpa using hne]
  rcases ih (k+1) with⟨h1,h2,h3⟩|⟨j,x,h1,h2,h3⟩
  . refine .inl ⟨by simp[fxO,he,h1],by rw[hfind,h2],fun y c=>?_⟩;funext a;have:=congrFun (h3 y c) a;simp only[yj]at this⊢;by_cases ha:e.1=a
    . have hai:¬a=i:=fun h=>he (ha.trans h)
      simp[fxO,ha,hai]
    simp[fxO,ha,this]
  refine .inr ⟨j+1,x,by simp[fxO,he,h1],by rw[hfind,h2,qDb,qDi 1 j],fun y=>?_⟩;obtain⟨E',e1,e2⟩:=h3 y;refine⟨e::E',by simp[List.modify,<- e1],?_⟩;funext a;have:=congrFun e2 a;simp only[yj]at this⊢;by_cases ha:e.1=a
  . have hai:¬a=i:=fun h=>he (ha.trans h)
    simp[fxO,ha,hai]
  simp[fxO,ha,this]
def FxS(F:Nat)(fx:Nat->Option Nat)(H:List Blk):Prop:=∃E n,H[F]?=some (.map (E.map fxE) n)/\fxO E=fx
def FxS.ok{F fx H}(h:FxS F fx H):qiP (.map F) fx H:=by
 obtain⟨E,n,h1,rfl⟩:=h;refine .inr ⟨F,_,n,rfl,h1,fun i=>?_⟩;rcases qeP i E 0 with⟨h1,h2,_⟩|⟨j,x,h1,h2,_⟩
 . rwa[h1]
 rw[h1];exact⟨_,h2⟩
def FxS.set{F fx H}(h:FxS F fx H)(i y:Nat):∃B,(∀T,zi (Dof prog) ⟨H,T⟩ 96 (.map F) (.int .i64 (i:Int)) (.int .i64 (y:Int))=some ⟨H.set F B,T⟩)/\FxS F (yj fx i y) (H.set F B):=by
 obtain⟨E,n,h1,rfl⟩:=h;have hl:=(qBa.1 h1).1;rcases qeP i E 0 with⟨_,h2,h3⟩|⟨j,x,_,h2,h3⟩
 . refine⟨.map ((E++[(i,y,n)]).map fxE) (n+1),fun T=>by simp[zi,zG,h1,h2,fxE],E++[(i,y,n)],n+1,qBg hl,h3 y n⟩
 obtain⟨E',e1,e2⟩:=h3 y;rw[qCH]at h2;exact⟨.map (E'.map fxE) n,fun T=>by simp[zi,zG,h1,h2,e1],E',n,qBg hl,e2⟩
def FxS.keep{F fx H H' bs}(h:FxS F fx H)(hk:KpL bs H H')(hb:F∉bs):FxS F fx H':=by
 obtain⟨E,n,h1,h2⟩:=h;exact⟨E,n,hk.2 _ _ h1 hb,h2⟩
def FxS.ne{F N fx H B}(h:FxS F fx H)(hb:N≠F):FxS F fx (H.set N B):=by
 obtain⟨E,n,h1,h2⟩:=h;exact⟨E,n,by rw[qBd hb];exact h1,h2⟩
def qb0(f i x):yj f i x i=some x:=by simp[yj]
def qmK(f i x y):yj (yj f i x) i y=yj f i y:=by
 funext k;by_cases h:k=i<;>simp[yj,h]
def FxS.get{F fx H}(h:FxS F fx H){i x}(hx:fx i=some x)(T):zz (Dof prog) ⟨H,T⟩ 96 (.map F) (.int .i64 (i:Int)) false=some (.int .i64 (x:Int)):=by
 obtain⟨E,n,h1,rfl⟩:=h;rcases qeP i E 0 with⟨h2,_,_⟩|⟨j,x',h2,h3,_⟩
 . rw[hx]at h2;cases h2
 rw[hx]at h2;cases h2;simp[zz,zG,h1,h3]
def qio(l):(l.map qh).flatten=zd l:=by
 induction l with
 |nil=>rfl
 |cons a r ih=>rw[qBn,qBZ,ih];rfl
def qlA{r a H}(hr:AsR r a H)(ha:a≠[])(hl:a.length<=1000)(T):
 qj prog GG 48 [r] ⟨H,T⟩ (fun v U'=>v=.ms H.length 0 a.length 1/\U'=⟨H++[.cells (zd a)],T⟩):=by
 refine qFy ⟨true,[],[],[]⟩ qX func48 rfl (by kernel_rfl) ?_;rcases hr with⟨tok,rfl⟩|⟨N,rfl,hA⟩
 . cases a with
   |nil=>exact absurd rfl ha
   | cons x a=>
    have h2:a.length+1<=549755813888:=(by simp at hl;omega);have h3:=qio (x::a);simp only[qBn]at h3;simp[zr,zY,qR,YM,h2];exact h3
 have h2:a.length<=549755813888:=by omega
 have h1:(zd a).take a.length=zd a:=qBh (by rw[qQ];exact qBl _);simp[hA,zr,zY,qR,YM,qQ,h1,h2,ha]
def qoe{s x z}:z∈qeL s x↔z∈s\/z=x:=by
 have:∀(s:List Int),z∈qeK s x↔z∈s\/z=x:=by
  intro s
  induction s with
  |nil=>simp[qeK]
  | cons y r ih=>
   unfold qeK;split
   . simp only[qBz,ih];constructor
     . rintro(h|h|h)<;>simp[h]
     rintro((h|h)|h)<;>simp[h]
   simp only[qBz];constructor
   . rintro(h|h|h)<;>simp[h]
   rintro((h|h)|h)<;>simp[h]
 rw[qeL,qEo,this,qEo]
def qcZ{z}:∀(n) (l),l.length=n->(z∈ww l↔z∈l):=by
 intro n
 induction n with
 |zero=>intro l h;rw[qBo h];rfl
 | succ n ih=>
  intro l h;have hne:l≠[]:=fun e=>by rw[e]at h;simp at h
  have e:=qCr hne;rw[<- e,JK,qoe,ih _ (by simp[h])];simp
def yE(g:List Nat):List Nat:=(ww (g.map fun n:Nat=>(n:Int))).map Int.toNat
def qaD(g):ww (g.map fun n:Nat=>(n:Int))=(yE g).map fun n:Nat=>(n:Int):=by
 unfold yE;rw[qCI]
 symm
 conv=>rhs;rw[<- qE9 (ww _)]
 refine qCf fun z hz=>?_
 rw[qcZ _ _ rfl]at hz;obtain⟨n,_,rfl⟩:=qBA.1 hz;rfl
def we{g i}:i∈yE g↔i∈g:=by
 have:((i:Int)∈ww (g.map fun n:Nat=>(n:Int)))↔(i:Int)∈(g.map fun n:Nat=>(n:Int)):=qcZ _ _ rfl;rw[qaD]at this;have key:∀l:List Nat,((i:Int)∈l.map fun n:Nat=>(n:Int))↔i∈l:=fun l=>by
  rw[qBA];exact⟨fun⟨n,hn,e⟩=>by
   have:n=i:=by omega
   exact this▸hn,fun h=>⟨i,h,rfl⟩⟩
 rwa[key,key]at this
def qce(g):(yE g).length=g.length:=by
 unfold yE;rw[qBM,Wh _ _ rfl,qBM]
def yl(F:Nat->Nat):Nat->Nat->Int->Nat×Int
 |0,x,idx=>(x,idx)
 |n+1,x,idx=>if idx<F x then(x,idx) else if n=0 then(x,idx-F x) else yl F n (x+1) (idx-F x)
def wdN(p:Problem)(i:Nat):Nat:=match p.vars[i]? with|some v=>v.width.toNat|none=>0
noncomputable def chS(s:Spc)(d:List Nd)(a:List Int)(gi:Nat):List Nat->(Nat->Option Nat)->Int->List Int->List Int
 |[],_,_,out=>out
 | i::r,fx,idx,out=>
  let q:=yl (fun x=>qaz s d (yj fx i x) a gi) (2^wdN s.p i) 0 idx
  chS s d a gi r (yj fx i q.1) q.2 (out.set i q.1)
noncomputable def qbn(s:Spc)(d:List Nd)(gi:Nat)(a:List Int)(idx:Int):List Int:=chS s d a gi (yE ((NG s.p).getD gi [])) (fun _=>none) idx a
def ChQ(out:List Int)(H:List Blk)(v:AV)(U':St):Prop:=KpL [] H U'.H/\∃N,v=.ms N 0 out.length 1/\H.length<=N/\U'.H[N]?=some (.cells (zd out))
def qgU{s d}(h:SpV s d)(hl12:(NG s.p).flatten.length<=12){gi}(hgi:gi<(NG s.p).length){r a H}(hao:AOk s.p a)(hal:a.length=s.p.vars.length)(hs:SpOk s H)(ha:AsR r a H)(T)
 {idx} (hi0:0<=idx) (hi1:idx<2^62):
 qj prog GG 24 [.ptr s.S 0,.int .i64 gi,r,.int .i64 idx] ⟨H,T⟩ (ChQ (qbn s d gi a idx) H):=by
 refine okzA func24 rfl rfl ?_;obtain⟨g,hg⟩:∃g,(NG s.p)[gi]?=some g:=⟨_,qBc hgi⟩;have hgm:=qBb hg;have hmf:∀i∈g,i∈(NG s.p).flatten:=fun i hi=>qBH.2 ⟨g,hgm,hi⟩
 have hg12:g.length<=12:=by
  have:∀(G:List (List Nat)),g∈G->g.length<=G.flatten.length:=by
   intro G
   induction G with
   |nil=>intro h;simp at h
   | cons x r ih=>
    intro h;rw[qBZ,qBe];rcases qBz.1 h with rfl|h
    . omega
    have:=ih h;omega
  exact qB6 (this _ hgm) hl12
 have hgne:g≠[]:=by
  obtain⟨g',hg',rfl⟩:=qBA.1 hgm;have:=(jz h.vp).1 g' hg';simpa using this
 have hane:a≠[]:=by
  intro e;obtain⟨i,r',rfl⟩:=qDV hgne;obtain⟨n,hn,_⟩:=hao i (hmf i (by simp));rw[e]at hn;simp at hn
 have hvl:=h.vq.vars;have hcl:=qlA ha hane (by omega) T;have hG:=qak h.vp;have hS:=hs.c;simp only[spE,qu,qBB,qBy,hG]at hS;have hgil:gi<s.p.groups.length:=by
  have:(NG s.p).length=s.p.groups.length:=by simp[NG]
  omega
 have hval:=qi7 (g.map fun n:Nat=>(n:Int)) .none (by simp);have hsrt:=qhD (g.map fun n:Nat=>(n:Int)) (by simpa using hg12) .none;have hrw:Yv (g.map fun n:Nat=>(n:Int))=g.map zL:=by simp[Yv,zL]
 have hnr:q9 (g.map zL)=true:=by rw[<- hrw];exact vt _
 rw[hrw]at hval hsrt;rw[qaD,qCI]at hsrt;rw[show((yE g).map (qh∘fun n:Nat=>(n:Int)))=(yE g).map zL by simp[qh,zL]]at hsrt;have hsl:(yE g).length<=12:=by rwa[qce]
 have hNl:(NG s.p).length=s.p.groups.length:=by simp[NG]
 unfold qbn;rw[show(NG s.p).getD gi []=g by simp[qBi,hg]];simp;refine qFC hcl ?_;rintro v U ⟨rfl,rfl⟩;have hS1:=qd hS [.cells (zd a)];simp[hS,hg,yM,qd];refine qFz hval (by simp[hnr]) ?_;simp;refine qFz hsrt (by simp[hnr]) ?_;simp;refine qFP (yE g) (fun dn ev U=>ev 0=.ptr s.S 0/\ev 1=.int .i64 gi/\ev 2=r/\ev 9=.ms H.length 0 a.length 1/\ev 10=.map (H.length+1)/\ev 27=.sl 1 ((yE g).map zL) .none/\ev 28=.int .i64 (yE g).length/\ev 29=.int .i64 dn.length /\
  ∃(rest:List Nat) (fx:Nat->Option Nat) (ix:Int) (out:List Int),yE g=dn++rest/\ev 3=.int .i64 ix/\chS s d a gi rest fx ix out=chS s d a gi (yE g) (fun _=>none) idx a/\KpL [] H U.H/\U.H[H.length]?=some (.cells (zd out))/\FxS (H.length+1) fx U.H/\out.length=a.length/\0<=ix/\ix<2^62/\∀i x,fx i=some x->x<65536) ?_ ?_ ?_
 . exact⟨by simp,by simp,by simp,by simp,by simp,by simp,by simp,by simp,yE g,fun _=>none,idx,a,rfl,by simp,rfl,qF7,by simp,⟨[],0,by simp,rfl⟩,rfl,hi0,hi1,by simp⟩
 . rintro dn i rest0 ev ⟨H1,T1⟩ R hR hd hx hlt ⟨e0,e1,e2,e9,e10,e27,e28,e29,rest,fx,ix,out,hre,e3,hch,hk,hN,hF,hol,hx0,hx1,hfx⟩;have hre':rest=i::rest0:=by
    have:=hre.symm.trans hd;simpa using this
   subst hre';obtain⟨v,l,hv,hw0,hw8,_,_,_⟩:=h.gr hmf i (we.1 (qBb hx));have hvi:=(qBa.1 hv).1;have hs1:=wN hw0 (by omega);have hp8:2^v.width.toNat<=2^8:=qBL (by omega) (by omega);have hp0:0<2^v.width.toNat:=qD2 _;obtain⟨W,hW⟩:∃W,W=2^v.width.toNat:=⟨_,rfl⟩;have hch':chS s d a gi rest0 (yj fx i (yl (fun x=>qaz s d (yj fx i x) a gi) W 0 ix).1) (yl (fun x=>qaz s d (yj fx i x) a gi) W 0 ix).2 (out.set i (yl (fun x=>qaz s d (yj fx i x) a gi) W 0 ix).1)=chS s d a gi (yE g) (fun _=>none) idx a:=by
    rw[<- hch,hW,<- show wdN s.p i=v.width.toNat by unfold wdN;rw[hv]];rfl
   rw[<- hW]at hs1 hp8 hp0;generalize hSF:(fun x=>qaz s d (yj fx i x) a gi)=SF at *;have hwl:=wr (n:=(dn.length:Int)+1) (by omega) (by omega);have hS1:=hk.2 _ _ hS (by simp);simp[e0,e27,e28,e29,show(dn.length:Int)<(yE g).length by omega,hx,zL,hS1,hv,show ¬v.width<0 by omega,IntKind.bits,hs1];refine qFE (fun n ev U=>ev 0=.ptr s.S 0/\ev 1=.int .i64 gi/\ev 2=r/\ev 9=.ms H.length 0 a.length 1/\ev 10=.map (H.length+1)/\ev 12=.int .i64 i/\ev 27=.sl 1 ((yE g).map zL) .none/\ev 28=.int .i64 (yE g).length/\ev 29=.int .i64 dn.length/\ev 42=.int .i64 W /\
    ∃ (x:Nat) (fc:Nat->Option Nat) (ic:Int),n=W-x/\ev 3=.int .i64 ic/\ev 43=.int .i64 x/\KpL [] H U.H/\U.H[H.length]?=some (.cells (zd out))/\FxS (H.length+1) fc U.H/\0<=ic/\ic<2^62/\(∀i x,fc i=some x->x<65536) /\
     ((x<W/\yl SF W 0 ix=yl SF (W-x) x ic/\∀y,yj fc i y=yj fx i y)\/(x=W/\yl SF W 0 ix=(W-1,ic)/\fc=yj fx i (W-1)))) W ?_ ?_
   . exact⟨by simp[e0],by simp[e1],by simp[e2],by simp[e9],by simp[e10],by simp,by simp[e27],by simp[e28],by simp[e29],by simp,0,fx,ix,by simp,by simp[e3],by simp,hk,hN,hF,hx0,hx1,hfx,.inl ⟨hp0,rfl,fun _=>rfl⟩⟩
   rintro n ev ⟨H2,T2⟩ R2 hR2 ⟨e0,e1,e2,e9,e10,e12,e27,e28,e29,e42,x,fc,ic,rfl,e3,e43,hk,hN,hF,hc0,hc1,hfc,hcase⟩;have hial:(i:Int)<(a.length:Int):=(by omega);have hial1:i+1<=a.length:=(by omega);have tail:∀(x:Nat) (ic:Int) (H3:List Blk) (T3:List (Option Nat)) (ev':Env),ev' 0=.ptr s.S 0->ev' 1=.int .i64 gi->ev' 2=r->ev' 9=.ms H.length 0 a.length 1->ev' 10=.map (H.length+1)->ev' 27=.sl 1 ((yE g).map zL) .none->ev' 28=.int .i64 (yE g).length->ev' 29=.int .i64 ((dn.length:Int)+1)->ev' 3=.int .i64 ic ->
    KpL [] H H3->H3[H.length]?=some (.cells (zd out))->FxS (H.length+1) (yj fx i x) H3->0<=ic->ic<2^62->x<65536->yl SF W 0 ix=(x,ic)->R ev' ⟨H3.set H.length (.cells (zd (out.set i x))),T3⟩:=by
    intro x ic H3 T3 ev' a0 a1 a2 a9 a10 a27 a28 a29 a3 bk bN bF b0 b1 bx hp;refine hR _ _ ⟨a0,a1,a2,a9,a10,a27,a28,by rw[a29];simp,rest0,yj fx i x,ic,out.set i x,by rw[hd];simp,a3,?_,bk.setF (qBl _),qBg (qBa.1 bN).1,bF.ne (by omega),by simp[hol],b0,b1,?_⟩
    . rw[<- hch',hp]
    intro k y hy;unfold yj at hy;split at hy
    . have:x=y:=by simpa using hy
      omega
    exact hfx k y hy
   rcases hcase with⟨hxW,hpk,hup⟩|⟨hxW,hpk,hup⟩
   . have hxW':(x:Int)<W:=(by omega);have hwx:=wr (n:=(x:Int)+1) (by omega) (by omega);obtain⟨B,hB,hF'⟩:=hF.set i x;have hF'':=hF';rw[hup]at hF'';have hkB:=hk.setF (b:=H.length+1) (y:=B) (by omega);have hNB:(H2.set (H.length+1) B)[H.length]?=some (.cells (zd out)):=(by rw[qBd (by omega)];exact hN);have hfu:∀k y,yj fx i x k=some y->y<65536:=fun k y hy=>by
      unfold yj at hy;split at hy
      . have:x=y:=by simpa using hy
        omega
      exact hfx k y hy
     have hsu:=qpF h hfu hgi hao (hs.keep hkB (by simp) (by simp) (by simp)) hF''.ok (ha.keep hkB (by simp)) T2;rw[<- show ∀x,SF x=qaz s d (yj fx i x) a gi from fun x=>by rw[<- hSF]]at hsu;have hpkx:yl SF (W-x) x ic=if ic<SF x then(x,ic) else if W-x-1=0 then(x,ic-SF x) else yl SF (W-x-1) (x+1) (ic-SF x):=by
      obtain⟨m,hm⟩:∃m,W-x=m+1:=⟨W-x-1,by omega⟩;rw[hm];rfl
     simp[e0,e1,e2,e10,e12,e42,e43,hxW',hB];refine qFC hsu ?_;rintro v ⟨H3,T3⟩ ⟨rfl,hk3⟩;have hF3:=hF''.keep hk3 (by simp);have hN3:=hk3.2 _ _ hNB (by simp);have hkk:=hkB.trans hk3;have hget:=hF3.get (qb0 fx i x) T3;by_cases hlt2:ic<SF x
     . rw[if_pos hlt2]at hpkx;simp[e3,e9,e10,e12,e29,hlt2,hget,hial,hial1,hN3,qQ,hol,yN,hwl];exact tail x ic H3 T3 _ (by simp[e0]) (by simp[e1]) (by simp[e2]) (by simp[e9]) (by simp[e10]) (by simp[e27]) (by simp[e28]) (by simp) (by simp[e3]) hkk hN3 hF3 hc0 hc1 (by omega) (by rw[hpk,hpkx])
     rw[if_neg hlt2]at hpkx;have hws:=wr (n:=ic-(SF x:Int)) (by omega) (by omega);simp[e3,e43,hlt2,hws,hwx];refine hR2 (W-(x+1)) _ _ (by omega) ⟨by simp[e0],by simp[e1],by simp[e2],by simp[e9],by simp[e10],by simp[e12],by simp[e27],by simp[e28],by simp[e29],by simp[e42],x+1,yj fx i x,ic-SF x,rfl,by simp,by simp,hkk,hN3,hF3,by omega,by omega,hfu,?_⟩;by_cases hlast:W-x-1=0
     . rw[if_pos hlast]at hpkx;refine .inr ⟨by omega,?_,?_⟩
       . rw[hpk,hpkx];congr 1;omega
       congr 1;omega
     rw[if_neg hlast]at hpkx;exact .inl ⟨by omega,by rw[hpk,hpkx];rfl,fun y=>qmK _ _ _ _⟩
   have hxW':¬(x:Int)<W:=(by omega);subst hup;have hget:=hF.get (qb0 fx i (W-1)) T2;simp[e9,e10,e12,e29,e42,e43,hxW,hget,hial,hial1,hN,qQ,hol,yN,hwl];exact tail (W-1) ic H2 T2 _ (by simp[e0]) (by simp[e1]) (by simp[e2]) (by simp[e9]) (by simp[e10]) (by simp[e27]) (by simp[e28]) (by simp) (by simp[e3]) hk hN hF hc0 hc1 (by omega) hpk
 rintro ev ⟨H1,T1⟩ ⟨e0,e1,e2,e9,e10,e27,e28,e29,rest,fx,ix,out,hre,e3,hch,hk,hN,hF,hol,hx0,hx1,hfx⟩;have hre':rest=[]:=by simpa using hre
 subst hre';rw[<- hch];simp[e9,e28,e29];exact⟨hk,H.length,by simp[chS,hol],qBl _,hN⟩
def qiR(x d:Int):Int:=IntKind.u64.wrap (BitVec.ofInt 64 x ^^^ BitVec.ofInt 64 (x.fdiv d)).toNat
def qvE(x:Int):Int:=qiR (IntKind.u64.wrap (qiR (IntKind.u64.wrap (qiR x 1073741824*13787848793156543929)) 134217728*10723151780598845931)) 2147483648
def qvg(x k:Int):Int:=qvE (IntKind.u64.wrap (x+IntKind.u64.wrap (11400714819323198485*IntKind.u64.wrap (k+1))))
def qvF(x):Pure prog GG 225 [.int .u64 x] (.int .u64 (qvE x)):=by
 refine okzP func225 rfl rfl ?_;simp[IntKind.bits];rfl
def qvh(x k):Pure prog GG 151 [.int .u64 x,.int .u64 k] (.int .u64 (qvg x k)):=by
 refine okzP func151 rfl rfl ?_;simp;refine qFz (qvF _) rfl ?_;simp;rfl
abbrev Rng:=Int×Int
def yB(r:Rng):List AV:=[.int .u64 r.1,.int .u64 r.2]
def Q7(r:Rng):Int×Rng:=(qvg r.1 r.2,r.1,IntKind.u64.wrap (r.2+1))
def qsc(r):Pure prog GG 101 [.agg (yB r)] (.tup [.int .u64 (Q7 r).1,.agg (yB (Q7 r).2)]):=by
 refine okzP func101 rfl rfl ?_;simp[yB];refine qFz (qvh _ _) rfl ?_;simp;exact⟨rfl,rfl,rfl⟩
def qiw{R}(H T):qj prog GG 56 [.ptr R 0] ⟨H,T⟩ (fun v U'=>v=.fn 100 [] [.ptr H.length 0]/\U'=⟨H++[.cells [.ptr R 0]],T⟩):=by
 refine okzA func56 rfl rfl ?_;simp
def qqQ(n):IntKind.u64.wrap n=n%18446744073709551616:=by
 simp[IntKind.wrap,IntKind.signed,IntKind.bits]
def YC(cut:Int):Nat->Int->Rng->Int×Rng
 |0,v,r=>(v,r)
 |k+1,_,r=>if cut=0\/(Q7 r).1<IntKind.u64.wrap (0-cut) then Q7 r else YC cut k (Q7 r).1 (Q7 r).2
def qoP(n:Int):Int:=(IntKind.u64.wrap (0-n)).tmod n
def ya(n:Int)(r:Rng):Int×Rng:=((YC (qoP n) 64 0 r).1.tmod n,(YC (qoP n) 64 0 r).2)
def qnI:List (Nat×Sch×List Nat):=[(6,.step 0 [10,9] (.step 1 [10,9,8,7,6,5,4,3,2] (.step 2 [10,9,8,7,6,5,4,3] (.step 3 [10,9,8,7,6,5,4] (.step 4 [10,9,8,7,6,5] (.step 5 [10,9,8,7,6] (.step 6 [10,9,8] (.step 7 [10,9] (.step 8 [10,9] (.step 9 [10] (.step 10 [] (.done))))))))))),[])]
def qrN:List (Nat×Sch×List Nat):=[(4,.step 0 [4,3,2] (.step 1 [4,3] (.step 2 [4,3] (.step 3 [4] (.step 4 [] (.done))))),[])]
def QW(cut):∀(k) (v) (r),0<=v->v<18446744073709551616->0<=(YC cut k v r).1/\(YC cut k v r).1<18446744073709551616
 |0,v,r,h0,h1=>⟨h0,h1⟩
 | k+1,v,r,h0,h1=>by
  have hn:0<=(Q7 r).1/\(Q7 r).1<18446744073709551616:=by
   unfold Q7 qvg qvE qiR;dsimp only;rw[qqQ];omega
  unfold YC;split
  . exact hn
  exact QW cut k _ _ hn.1 hn.2
def qzp(n:Int)(R:Nat)(r:Rng)(H:List Blk)(T:List (Option Nat))(v:AV)(U':St):Prop:=v=.int .i64 (ya n r).1/\U'=⟨H.set R (.cells (yB (ya n r).2)),T⟩
def qs3{n}(h1:1<=n)(h2:n<=4611686018427387904){R C r H}(hC:H[C]?=some (.cells [.ptr R 0]))(hR:H[R]?=some (.cells (yB r)))(hne:C≠R)(T):
 qj prog GG 100 [.int .i64 n,.ptr C 0] ⟨H,T⟩ (qzp n R r H T):=by
 refine qFy ⟨false,qnI,[],[]⟩ qX func100 rfl (by kernel_rfl) ?_;have hn0:¬n=0:=by omega
 have hwn:=wru (n:=n) (by omega) (by omega);obtain⟨cut,hcut⟩:∃cut,cut=qoP n:=⟨_,rfl⟩;have hcut':(IntKind.u64.wrap (0-n)).tmod n=cut:=by rw[hcut];rfl
 have hrl:=(qBa.1 hR).1;simp[yF,unA,hn0,hwn];obtain⟨RES,hRES⟩:∃RES,RES=YC cut 64 0 r:=⟨_,rfl⟩;have hcn:(IntKind.u64.wrap (-n)).tmod n=cut:=by simpa using hcut'
 have fin:∀(v:Int) (rr:Rng),RES=(v,rr)->IntKind.i64.wrap (v.tmod n)=v.tmod n/\qzp n R r H T (.int .i64 (v.tmod n)) ⟨H.set R (.cells (yB rr)),T⟩:=fun v rr e=>by
  have hv:=QW cut 64 0 r (by omega) (by omega);rw[<- hRES,e]at hv;have h3:v.tmod n=v%n:=qB4 hv.1;have h4:=qD1 v hn0;have h5:=qEc v (by omega:0<n);refine⟨by rw[h3];exact wr (by omega) (by omega),?_⟩;unfold qzp;rw[show ya n r=(v.tmod n,rr) by unfold ya;rw[<- hcut,<- hRES,e]];exact⟨rfl,rfl⟩
 refine qFE (fun m ev U=>ev 1=.ptr C 0/\ev 4=.int .u64 n/\ev 5=.int .u64 cut/\∃(i:Nat) (v:Int) (rr:Rng),m=64-i/\i<=64/\ev 13=.int .i64 i/\ev 6=.int .u64 v/\YC cut (64-i) v rr=RES/\U=⟨H.set R (.cells (yB rr)),T⟩) 64 ?_ ?_
 . refine⟨by simp,by simp,by simp[hcn],0,0,r,rfl,by omega,by simp,by simp,hRES.symm,?_⟩;congr 1;apply qCb;intro j;by_cases hj:R=j
   . subst hj;rw[qBg hrl,hR]
   rw[qBd hj]
 rintro m ev U R0 hR0 ⟨e1,e4,e5,i,v,rr,rfl,hi,e13,e6,hd,rfl⟩;have bC:∀y,(H.set R y)[C]?=some (.cells [.ptr R 0]):=fun y=>by rw[qBd (Ne.symm hne)];exact hC
 have bR:∀y,(H.set R y)[R]?=some y:=fun y=>qBg hrl
 by_cases h64:i<64
 . have h64':(i:Int)<64:=(by omega);obtain⟨k,hk⟩:∃k,64-i=k+1:=⟨63-i,by omega⟩;have hwi:=wr (n:=(i:Int)+1) (by omega) (by omega);rw[hk]at hd hR0;unfold YC at hd;obtain⟨x,r',hx⟩:∃x r',Q7 rr=(x,r'):=⟨_,_,rfl⟩;have hnx:=qsc rr;rw[hx]at hd hnx;simp only[yB]at hnx bR;simp[e13,h64'];rw[qP rfl];simp[zc,e1,bC,bR,yB];refine qFz hnx rfl ?_;by_cases hc:cut=0
   . rw[if_pos (.inl hc)]at hd;obtain⟨hw,hq⟩:=fin x r' hd.symm;simp[zc,e4,e5,bR,hc,hn0,hw,yF];exact hq
   by_cases hlt:x<IntKind.u64.wrap (0-cut)
   . rw[if_pos (.inr hlt)]at hd;obtain⟨hw,hq⟩:=fin x r' hd.symm;have hlt':x<IntKind.u64.wrap (-cut):=(by simpa using hlt);simp[zc,e4,e5,bR,hc,unA,hn0,hw,yF,hlt'];exact hq
   rw[if_neg (fun h=>h.elim hc hlt)]at hd;simp[zc,e4,e5,e13,bR,hc,unA,hn0,yF,show ¬x<IntKind.u64.wrap (-cut) by simpa using hlt,hwi];refine hR0 k _ _ (by omega) ⟨by simp[e1],by simp[e4],by simp[e5],i+1,x,r',by omega,by omega,by simp,by simp,?_,rfl⟩;rw[<- hd];congr 1;omega
 have h64':¬(i:Int)<64:=by omega
 rw[show 64-i=0 by omega]at hd;obtain⟨hw,hq⟩:=fin v rr hd.symm;simp[e4,e6,e13,h64',yF,hn0,hw];exact hq
def jR(n:Int)(r:Rng):Int×Rng×Int:=if n<1\/4611686018427387904<n then(0,(0,0),1) else((ya n r).1,(ya n r).2,0)
def qiM(q:Int×Rng×Int):AV:=.tup [.int .i64 q.1,.agg (yB q.2.1),.int .i64 q.2.2]
def qtB(n r):Pure prog GG 29 [.agg (yB r),.int .i64 n] (qiM (jR n r)):=by
 refine qFx ⟨false,qrN,[],[]⟩ true qX func29 rfl (by kernel_rfl) ?_;by_cases h1:n<1
 . have e:jR n r=(0,(0,0),1):=if_pos (.inl h1);rw[e];simp[h1,qiM,yB];rw[qs (by rfl)];exact⟨rfl,qFG _⟩
 by_cases h2:4611686018427387904<n
 . have e:jR n r=(0,(0,0),1):=if_pos (.inr h2);rw[e];simp[h1,h2,qiM,yB];rw[qs (by rfl)];exact⟨rfl,qFG _⟩
 rw[show jR n r=((ya n r).1,(ya n r).2,0) from if_neg (fun h=>h.elim h1 h2)];simp[h1,h2,yB];refine qFC (qiw _ _) ?_;rintro v U ⟨rfl,rfl⟩;simp;refine qFC (qs3 (r:=r) (R:=0) (C:=2) (by omega) (by omega) (by simp) (by simp[yB]) (by simp) _) ?_;rintro v U ⟨rfl,rfl⟩;simp[yB];rw[qP rfl];simp[zc,qiM,yB];rw[qs (by rfl)];exact⟨rfl,qFG _⟩
section
variable {H:Type}{enc:TypeId×Value->H}{w:World}{base:Nat}{held:Bool}
def ZW{fs:Array Field}{t n:Nat}{cs:List Value}{x:DataW H×List MemPlace}(ht:prog.underlying t=some (.struct fs))(h:DataW.trod enc prog w base (fun _=>true) held n t cs=some x):
 ∃m,n=m+1/\cs.length=prog.cellsOf t/\∀(i:Nat) (f:Field),fs[i]?=some f->∃y,DataW.trod enc prog w base (fun _=>true) held m f.type ((cs.drop f.offset).take (prog.cellsOf f.type))=some y:=by
 obtain⟨xs,m,rfl,rfl,hl,hlen,hf⟩:=DataW.trod_struct ht h;refine⟨m,rfl,hl,fun i f hi=>?_⟩;have hlt:i<fs.size:=(qB3.1 hi).1;exact⟨xs[i]'(by omega),by rw[hf i f hi,qBc]⟩
def qjV{fs:Array Field}{t n:Nat}{cs:List Value}{x:DataW H×List MemPlace}(ht:prog.underlying t=some (.struct fs))(h:DataW.trod enc prog w base (fun _=>true) held n t cs=some x):
 ∃ m,n=m+1/\cs.length=prog.cellsOf t/\(∀(i:Nat) (f:Field),fs[i]?=some f->∃y,DataW.trod enc prog w base (fun _=>true) held m f.type ((cs.drop f.offset).take (prog.cellsOf f.type))=some y) /\
  ∀(i:Nat) (f:Field),fs[i]?=some f->∀y,DataW.trod enc prog w base (fun _=>true) held m f.type ((cs.drop f.offset).take (prog.cellsOf f.type))=some y->∃xs:List (DataW H×List MemPlace),x.1=.agg (xs.map (·.1))/\xs.length=fs.size/\xs[i]?=some y:=by
 obtain⟨xs,m,rfl,rfl,hl,hlen,hf⟩:=DataW.trod_struct ht h;refine⟨m,rfl,hl,fun i f hi=>?_,fun i f hi y hy=>⟨xs,rfl,hlen,?_⟩⟩
 . have hlt:i<fs.size:=(qB3.1 hi).1;exact⟨xs[i]'(by omega),by rw[hf i f hi,qBc]⟩
 rw[<- hf i f hi,hy]
def k3:prog.cellsOf 3=1:=by kernel_rfl
def k4:prog.cellsOf 4=1:=by kernel_rfl
def k9:prog.cellsOf 9=1:=by kernel_rfl
def k37:prog.cellsOf 28=1:=by kernel_rfl
def k22:prog.cellsOf 22=1:=by kernel_rfl
def k23:prog.cellsOf 23=1:=by kernel_rfl
def k24:prog.cellsOf 24=1:=by kernel_rfl
def k25:prog.cellsOf 25=1:=by kernel_rfl
def k27:prog.cellsOf 27=5:=by kernel_rfl
def k57:prog.cellsOf 79=4:=by kernel_rfl
def k50:prog.cellsOf 54=4:=by kernel_rfl
def k75:prog.cellsOf 80=1:=by kernel_rfl
def k77:prog.cellsOf 82=2:=by kernel_rfl
def qzV:prog.cellsOf 210=4:=by kernel_rfl
def qec{s:ByteArray}:qf (KMw w) (.str s.data.toList) (.string s):=by
 obtain⟨d⟩:=s;unfold qf;show Value.string ⟨d⟩=Value.string ⟨d.toList.toArray⟩;rw[qDj]
def ZV{n:Nat}{c:Value}{y:DataW H×List MemPlace}(h:DataW.trod enc prog w base (fun _=>true) held n 3 [c]=some y):∃i:Int,c=.int .i64 i:=by
 obtain⟨i,e,_⟩:=DataW.trod_int underlying3 h;exact⟨i,(List.cons.inj e).1⟩
def qrD{n:Nat}{c:Value}{y:DataW H×List MemPlace}(h:DataW.trod enc prog w base (fun _=>true) held n 4 [c]=some y):∃i:Bool,c=.bool i:=by
 obtain⟨i,e,_⟩:=DataW.trod_bool underlying4 h;exact⟨i,(List.cons.inj e).1⟩
def qpN{n:Nat}{c:Value}{y:DataW H×List MemPlace}(h:DataW.trod enc prog w base (fun _=>true) held n 9 [c]=some y):∃s:ByteArray,c=.string s/\Fits s.data.toList:=by
 obtain⟨s,e,_,hs⟩:=DataW.trod_string underlying9 h;refine⟨s,(List.cons.inj e).1,?_⟩;have:s.data.toList.length=s.size:=qCv;rw[Fits,this];simp only[maxLen]at hs;omega
def qyh{n:Nat}{cs:List Value}{x:DataW H×List MemPlace}(h:DataW.trod enc prog w base (fun _=>true) held n 54 cs=some x):∃v:Var,qi (KMw w) (qG v) cs/\Fits v.name:=by
 obtain⟨m,rfl,hl,hf⟩:=ZW underlying54 h;rw[k50]at hl
 match cs,hl with
 | [a,b,c,d],_=>
  obtain⟨y0,h0⟩:=hf 0 _ rfl;obtain⟨y1,h1⟩:=hf 1 _ rfl;obtain⟨y2,h2⟩:=hf 2 _ rfl;obtain⟨y3,h3⟩:=hf 3 _ rfl;have h0:DataW.trod enc prog w base (fun _=>true) held m 9 (List.take (prog.cellsOf 9) (List.drop 0 [a,b,c,d]))=some y0:=h0;rw[k9]at h0;have h1:DataW.trod enc prog w base (fun _=>true) held m 3 (List.take (prog.cellsOf 3) (List.drop 1 [a,b,c,d]))=some y1:=h1;rw[k3]at h1;have h2:DataW.trod enc prog w base (fun _=>true) held m 3 (List.take (prog.cellsOf 3) (List.drop 2 [a,b,c,d]))=some y2:=h2;rw[k3]at h2;have h3:DataW.trod enc prog w base (fun _=>true) held m 3 (List.take (prog.cellsOf 3) (List.drop 3 [a,b,c,d]))=some y3:=h3;rw[k3]at h3;obtain⟨s,rfl,hs⟩:=qpN (c:=a) h0;obtain⟨i1,rfl⟩:=ZV (c:=b) h1;obtain⟨i2,rfl⟩:=ZV (c:=c) h2;obtain⟨i3,rfl⟩:=ZV (c:=d) h3;refine⟨⟨s.data.toList,i1,i2,i3⟩,?_,hs⟩;simp only[qG,qi];exact⟨_,_,rfl,qec,_,_,rfl,by simp[qf],_,_,rfl,by simp[qf],_,_,rfl,by simp[qf],rfl⟩
def qng{n:Nat}{cs:List Value}{x:DataW H×List MemPlace}(h:DataW.trod enc prog w base (fun _=>true) held n 210 cs=some x):∃v:Weight,qi (KMw w) (qy v) cs/\True:=by
 obtain⟨m,rfl,hl,hf⟩:=ZW underlying210 h;rw[qzV]at hl
 match cs,hl with
 | [a,b,c,d],_=>
  obtain⟨y0,h0⟩:=hf 0 _ rfl;obtain⟨y1,h1⟩:=hf 1 _ rfl;obtain⟨y2,h2⟩:=hf 2 _ rfl;obtain⟨y3,h3⟩:=hf 3 _ rfl;have h0:DataW.trod enc prog w base (fun _=>true) held m 3 (List.take (prog.cellsOf 3) (List.drop 0 [a,b,c,d]))=some y0:=h0;rw[k3]at h0;have h1:DataW.trod enc prog w base (fun _=>true) held m 3 (List.take (prog.cellsOf 3) (List.drop 1 [a,b,c,d]))=some y1:=h1;rw[k3]at h1;have h2:DataW.trod enc prog w base (fun _=>true) held m 3 (List.take (prog.cellsOf 3) (List.drop 2 [a,b,c,d]))=some y2:=h2;rw[k3]at h2;have h3:DataW.trod enc prog w base (fun _=>true) held m 4 (List.take (prog.cellsOf 4) (List.drop 3 [a,b,c,d]))=some y3:=h3;rw[k4]at h3;obtain⟨i0,rfl⟩:=ZV (c:=a) h0;obtain⟨i1,rfl⟩:=ZV (c:=b) h1;obtain⟨i2,rfl⟩:=ZV (c:=c) h2;obtain⟨i3,rfl⟩:=qrD (c:=d) h3;refine⟨⟨i0,i1,i2,i3⟩,?_,trivial⟩;simp[qi,qf]
def quT{n:Nat}{cs:List Value}{x:DataW H×List MemPlace}(h:DataW.trod enc prog w base (fun _=>true) held n 82 cs=some x):∃v:Dist,qi (KMw w) (zn v) cs/\Fits v.weights:=by
 obtain⟨m,rfl,hl,hf⟩:=ZW underlying82 h;rw[k77]at hl
 match cs,hl with
 | [a,b],_=>
  obtain⟨y0,h0⟩:=hf 0 _ rfl;obtain⟨y1,h1⟩:=hf 1 _ rfl;have h0:DataW.trod enc prog w base (fun _=>true) held m 3 (List.take (prog.cellsOf 3) (List.drop 0 [a,b]))=some y0:=h0;rw[k3]at h0;have h1:DataW.trod enc prog w base (fun _=>true) held m 80 (List.take (prog.cellsOf 80) (List.drop 1 [a,b]))=some y1:=h1;rw[k75]at h1;obtain⟨i0,rfl⟩:=ZV (c:=a) h0;have h1':DataW.trod enc prog w base (fun _=>true) held m 80 [b]=some y1:=h1
  cases m with
  |zero=>simp[DataW.trod]at h1'
  | succ m=>
   obtain⟨l,v,e,hv,hfl,_⟩:=vu (en:=qy) (good:=fun _=>True) underlying80 qzV (by omega) (fun y=>by simp[AV.atom]) (fun cs x h=>qng h) h1';cases e;refine⟨⟨i0,l⟩,?_,hfl⟩;simp only[zn,qi,qf];exact⟨_,_,rfl,rfl,_,[],rfl,by simpa only[qf] using hv,rfl⟩
def qzv{n:Nat}{cs:List Value}{x:DataW H×List MemPlace}(h:DataW.trod enc prog w base (fun _=>true) held n 28 cs=some x):∃l:List Int,qi (KMw w) (qA l) cs/\Fits l:=by
 cases n with
 |zero=>simp[DataW.trod]at h
 | succ m=>
  obtain⟨l,v,rfl,hv,hfl,_⟩:=vu (en:=qh) (good:=fun _=>True) underlying28 k3 (by omega) (fun y=>by simp[AV.atom]) (fun cs x h=>by
   obtain⟨i,e,_⟩:=DataW.trod_int underlying3 h;exact⟨i,by rw[e];simp[qi,qf],trivial⟩) h
  refine⟨l,?_,hfl⟩;simp only[qA,qi];exact⟨v,[],rfl,hv,rfl⟩
def rdE:∀(N n:Nat),n<=N->∀{cs:List Value}{x:DataW H×List MemPlace},DataW.trod enc prog w base (fun _=>true) held n 79 cs=some x->∃e:Ex,qi (KMw w) (qp e) cs/\Wen e:=by
 intro N
 induction N with
 | zero=>
  intro n hn cs x h;have:n=0:=by omega
  subst this;simp[DataW.trod]at h
 | succ N ih=>
  intro n hn cs x h;obtain⟨m,rfl,hl,hf⟩:=ZW underlying79 h;rw[k57]at hl
  match cs,hl with
  | [a,b,c,d],_=>
   obtain⟨y0,h0⟩:=hf 0 _ rfl;obtain⟨y1,h1⟩:=hf 1 _ rfl;obtain⟨y2,h2⟩:=hf 2 _ rfl;obtain⟨y3,h3⟩:=hf 3 _ rfl;have h0:DataW.trod enc prog w base (fun _=>true) held m 3 (List.take (prog.cellsOf 3) (List.drop 0 [a,b,c,d]))=some y0:=h0;rw[k3]at h0;have h1:DataW.trod enc prog w base (fun _=>true) held m 3 (List.take (prog.cellsOf 3) (List.drop 1 [a,b,c,d]))=some y1:=h1;rw[k3]at h1;have h2:DataW.trod enc prog w base (fun _=>true) held m 9 (List.take (prog.cellsOf 9) (List.drop 2 [a,b,c,d]))=some y2:=h2;rw[k9]at h2;have h3:DataW.trod enc prog w base (fun _=>true) held m 23 (List.take (prog.cellsOf 23) (List.drop 3 [a,b,c,d]))=some y3:=h3;rw[k23]at h3;obtain⟨i0,rfl⟩:=ZV (c:=a) h0;obtain⟨i1,rfl⟩:=ZV (c:=b) h1;obtain⟨s,rfl,hs⟩:=qpN (c:=c) h2;have h3':DataW.trod enc prog w base (fun _=>true) held m 23 [d]=some y3:=h3
   cases m with
   |zero=>simp[DataW.trod]at h3'
   | succ m=>
    obtain⟨l,v,e,hv,hfl,hg⟩:=vu (en:=qp) (good:=Wen) underlying23 k57 (by omega) (fun y=>by rw[qc];simp[AV.atom]) (fun cs x h=>ih m (by omega) h) h3';cases e;refine⟨.mk i0 i1 s.data.toList l,?_,?_⟩
    . rw[qc];simp only[qi,qFu,Ex.n_mk,qFv,qFw];exact⟨_,_,rfl,by simp[qf],_,_,rfl,by simp[qf],_,_,rfl,qec,_,[],rfl,hv,rfl⟩
    intro y hy;rw[jF]at hy;rcases qBz.1 hy with rfl|hy
    . exact⟨hfl,hs⟩
    obtain⟨a,ha,hya⟩:=Z6.1 hy;exact hg a ha y hya
def b3:prog.bytesOf 3=8:=by kernel_rfl
def qul{P:Program}{e:TypeId}:∀{E:List (DataW H)}{d:DataW H},d∈E->∀k∈d.weights P e,k∈DataW.weightsAll P e E
 |[],_,h,_,_=>nomatch h
 | a::r,d,h,k,hk=>by
  simp only[DataW.weightsAll,qBp];rcases qBz.1 h with rfl|h
  . exact .inl hk
  exact .inr (qul h k hk)
def qnh{n:Nat}{cs:List Value}{x:DataW H×List MemPlace}(h:DataW.trod enc prog w base (fun _=>true) held (n+1) 25 cs=some x)(hw:∀k∈x.1.weights prog 25,k<=reachBytes):
 ∃(l:List (List Int)) (v:Value),cs=[v]/\qf (KMw w) (.sl 1 (l.map qA) .none) v/\Fits l/\∀y∈l,Fits y/\y.length<17592186044416:=by
 obtain⟨l,v,h1,h2,h3,h4,_⟩:=KJ (en:=qA) (good:=fun g=>Fits g/\g.length<17592186044416) (X:=fun d=>∀k∈d.weights prog 28,k<=reachBytes) underlying25 k37 (by omega) (fun y=>by simp[AV.atom]) (fun cs x h hx=>by
  cases n with
  |zero=>simp[DataW.trod]at h
  | succ m=>
   obtain⟨l,v,rfl,hv,hfl,_,hN⟩:=KJ (en:=qh) (good:=fun _=>True) (X:=fun _=>True) underlying28 k3 (by omega) (fun y=>by simp[AV.atom]) (fun cs x h _=>by
    obtain⟨i,e,_⟩:=DataW.trod_int underlying3 h;exact⟨i,by rw[e];simp[qi,qf],trivial⟩) h (fun _ _ _ _ _=>trivial)
   refine⟨l,?_,hfl,?_⟩
   . simp only[qA,qi];exact⟨v,[],rfl,hv,rfl⟩
   have:=hN 17592186044415 fun E S e=>by
    have:=hx ((E.length+S.length)*prog.bytesOf 3) (by rw[e];simp only[DataW.weights,underlying28];exact qDq);rw[b3]at this;simp only[reachBytes]at this;omega
   omega) h (fun E S e d hd k hk=>hw k (by
    rw[e];simp only[DataW.weights,underlying25];exact qCK _ (qB1 _ (qul hd k hk))))
 exact⟨l,v,h1,h2,h3,h4⟩
def rdP{n:Nat}{cs:List Value}{x:DataW H×List MemPlace}(h:DataW.trod enc prog w base (fun _=>true) held n 27 cs=some x)(hw:∀k∈x.1.weights prog 27,k<=reachBytes):∃p:Problem,qi (KMw w) (qu p) cs/\VM p:=by
 have hx:∀y4,(∃xs:List (DataW H×List MemPlace),x.1=.agg (xs.map (·.1))/\xs.length=5/\xs[4]?=some y4)->∀k∈y4.1.weights prog 25,k<=reachBytes:=by
  rintro y4 ⟨xs,e,hl,h4⟩ k hk;refine hw k ?_;rw[e]
  match xs,hl with
  | [a,b,c,d,e],_=>
   simp at h4;subst h4;simp only[DataW.weights,underlying27,qBn,qBN,DataW.weightsEach,qBp];exact .inr (.inr (.inr (.inr (.inl hk))))
 obtain⟨m,rfl,hl,hf,hy⟩:=qjV underlying27 h;rw[k27]at hl
 match cs,hl with
 | [a,b,c,d,e],_=>
  obtain⟨y0,h0⟩:=hf 0 _ rfl;obtain⟨y1,h1⟩:=hf 1 _ rfl;obtain⟨y2,h2⟩:=hf 2 _ rfl;obtain⟨y3,h3⟩:=hf 3 _ rfl;obtain⟨y4,h4⟩:=hf 4 _ rfl;have h4w:=hx y4 (hy 4 _ rfl y4 h4);have h0:DataW.trod enc prog w base (fun _=>true) held m 22 (List.take (prog.cellsOf 22) (List.drop 0 [a,b,c,d,e]))=some y0:=h0;rw[k22]at h0;have h1:DataW.trod enc prog w base (fun _=>true) held m 23 (List.take (prog.cellsOf 23) (List.drop 1 [a,b,c,d,e]))=some y1:=h1;rw[k23]at h1;have h2:DataW.trod enc prog w base (fun _=>true) held m 23 (List.take (prog.cellsOf 23) (List.drop 2 [a,b,c,d,e]))=some y2:=h2;rw[k23]at h2;have h3:DataW.trod enc prog w base (fun _=>true) held m 24 (List.take (prog.cellsOf 24) (List.drop 3 [a,b,c,d,e]))=some y3:=h3;rw[k24]at h3;have h4:DataW.trod enc prog w base (fun _=>true) held m 25 (List.take (prog.cellsOf 25) (List.drop 4 [a,b,c,d,e]))=some y4:=h4;rw[k25]at h4;have h0':DataW.trod enc prog w base (fun _=>true) held m 22 [a]=some y0:=h0;have h1':DataW.trod enc prog w base (fun _=>true) held m 23 [b]=some y1:=h1;have h2':DataW.trod enc prog w base (fun _=>true) held m 23 [c]=some y2:=h2;have h3':DataW.trod enc prog w base (fun _=>true) held m 24 [d]=some y3:=h3;have h4':DataW.trod enc prog w base (fun _=>true) held m 25 [e]=some y4:=h4
  cases m with
  |zero=>simp[DataW.trod]at h0'
  | succ m=>
   obtain⟨l0,v0,e0,r0,f0,g0⟩:=vu (en:=qG) (good:=fun v=>Fits v.name) underlying22 k50 (by omega) (fun y=>by simp[AV.atom]) (fun cs x h=>qyh h) h0';obtain⟨l1,v1,e1,r1,f1,g1⟩:=vu (en:=qp) (good:=Wen) underlying23 k57 (by omega) (fun y=>by rw[qc];simp[AV.atom]) (fun cs x h=>rdE m m (qBl _) h) h1';obtain⟨l2,v2,e2,r2,f2,g2⟩:=vu (en:=qp) (good:=Wen) underlying23 k57 (by omega) (fun y=>by rw[qc];simp[AV.atom]) (fun cs x h=>rdE m m (qBl _) h) h2';obtain⟨l3,v3,e3,r3,f3,g3⟩:=vu (en:=zn) (good:=fun d=>Fits d.weights) underlying24 k77 (by omega) (fun y=>by simp[AV.atom]) (fun cs x h=>quT h) h3';obtain⟨l4,v4,e4,r4,f4,g4⟩:=qnh h4' h4w;cases e0;cases e1;cases e2;cases e3;cases e4;refine⟨⟨l0,l1,l2,l3,l4⟩,?_,⟨⟨g0,fun e he=>?_,f3,g3,f4,fun g hg=>(g4 g hg).1⟩,f0,f1,f2,fun g hg=>(g4 g hg).2⟩⟩
   . simp only[qu,qi];exact⟨_,_,rfl,r0,_,_,rfl,r1,_,_,rfl,r2,_,_,rfl,r3,_,_,rfl,r4,rfl⟩
   rcases qBp.1 he with he|he
   . exact g1 e he
   exact g2 e he
def k42:prog.cellsOf 42=2:=by kernel_rfl
def k40:prog.cellsOf 40=1:=by kernel_rfl
def qpM{n:Nat}{c:Value}{y:DataW H×List MemPlace}(h:DataW.trod enc prog w base (fun _=>true) held n 40 [c]=some y):∃i:Int,c=.int .u64 i:=by
 obtain⟨i,e,_⟩:=DataW.trod_int underlying40 h;exact⟨i,(List.cons.inj e).1⟩
def rdR{n:Nat}{cs:List Value}{x:DataW H×List MemPlace}(h:DataW.trod enc prog w base (fun _=>true) held n 42 cs=some x):∃r:Rng,qi (KMw w) (yB r) cs/\True:=by
 obtain⟨m,rfl,hl,hf⟩:=ZW underlying42 h;rw[k42]at hl
 match cs,hl with
 | [a,b],_=>
  obtain⟨y0,h0⟩:=hf 0 _ rfl;obtain⟨y1,h1⟩:=hf 1 _ rfl;have h0:DataW.trod enc prog w base (fun _=>true) held m 40 (List.take (prog.cellsOf 40) (List.drop 0 [a,b]))=some y0:=h0;have h1:DataW.trod enc prog w base (fun _=>true) held m 40 (List.take (prog.cellsOf 40) (List.drop 1 [a,b]))=some y1:=h1;rw[k40]at h0 h1;obtain⟨i,rfl⟩:=qpM (c:=a) h0;obtain⟨j,rfl⟩:=qpM (c:=b) h1;refine⟨(i,j),?_,trivial⟩;simp only[yB,qi];exact⟨_,_,rfl,rfl,_,_,rfl,rfl,rfl⟩
end
def yr(vs:List Var):List Int:=vs.map (·.value)
def qwq(vs:List Var)(H:List Blk)(r:AV)(U':St):Prop:=KpL [] H U'.H/\∃A t,r=Ju A t (yr vs)/\(vs≠[]->U'.H[A]?=some (.cells (zd (yr vs)))/\H.length<=A)
def qjR(p)(hl:p.vars.length<=1000)(H T):qj prog GG 152 [.agg (qu p)] ⟨H,T⟩ (qwq p.vars H):=by
 refine okzA func152 rfl rfl ?_;by_cases hv0:p.vars=[]
 . have hq:∀u T',qwq p.vars H (.sl 1 [] (.chain T.length 0)) ⟨H++u,T'⟩:=fun u T'=>⟨qF7,H.length,T.length,by rw[hv0];rfl,fun h=>absurd hv0 h⟩
   rw[hv0]at hq;simp[hv0,qD];refine qFE (fun m ev U=>ev 3=.sl 1 [] (.chain T.length 0)/\ev 4=.int .i64 0/\∃u T',U=⟨H++u,T'⟩) 0 ⟨by simp,by simp,_,_,rfl⟩ ?_;rintro m ev U R hR ⟨e3,e4,u,T',rfl⟩;simp[e3,e4];exact hq u T'
 have hpos:=qBv.2 hv0;simp[hv0,show(p.vars.length:Int)<=549755813888 by omega,qD];refine qFP p.vars (fun d ev U=>ev 1=.ptr H.length 0/\ev 3=.ms (H.length+1) 0 p.vars.length 1/\ev 4=.int .i64 d.length/\∃H3,U=⟨H3,T⟩/\KpL [] H H3/\H3[H.length]?=some (.cells (qu p))/\H3[H.length+1]?=some (.cells (zd (yr d++List.replicate (p.vars.length-d.length) 0)))) ?_ ?_ ?_
 . refine⟨by simp,by simp,by simp,_,rfl,qF7,by simp,?_⟩;simp[yr,zd]
 . rintro d v rest ev U R hR hd hxv hlt ⟨e1,e3,e4,H3,rfl,hk,hP,hA⟩;have hdw:=wr (n:=(d.length:Int)+1) (by omega) (by omega);have hrl:List.replicate (p.vars.length-d.length) (0:Int)=0::List.replicate (p.vars.length-(d.length+1)) 0:=by
    rw[show p.vars.length-d.length=(p.vars.length-(d.length+1))+1 by omega,qCZ]
   rw[hrl]at hA;have hsl:(yr d).length=d.length:=(by simp[yr]);have hset:(zd (yr d++0::List.replicate (p.vars.length-(d.length+1)) 0)).set d.length (.int .i64 v.value)=zd (yr (d++[v])++List.replicate (p.vars.length-(d.length+1)) 0):=by
    rw[yN,qBY _ _ (by omega),hsl,qB9];simp[yr]
   have hAl:=(qBa.1 hA).1;simp only[qu]at hP;simp[-getElem?_pos,e1,e3,e4,hlt,hxv,hP,hA,show(zd (yr d++0::List.replicate (p.vars.length-(d.length+1)) 0)).length=p.vars.length by rw[qQ];simp[hsl];omega,hset,show d.length+1<=p.vars.length by omega,hdw];refine hR _ _ ⟨by simp[e1],by simp[e3],by simp,_,rfl,hk.setF (by omega),?_,?_⟩
   . rw[qBd (by omega)];exact hP
   rw[qBe,qBK];exact qBg hAl
 rintro ev U ⟨e1,e3,e4,H3,rfl,hk,hP,hA⟩;rw[qB9,qDX,qBU]at hA;simp[e3,e4];refine⟨hk,H.length+1,0,?_,fun _=>⟨hA,by omega⟩⟩;rw[Ju,if_neg (by simpa[yr] using hv0)];simp[yr]
