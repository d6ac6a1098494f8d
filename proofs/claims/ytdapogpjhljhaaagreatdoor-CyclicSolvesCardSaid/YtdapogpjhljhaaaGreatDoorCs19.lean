import Derived.Tactics
import Derived.Tactics2
import Derived.WalkKit
import Derived.WalkSmall
import Derived.RowKit3
import Derived.Test.YtdapogpjhljhaaaGreatDoorCs18
set_option maxHeartbeats 16000000
set_option maxRecDepth 100000
set_option linter.all false
set_option linter.defProp false
namespace Go.Proofs.YtdapogpjhljhaaaGreatDoor
open Go Go.Abs Tryz Go.RowKit
structure NodeR(B M t d full)(σ:St)(d' full' i σ'):Prop where
 br:BR B M t d' full' σ'
 kp:KpL [B,M] σ.H σ'.H
 gr:zi d d'
 ok:DagOk d'
 lt:i<d'.length
 mono:full=true->full'=true
 fl:full'=true->8192<=d'.length
def qzx(B M t:Nat)(d:List Nd)(full:Bool)(σ:St)(lv lo hi:Nat)(r:AV)(σ':St):Prop :=
 ∃d' full' i,r=.int .i64 (i:Nat)/\NodeR B M t d full σ d' full' i σ'/\(full'=false->lv<=lvD d' i/\∀b,evD d' b i=evD d' b (if b lv then hi else lo))
def qkz{B M t d full σ}(h:BR B M t d full σ)(hd:DagOk d){lv lo hi}(Q:lv<20)(N:lo<d.length)(a0:hi<d.length)(C:full=true->8192<=d.length)(h1:full=false->lv<lvD d lo)(h2:full=false->lv<lvD d hi):
 qh prog GG 304 [.ptr B 0,.int .i64 lv,.int .i64 lo,.int .i64 hi] σ (qzx B M t d full σ lv lo hi):=by
 refine qFF func304 ?_;obtain⟨H,T⟩:=σ;have a:=h.b;have c:=h.m;have l:=h.t;have s:=h.ne;simp only at a c l;by_cases K:lo=hi
 . subst K;simp;exact⟨d,full,lo,rfl,⟨h,qGd,qGc d,hd,N,id,C⟩,fun X=>⟨by have:=h1 X;omega,by simp⟩⟩
 have o:¬(lo:Int)=hi:=by omega
 have v:=qlk (lv,lo,hi);have Z:=(qBk.1 a).1;have R:=(qBk.1 c).1;by_cases A:(lv,lo,hi)∈d
 . obtain⟨i,f⟩:=qB1 A;obtain⟨j,a1,a2⟩:=qa0 (n:=(lv,lo,hi)) (atE d) 0 (by rw[ql8];exact hd.nodup) _ (qtj f) rfl;have g:∀(u:List Blk) (T:List (Option Nat)),zF (Dof prog) ⟨H++u,T⟩ 312 (.map M) (.agg (qU (lv,lo,hi))) true=some (.tup [.int .i64 i,.bool true]):=by
    intro u T;simp only[zF,qx0,v,if_true];simp[-qU,qa c,a1]
   simp only[qU]at g;simp[o,qa a,g];refine⟨d,full,i,rfl,⟨⟨qa a _,qa c _,l⟩,qGe,qGc d,hd,(qBk.1 f).1,id,C⟩,fun _=>⟨by rw[jU f];exact qBs _,fun b=>?_⟩⟩;refine Y4 hd b (n:=(lv,lo,hi)) ?_ f;apply Classical.byContradiction;intro hc;have:i=0\/i=1:=by omega
   rcases this with rfl|rfl
   . have e:=hd.n0;rw[f]at e;simp at e;omega
   have e:=hd.n1;rw[f]at e;simp at e;omega
 have O:=JI (n:=(lv,lo,hi)) (atE d) 0 (ql7 A);have g:∀(u:List Blk) (T:List (Option Nat)),zF (Dof prog) ⟨H++u,T⟩ 312 (.map M) (.agg (qU (lv,lo,hi))) true=some (.tup [.int .i64 0,.bool false]):=by
  intro u T;simp only[zF,qx0,v,if_true];simp[-qU,qa c,O,qbN]
 simp only[qU]at g;by_cases J:8192<=d.length
 . have w:(8192:Int)<=d.length:=(by omega);simp[o,qa a,g,w,kF a];refine⟨d,true,0,rfl,⟨⟨?_,?_,l⟩,?_,qGc d,hd,by have:=hd.two;omega,fun _=>rfl,fun _=>J⟩,fun e=>by cases e⟩
   . exact qa (by rw[qBo Z]) _
   . exact qa (by rwa[qBn s]) _
   exact(qGf (by simp)).trans qGe
 have w:¬(8192:Int)<=d.length:=by omega
 have E:∀(u:List Blk) (T:List (Option Nat)),zq (Dof prog) ⟨H++u,T⟩ 312 (.map M) (.agg (qU (lv,lo,hi))) (.int .i64 d.length)=some ⟨H.set M (.map ((atE (d++[(lv,lo,hi)])).map ndE) (d++[(lv,lo,hi)]).length)++u,T⟩:=by
  intro u T;simp only[zq,qx0,v,if_true];simp[-qU,qa c,O,kF c,qgZ,ndE]
 have L:∀(H':List Blk),qm (Dof prog) ⟨H',T⟩ 126 (.sl 3 (d.map qU) (.chain t d.length)) (.sl 3 [qU (lv,lo,hi)] .tight)=some (.sl 3 ((d++[(lv,lo,hi)]).map qU) (.chain t (d++[(lv,lo,hi)]).length),⟨H',T.set t (some (d++[(lv,lo,hi)]).length)⟩):=by
  intro H';have:d.length+1<=549755813888:=by omega
  simp[-qU,qm,qR,l,this]
 simp only[qU]at E L;have G:∀y:Blk,(H.set M y)[B]?=some (.cells [.sl 3 (d.map qU) (.chain t d.length),.map M,.bool full]):=fun y=>by
  rw[qBn (Ne.symm s)];exact a
 have a3:(d++[(lv,lo,hi)]).length=d.length+1:=by simp
 have W:zi d (d++[(lv,lo,hi)]):=⟨_,rfl⟩;have r:full=false:=by cases full with|true=>exact absurd (C rfl) J|false=>rfl
 have F:=qo4 hd (n:=(lv,lo,hi)) (by omega) Q N a0 K (h1 r) (h2 r) A;have I:(d++[(lv,lo,hi)])[d.length]?=some (lv,lo,hi):=by simp
 generalize hD:d++[(lv,lo,hi)]=D at *;generalize hY:Blk.map ((atE D).map ndE) D.length=Y at *;have U:=fun u=>qa (G Y) u
 have S:=fun u z=>kF (G Y) u z
 have P:∀(z:Blk) (u:List Blk),((H.set M Y).set B z++u)[B]?=some z:=fun z u=>qa (by rw[qBo (by rwa[qCO])]) u
 have V:∀(x:Blk),(H.set M Y++[x])[H.length]?=some x:=fun x=>by rw[qBt (by simp)];simp
 simp[o,qa a,g,w,E,U,S,L,P,V,show IntKind.i64.wrap ((D.length:Int)-1)=(d.length:Nat) by rw[wr];omega];refine⟨D,full,d.length,rfl,⟨⟨P _ _,?_,(qBo (qBk.1 l).1)⟩,?_,W,F,by omega,id,fun e=>by rw[r]at e;cases e⟩,fun _=>⟨by rw[jU I];exact qBs _,fun b=>Y4 F b (n:=(lv,lo,hi)) hd.two I⟩⟩
 . rw[hY.symm];refine qa ?_ _;rw[qBn s,qBo R]
 exact((qGf (by simp)).trans (qGf (by simp))).trans qGe
def qwH(d:List Nd)(H:List Blk)(T:List (Option Nat))(r:AV)(σ':St):Prop:=r=.sl 3 (d.map qU) (.chain T.length d.length)/\σ'=⟨H,T++[some d.length]⟩
def qpa(d)(h0:d≠[])(a:d.length<=100000)(H T):qh prog GG 302 [.sl 3 (d.map qU) .none] ⟨H,T⟩ (qwH d H T):=by
 obtain⟨x,r,rfl⟩:=qDF h0;refine qFF func302 ?_;simp[-qU,qm,qR,qe,qp,show r.length+1<=549755813888 by simp at a;omega];exact⟨by simp,by simp⟩
def qwI(d:List Nd)(H:List Blk)(r:AV)(σ':St):Prop:=∃B M t,r=.ptr B 0/\BR B M t d false σ'/\KpL [] H σ'.H/\H.length<=B/\H.length<=M
def qgW(d)(h:DagOk d)(H T):qh prog GG 248 [.agg (z6 d)] ⟨H,T⟩ (qwI d H):=by
 refine qFF func248 ?_;have h2:=h.two;have O:=h.most;have h0:d≠[]:=fun e=>by rw[e]at h2;simp at h2
 simp;refine qFJ (qpa d h0 (by omega) _ _) ?_;rintro v σ' ⟨rfl,rfl⟩;simp[qV,zt,qx];refine qFW d (fun s ev σ=>ev 1=.ptr H.length 0/\ev 3=.ptr (H.length+1+1) 0/\ev 13=.sl 3 (d.map qU) .none/\ev 14=.int .i64 d.length/\ev 15=.int .i64 s.length /\
  ∃t,σ=⟨H++(.cells (z6 d)::.map ((atE s).map ndE) s.length::.cells [.sl 3 (d.map qU) (.chain T.length d.length),.map (H.length+1),.bool false]::t),T++[some d.length]⟩) ?_ ?_ ?_
 . exact⟨by simp,by simp,by simp,by simp,by simp,[],by simp[atE]⟩
 . rintro s n rest ev σ R M hd z A ⟨m,c,i,g,j,t,rfl⟩;have B:n∉s:=by
    have:=h.nodup;rw[hd]at this;intro F;exact(qCX.1 this).2.2 n F n (by simp) rfl
   have L:=JI (n:=n) (atE s) 0 (ql7 B);have I:=qlk n;generalize N:Blk.cells [.sl 3 (d.map qU) (.chain T.length d.length),.map (H.length+1),.bool false]=f at *;generalize P:Blk.cells (z6 d)=CD at *;have l:∀(a:Env) (u:List Blk),a 1=.ptr H.length 0->a 3=.ptr (H.length+1+1) 0->a 13=.sl 3 (d.map qU) .none->a 14=.int .i64 d.length->a 15=.int .i64 (s.length+1:Nat)->R a ⟨H++(CD::.map ((atE (s++[n])).map ndE) (s++[n]).length::f::t)++u,T++[some d.length]⟩ :=
    fun a u D J C K G=>M _ _ ⟨D,J,C,K,by simpa using G,t++u,by simp⟩
   obtain⟨W,b⟩:∃W,H++(CD::Blk.map ((atE s).map ndE) s.length::f::t)=W:=⟨_,rfl⟩;obtain⟨w,x⟩:∃W,H++(CD::Blk.map ((atE (s++[n])).map ndE) (s++[n]).length::f::t)=W:=⟨_,rfl⟩;have E:W[H.length+1+1]?=some f:=by
    rw[<- b,qBt (by omega)];simp[show H.length+1+1-H.length=2 by omega]
   have r:W[H.length+1]?=some (.map ((atE s).map ndE) s.length):=by
    rw[<- b,qBt (by omega)];simp
   have y:W.set (H.length+1) (Blk.map ((atE (s++[n])).map ndE) (s++[n]).length)=w:=by
    rw[<- b,<- x,qCd _ _ (by omega)];simp
   have o:∀(u:List Blk) (T:List (Option Nat)),zq (Dof prog) ⟨W++u,T⟩ 312 (.map (H.length+1)) (.agg (qU n)) (.int .i64 s.length)=some ⟨w++u,T⟩:=by
    intro u T;simp only[zq,qx0,I,if_true];simp only[qa r,L,kF r,<- y];simp[-qU,qgZ,ndE]
   simp only[qU]at o;rw[x]at l;rw[b];subst N;simp[-getElem?_pos,c,i,g,j,A,z,qa E,o,show IntKind.i64.wrap ((s.length:Int)+1)=(s.length+1:Nat) by rw[wr];omega];exact l _ _ (by simp[m]) (by simp[c]) (by simp[i]) (by simp[g]) (by simp)
 rintro ev σ ⟨m,c,i,g,j,t,rfl⟩;simp[c,g,j];refine⟨H.length+1+1,H.length+1,T.length,rfl,⟨?_,?_,?_⟩,qGe,by omega,by omega⟩
 . show(H++_)[_]?=_;rw[qBt (by omega)];simp[show H.length+1+1-H.length=2 by omega]
 . show(H++_)[_]?=_;rw[qBt (by omega)];simp
 simp
def qzB(t:Nat)(d:List Nd)(full:Bool)(f:Nat)(σ:St)(r:AV)(σ':St):Prop :=
 (r=if full=true then .tup [.agg [.sl 0 [] .nil],.int .i64 0,.int .i64 2] else .tup [.agg [.sl 3 (d.map qU) (.chain t d.length)],.int .i64 f,.int .i64 0])/\KpL [] σ.H σ'.H/\σ'.T=σ.T
def qlB{B M t d full σ}(h:BR B M t d full σ)(f:Nat):qh prog GG 249 [.ptr B 0,.int .i64 f] σ (qzB t d full f σ):=by
 refine qFF func249 ?_;obtain⟨H,T⟩:=σ;have a:=h.b;simp only at a;cases full
 . simp[qa a,qV,zt,qx];exact⟨rfl,qGe,rfl⟩
 simp[qa a,qV,zt];exact⟨rfl,qGe,rfl⟩
def qwv(p q r):Pure prog GG 188 [.bool p,.bool q,.bool r] (.bool (p&&q)):=by
 refine qFD func188 ?_;cases p<;>cases q<;>simp
def qyH(p q r):Pure prog GG 327 [.bool p,.bool q,.bool r] (.bool (p||q)):=by
 refine qFD func327 ?_;cases p<;>cases q<;>simp
def qvg(p q r):Pure prog GG 329 [.bool p,.bool q,.bool r] (.bool (!p)):=by
 refine qFD func329 ?_;cases p<;>simp[unA]
def que(p q r):Pure prog GG 348 [.bool p,.bool q,.bool r] (.bool (p ^^ q)):=by
 refine qFD func348 ?_;cases p<;>cases q<;>simp[qP]
def qlS(p q r):Pure prog GG 330 [.bool p,.bool q,.bool r] (.bool (p&&q||!p&&r)):=by
 refine qFD func330 ?_;cases p<;>cases q<;>cases r<;>simp[unA]
def qij(H n)(d:List Nd):(d.map qU).map (·.map (frz H n))=d.map qU:=by
 rw[qCN];apply qCy;intro x _;simp[wL]
def qeQ{H B M t n d full}(h:H[B]?=some (.cells [.sl 3 (d.map qU) (.chain t n),.map M,.bool full])):frz H 8 (.ptr B 0)=qt2 d full:=by
 have a:frz H 7 (.sl 3 (d.map qU) (.chain t n))=.sl 3 (d.map qU) .none:=by
  rw[frz];simp only[qE,qij];simp
 rw[qba h];simp only[qCG,qBz,qBS,show frz H 7 (.map M)=.any by simp[frz,qE],a,QV];rfl
def qjs(val:Bool->Bool->Bool->Bool)(d:List Nd)(x:Nd)(b:Nat->Bool):Bool:=val (evD d b x.1) (evD d b x.2.1) (evD d b x.2.2)
def mlv(d:List Nd)(x:Nd):Nat:=min (min (lvD d x.1) (lvD d x.2.1)) (lvD d x.2.2)
structure InD(d:List Nd)(x:Nd):Prop where
 a:x.1<d.length
 b:x.2.1<d.length
 c:x.2.2<d.length
def InD.grown{d d' x}(h:InD d x)(g:zi d d'):InD d' x:=⟨qBD h.a g.len,qBD h.b g.len,qBD h.c g.len⟩
def Vk{val d d' x}(hd:DagOk d)(h:InD d x)(g:zi d d')(b):qjs val d' x b=qjs val d x b:=by
 unfold qjs;rw[g.ev hd b h.a,g.ev hd b h.b,g.ev hd b h.c]
def qcM{d d' x}(h:InD d x)(g:zi d d'):mlv d' x=mlv d x:=by
 unfold mlv;rw[g.lv h.a,g.lv h.b,g.lv h.c]
structure KOk(val d full)(E:List (Nd×AV×Nat)):Prop where
 keys:(E.map (·.1)).Nodup
 ent:∀q∈E,InD d q.1/\∃i:Nat,q.2.1=.int .i64 i/\i<d.length/\(full=false->mlv d q.1<=lvD d i/\∀b,evD d b i=qjs val d q.1 b)
def KOk.grown{val d d' full full' E}(h:KOk val d full E)(hd:DagOk d)(g:zi d d')(m:full=true->full'=true):KOk val d' full' E :=
 ⟨h.keys,fun q j=>by
  obtain⟨h1,i,h2,a,l⟩:=h.ent q j;refine⟨h1.grown g,i,h2,qBD a g.len,fun c=>?_⟩;obtain⟨e,f⟩:=l (by cases full with|true=>rw[m rfl]at c;cases c|false=>rfl);exact⟨by rw[qcM h1 g,g.lv a];exact e,fun b=>by rw[g.ev hd b a,Vk hd h1 g];exact f b⟩⟩
structure AR(O B M t Kb vf:Nat)(d:List Nd)(full:Bool)(E:List (Nd×AV×Nat))(σ:St):Prop where
 br:BR B M t d full σ
 o:σ.H[O]?=some (.cells [.ptr B 0,.fn vf [] [],.map Kb])
 k:∃clk,σ.H[Kb]?=some (.map (E.map ndE) clk)
 oK:O≠Kb
 oB:O≠B
 oM:O≠M
 kB:Kb≠B
 kM:Kb≠M
def qhc(val:Bool->Bool->Bool->Bool)(O B M t Kb vf:Nat)(d:List Nd)(full:Bool)(x:Nd)(σ:St)(r:AV)(σ':St):Prop :=
 ∃ d' full' a i,r=.int .i64 (i:Nat)/\AR O B M t Kb vf d' full' a σ'/\KOk val d' full' a/\KpL [B,M,Kb] σ.H σ'.H/\zi d d'/\DagOk d'/\i<d'.length/\(full=true->full'=true)/\(full'=true->8192<=d'.length) /\
  (full'=false->mlv d x<=lvD d' i/\∀b,evD d' b i=qjs val d x b)
def qdm(n):zI (Dof prog) 221 (.agg (qU n))=true:=by
 simp[zI,Ww,kz,qP,z9,qCL]
def qnM:List (Nat×Sch×List Nat):=[(11,.step 0 [27,26] (.step 1 [27,26,25,24,16,8,4,3,2] (.step 2 [27,26,25,24,16,8,4,3] (.step 3 [27,26,25,24,16,8,4] (.step 4 [27,26,25,24,16,8] (.step 5 [27,26,25,24,16,8,6] (.step 6 [27,26,25,24,16,8] (.step 7 [27,26,25,24,16,8] (.step 8 [27,26,25,24,16] (.step 9 [27,26,25,24,16,12,11,10] (.step 10 [27,26,25,24,16,12,11] (.step 11 [27,26,25,24,16,12] (.step 12 [27,26,25,24,16] (.step 13 [27,26,25,24,16,14] (.step 14 [27,26,25,24,16] (.step 15 [27,26,25,24,16] (.step 16 [27,26,25,24] (.step 17 [27,26,25,24,20,19,18] (.step 18 [27,26,25,24,20,19] (.step 19 [27,26,25,24,20] (.step 20 [27,26,25,24] (.step 21 [27,26,25,24,22] (.step 22 [27,26,25,24] (.step 23 [27,26,25,24] (.step 24 [27,26,25] (.step 25 [27,26] (.step 26 [27] (.step 27 [] (.done)))))))))))))))))))))))))))),[26]),(12,.step 0 [27,26] (.step 1 [27,26,25,24,16,8,4,3,2] (.step 2 [27,26,25,24,16,8,4,3] (.step 3 [27,26,25,24,16,8,4] (.step 4 [27,26,25,24,16,8] (.step 5 [27,26,25,24,16,8,6] (.step 6 [27,26,25,24,16,8] (.step 7 [27,26,25,24,16,8] (.step 8 [27,26,25,24,16] (.step 9 [27,26,25,24,16,12,11,10] (.step 10 [27,26,25,24,16,12,11] (.step 11 [27,26,25,24,16,12] (.step 12 [27,26,25,24,16] (.step 13 [27,26,25,24,16,14] (.step 14 [27,26,25,24,16] (.step 15 [27,26,25,24,16] (.step 16 [27,26,25,24] (.step 17 [27,26,25,24,20,19,18] (.step 18 [27,26,25,24,20,19] (.step 19 [27,26,25,24,20] (.step 20 [27,26,25,24] (.step 21 [27,26,25,24,22] (.step 22 [27,26,25,24] (.step 23 [27,26,25,24] (.step 24 [27,26,25] (.step 25 [27,26] (.step 26 [27] (.step 27 [] (.done)))))))))))))))))))))))))))),[26]),(14,.step 0 [6,3,2,1] (.step 1 [6,3,2] (.step 2 [6,3] (.step 3 [6] (.step 4 [6] (.step 5 [6] (.step 6 [] (.done))))))),[])]
def qgl{d}(h:DagOk d)(x):mlv d x<=20:=by
 have:=qkO h x.1;unfold mlv;omega
def qh6(k v)(E:List (Nd×AV×Nat))(j):(E.map ndE).modify j (fun e=>(.agg (qU k),v,e.2.2))=(E.modify j (fun e=>(k,v,e.2.2))).map ndE:=by
 apply qCg;intro i;rw[qDg,qBO,qBO,qDg]
 cases E[i]? with
 |none=>rfl
 |some q=>by_cases h:j=i<;>simp[h,ndE]
def quv{Kb:Nat}{E:List (Nd×AV×Nat)}{clk:Nat}(k:Nd)(v:AV)(m:(E.map (·.1)).Nodup):
 ∃(l:List (Nd×AV×Nat)) (u:Nat),(∀(H:List Blk) (T:List (Option Nat)),H[Kb]?=some (.map (E.map ndE) clk)->zq (Dof prog) ⟨H,T⟩ 275 (.map Kb) (.agg (qU k)) v=some ⟨H.set Kb (.map (l.map ndE) u),T⟩)/\(l.map (·.1)).Nodup/\∀q∈l,q∈E\/(q.1=k/\q.2.1=v):=by
 have o:=qdm k;by_cases f:k∈E.map (·.1)
 . obtain⟨q,c,d⟩:=qBH.1 f;obtain⟨j,s,t⟩:=qa0 (n:=k) E 0 m q c d;simp only[qDb]at s;refine⟨E.modify j (fun e=>(k,v,e.2.2)),clk,?_,?_,?_⟩
   . intro H T g;simp only[zq,qx1,o,if_true,g,s,qh6]
   . have:(E.modify j (fun e=>(k,v,e.2.2))).map (·.1)=E.map (·.1):=by
      apply qCg;intro i;rw[qBO,qBO,qDg];by_cases h:j=i
      . subst h;rw[t];simp[d]
      simp[h]
     rwa[this]
   intro z y;obtain⟨i,hi⟩:=qB1 y;rw[qDg]at hi
   cases hE:E[i]? with
   |none=>rw[hE]at hi;cases hi
   | some r=>
    rw[hE]at hi;by_cases h:j=i
    . simp[h]at hi;subst hi;exact .inr ⟨rfl,rfl⟩
    simp[h]at hi;subst hi;exact .inl (qBl hE)
 have x:=JI (n:=k) E 0 fun q c d=>f (qBH.2 ⟨q,c,d⟩)
 refine⟨E++[(k,v,clk)],clk+1,?_,?_,?_⟩
 . intro H T g;simp only[zq,qx1,o,if_true,g,x];simp[-qU,ndE]
 . rw[qCl,qCX];refine⟨m,by simp,?_⟩;intro a w b hb;simp at hb;subst hb;rintro rfl;exact f w
 intro q c;rcases qBC.1 c with h|h
 . exact .inl h
 simp at h;subst h;exact .inr ⟨rfl,rfl⟩
def qiO{val:Bool->Bool->Bool->Bool}{O B M t Kb vf:Nat}(hv:∀p q r,Pure prog GG vf [.bool p,.bool q,.bool r] (.bool (val p q r)))(L:Nat)
 (ih:∀(d:List Nd) (full:Bool) (E:List (Nd×AV×Nat)) (x:Nd) (σ:St),AR O B M t Kb vf d full E σ->KOk val d full E->DagOk d->InD d x->(full=true->8192<=d.length)->L<mlv d x->qh prog GG 250 [.ptr O 0,.agg (qU x)] σ (qhc val O B M t Kb vf d full x σ))
 (d:List Nd) (full:Bool) (E:List (Nd×AV×Nat)) (x:Nd) (σ:St) (a:AR O B M t Kb vf d full E σ) (I:KOk val d full E) (hd:DagOk d) (hx:InD d x) (Y:full=true->8192<=d.length) (V:mlv d x=L):
 qh prog GG 250 [.ptr O 0,.agg (qU x)] σ (qhc val O B M t Kb vf d full x σ):=by
 refine qFE ⟨false,qnM,[],[]⟩ func250 ?_;obtain⟨H,T⟩:=σ;have w:=a.br.b;have l:=a.o;obtain⟨clk,G⟩:=a.k;simp only at w l G;have a6:=hx;have d5:=qgl hd x;rw[V]at d5;obtain⟨f,g,e⟩:=x;obtain⟨D,F,A⟩:=hx;simp only at D F A;obtain⟨nf,c5⟩:∃n,d[f]?=some n:=⟨_,qBm D⟩;obtain⟨ng,b1⟩:∃n,d[g]?=some n:=⟨_,qBm F⟩;obtain⟨ne,b6⟩:∃n,d[e]?=some n:=⟨_,qBm A⟩;have z:L<=lvD d f/\L<=lvD d g/\L<=lvD d e:=by rw[<- V];unfold mlv;simp only;omega
 have d6:qkK (.int .i64 nf.1) (.int .i64 ng.1) (.int .i64 ne.1)=some (.int .i64 L):=by
  rw[<- V];simp only[qkK,mlv,jU c5,jU b1,jU b6];congr 2;omega
 cases full
 . simp[qa l,qa w];rw[wd rfl];simp[qa l,qa w,c5,b1,b6,d6];by_cases f3:L=20
   . subst f3;have two:∀j,j<d.length->20<=lvD d j->∀b,evD d b j=((j:Int)==1):=fun j hj hl b=>by
      have h2:=qqb hd hj (by have:=qkO hd j;omega);rw[qeY hd b (by omega)];rcases h2 with rfl|rfl<;>rfl
     simp;rw[wd rfl];simp[qa l];refine qFG (hv _ _ _) ?_ rfl;have U:∀b,qjs val d (f,g,e) b=val ((f:Int)==1) ((g:Int)==1) ((e:Int)==1):=fun b=>by
      unfold qjs;rw[two f D z.1,two g F z.2.1,two e A z.2.2]
     have S:∀u,AR O B M t Kb vf d false E ⟨H++u,T⟩:=fun u=>⟨⟨qa w _,qa a.br.m _,a.br.t⟩,qa l _,⟨clk,qa G _⟩,a.oK,a.oB,a.oM,a.kB,a.kM⟩
     simp;have ht:=hd.two;refine⟨fun hh=>⟨d,false,E,1,rfl,S _,I,qGe,qGc d,hd,by omega,id,Y,fun _=>⟨by rw[qvp hd];exact qgl hd _,fun b=>by rw[qeZ hd,U,hh]⟩⟩,
      fun hh=>⟨d,false,E,0,rfl,S _,I,qGe,qGc d,hd,by omega,id,Y,fun _=>⟨by rw[qvq hd];exact qgl hd _,fun b=>by rw[YG hd,U,hh]⟩⟩⟩
   have e8:¬(L:Int)=20:=(by omega);have S:∀u,AR O B M t Kb vf d false E ⟨H++u,T⟩:=fun u=>⟨⟨qa w _,qa a.br.m _,a.br.t⟩,qa l _,⟨clk,qa G _⟩,a.oK,a.oB,a.oM,a.kB,a.kM⟩
   have c0:=qdm (f,g,e);simp[e8];rw[wd rfl];by_cases c6:(f,g,e)∈E.map (·.1)
   . obtain⟨q,K,a4⟩:=qBH.1 c6;obtain⟨j,g3,f6⟩:=qa0 (n:=(f,g,e)) E 0 I.keys q K a4;obtain⟨_,i,R,Z,c4⟩:=I.ent q K;have P:∀(u:List Blk) (T:List (Option Nat)),zF (Dof prog) ⟨H++u,T⟩ 275 (.map Kb) (.agg (qU (f,g,e))) true=some (.tup [.int .i64 i,.bool true]):=by
      intro u T;simp only[zF,qx1,c0,if_true];simp[*,-qU,qa G]
     simp at P;simp[qa l,P];rw[a4]at c4;exact⟨d,false,E,i,rfl,S _,I,qGe,qGc d,hd,Z,id,Y,c4⟩
   have e6:=JI (n:=(f,g,e)) E 0 fun q K a4=>c6 (qBH.2 ⟨q,K,a4⟩)
   have P:∀(u:List Blk) (T:List (Option Nat)),zF (Dof prog) ⟨H++u,T⟩ 275 (.map Kb) (.agg (qU (f,g,e))) true=some (.tup [.int .i64 0,.bool false]):=by
    intro u T;simp only[zF,qx1,c0,if_true];simp[-qU,qa G,e6,qbN]
   simp at P;simp[qa l,P];rw[qG rfl];simp[qa l,qX];have N:∀(H':List Blk) (d':List Nd) (full' one:Bool) (n:Nat),H'[B]?=some (.cells [.sl 3 (d'.map qU) (.chain t d'.length),.map M,.bool full']) ->
    zl ([.ptr B 0,.int .i64 n,.int .i64 L,.bool one].map (frz H' 8)) [qt2 d' full',.int .i64 n,.int .i64 L,.bool one]:=fun H' d' full' one n hb=>by
    simp only[qBz,qBS,qeQ hb,wL,QV];exact qFO _
   have J:L<20:=(by omega);obtain⟨p1,p2,p3⟩:=wg hd D J z.1 false;obtain⟨q1,q2,q3⟩:=wg hd F J z.2.1 false;obtain⟨r1,r2,r3⟩:=wg hd A J z.2.2 false;refine qFI (JO d false false f L D) rfl (N _ d false false f (qa w _)) ?_;simp[qa l,qX];refine qFI (JO d false false g L F) rfl (N _ d false false g (qa w _)) ?_;simp[qa l,qX];refine qFI (JO d false false e L A) rfl (N _ d false false e (qa w _)) ?_;simp[qX,qV,zt,qx];have b7:=ih d false E (vT d f L false,vT d g L false,vT d e L false) ⟨H++[.cells (qU (f,g,e))],T⟩ (S _) I hd ⟨p1,q1,r1⟩ Y (by unfold mlv;simp only;omega);simp at b7;refine qFJ b7 ?_;rintro v ⟨H1,T1⟩ ⟨y,C,E1,i1,rfl,a8,f5,b8,s,Q,R,f8,d4,b2⟩;have a0:=a8.br.b;have f2:=a8.o;simp only at a0 f2;have g0:=(qBk.1 w).1;have d0:=(qBk.1 a.br.m).1;have f7:=(qBk.1 G).1;simp only at d0;have d7:H1[H.length]?=some (.cells [.int .i64 f,.int .i64 g,.int .i64 e]):=b8.2 _ _ (by simp) (by simp;omega);simp[qX];rw[qG rfl];simp[*,qX];obtain⟨u1,u2,u3⟩:=wg Q (qBD D s.len) J (by rw[s.lv D];exact z.1) true;obtain⟨v1,v2,v3⟩:=wg Q (qBD F s.len) J (by rw[s.lv F];exact z.2.1) true;obtain⟨w1,w2,w3⟩:=wg Q (qBD A s.len) J (by rw[s.lv A];exact z.2.2) true;refine qFI (JO y C true f L (qBD D s.len)) rfl (N _ y C true f a0) ?_;simp[*,qX];refine qFI (JO y C true g L (qBD F s.len)) rfl (N _ y C true g a0) ?_;simp[*,qX];refine qFI (JO y C true e L (qBD A s.len)) rfl (N _ y C true e a0) ?_;simp[qX,qV,zt,qx];have c8:=ih y C E1 (vT y f L true,vT y g L true,vT y e L true) ⟨H1,T1⟩ a8 f5 Q ⟨u1,v1,w1⟩ d4 (by unfold mlv;simp only;omega);simp at c8;refine qFJ c8 ?_;rintro v ⟨H2,T2⟩ ⟨d2,a5,E2,i2,rfl,a3,b9,b0,W,a1,Z,e0,e5,b5⟩;have d8:=a3.br.b;have a7:=a3.o;simp only at d8 a7;have e9:H2[H.length]?=some (.cells [.int .i64 f,.int .i64 g,.int .i64 e]):=b0.2 _ _ d7 (by simp;omega);have c3:a5=false->C=false:=fun h=>by cases C with|true=>rw[e0 rfl]at h;cases h|false=>rfl
   simp[a7,qX];have f1:=qkz (lv:=L) (lo:=i1) (hi:=i2) a3.br a1 J (qBD R W.len) Z e5
    (fun h=>by
      rw[W.lv R];refine qBD ?_ (b2 (c3 h)).1;unfold mlv;simp only;omega)
    (fun h=>by
      refine qBD ?_ (b5 h).1;unfold mlv;simp only;omega)
   refine qFJ f1 ?_;rintro v ⟨H3,T3⟩ ⟨d3,a2,X,rfl,c,e1⟩;obtain⟨c1,a9⟩:=a3.k;simp only at a9;have b4:=c.br.b;simp only at b4;have e4:H3[O]?=some (.cells [.ptr B 0,.fn vf [] [],.map Kb]):=c.kp.2 _ _ a7 (by simp[a.oB,a.oM]);have c7:H3[Kb]?=some (.map (E2.map ndE) c1):=c.kp.2 _ _ a9 (by simp[a.kB,a.kM]);have f9:H3[H.length]?=some (.cells [.int .i64 f,.int .i64 g,.int .i64 e]):=c.kp.2 _ _ e9 (by simp;omega);obtain⟨E3,f0,e2,e7,d9⟩:=quv (Kb:=Kb) (E:=E2) (clk:=c1) (f,g,e) (.int .i64 (X:Nat)) b9.keys;have c9:=e2 H3 T3 c7;simp at c9;have e3:=(qBk.1 c7).1;have c2:a2=false->a5=false:=fun h=>by cases a5 with|true=>rw[c.mono rfl]at h;cases h|false=>rfl
   have gg:=(s.trans W).trans c.gr;have U:a2=false->L<=lvD d3 X/\∀b,evD d3 b X=qjs val d (f,g,e) b:=fun h=>by
    obtain⟨s1,s2⟩:=e1 h;obtain⟨_,t2⟩:=b5 (c2 h);obtain⟨_,t1⟩:=b2 (c3 (c2 h));refine⟨s1,fun b=>?_⟩;rw[s2 b]
    cases hb:b L with
    | false=>
     simp;rw[c.gr.ev a1 b (qBD R W.len),W.ev Q b R,t1 b];unfold qjs;simp only;rw[<- p3 b hb,<- q3 b hb,<- r3 b hb]
    | true=>
     simp;rw[c.gr.ev a1 b Z,t2 b];unfold qjs;simp only;rw[<- u3 b hb,<- v3 b hb,<- w3 b hb,s.ev hd b D,s.ev hd b F,s.ev hd b A]
   have f4:KOk val d3 a2 E3:=⟨e7,fun q K=>by
    rcases d9 q K with h|⟨h1,h2⟩
    . exact(b9.grown a1 c.gr c.mono).ent q h
    refine⟨by rw[h1];exact a6.grown gg,X,h2,c.lt,fun hf=>?_⟩;rw[h1,qcM a6 gg,V];obtain⟨z1,z2⟩:=U hf;exact⟨z1,fun b=>by rw[z2 b,Vk hd a6 gg]⟩⟩
   simp;rw[qG rfl];simp[*,qX];refine⟨d3,a2,E3,X,rfl,⟨⟨?_,?_,c.br.t⟩,?_,⟨f0,?_⟩,a.oK,a.oB,a.oM,a.kB,a.kM⟩,f4,?_,gg,c.ok,c.lt,?_,c.fl,?_⟩
   . exact(qBn a.kB).trans b4
   . exact(qBn a.kM).trans c.br.m
   . exact(qBn (Ne.symm a.oK)).trans e4
   . exact qBo e3
   . refine KpL.trans (KpL.trans (KpL.trans (KpL.trans qGe b8) b0) (c.kp.sub ?_)) (qGf (by simp));intro b hb;simp at hb⊢;rcases hb with h|h
     . exact .inl h
     exact .inr (.inl h)
   . intro h;cases h
   intro h;rw[V];exact U h
 simp[qa l,qa w];refine⟨d,true,E,0,rfl,?_,I,qGe,qGc d,hd,by have:=hd.two;omega,id,Y,fun h=>by cases h⟩;exact⟨⟨qa w _,qa a.br.m _,a.br.t⟩,qa l _,⟨clk,qa G _⟩,a.oK,a.oB,a.oM,a.kB,a.kM⟩
def qmh{val:Bool->Bool->Bool->Bool}{O B M t Kb vf:Nat}(o:∀p q r,Pure prog GG vf [.bool p,.bool q,.bool r] (.bool (val p q r))):
 ∀(n L:Nat),20-L<n->∀(d:List Nd) (full:Bool) (E:List (Nd×AV×Nat)) (x:Nd) (σ:St),AR O B M t Kb vf d full E σ->KOk val d full E->DagOk d->InD d x->(full=true->8192<=d.length)->mlv d x=L ->
 qh prog GG 250 [.ptr O 0,.agg (qU x)] σ (qhc val O B M t Kb vf d full x σ):=by
 intro n
 induction n with
 |zero=>intro L h;omega
 | succ n ih=>
  intro L u d full E x σ f l hd b s c;refine qiO o L ?_ d full E x σ f l hd b s c;intro d' full' i x' σ' g e a j m v;have:=qgl a x';exact ih (mlv d' x') (by omega) d' full' i x' σ' g e a j m rfl
def qpv{val:Bool->Bool->Bool->Bool}{O B M t Kb vf:Nat}(c:∀p q r,Pure prog GG vf [.bool p,.bool q,.bool r] (.bool (val p q r)))
 (d:List Nd) (full:Bool) (E:List (Nd×AV×Nat)) (x:Nd) (σ:St) (e:AR O B M t Kb vf d full E σ) (a:KOk val d full E) (hd:DagOk d) (b:InD d x) (f:full=true->8192<=d.length):
 qh prog GG 250 [.ptr O 0,.agg (qU x)] σ (qhc val O B M t Kb vf d full x σ) :=
 qmh c _ _ (Nat.lt_succ_self _) d full E x σ e a hd b f rfl
def qnV:List (Nat×Sch×List Nat):=[(4,.step 0 [13,12,11,10,9,8,7,3,2,1] (.step 1 [13,12,11,10,9,8,7,3,2] (.step 2 [13,12,11,10,9,8,7,3] (.step 4 [13,12,11,10,9,8,7,6] (.step 5 [13,12,11,10,9,8,7,6] (.fork (.cons 3 (.step 6 [13,12,11,10,9,8,7] (.step 7 [13,12,11,10,9,8] (.step 8 [13,12,11] (.step 9 [13,12,11] (.step 10 [13,12,11] (.step 11 [13,12] (.step 12 [13] (.step 13 [] (.done))))))))) (.cons 6 (.step 3 [13,12,11,10,9,8,7] (.step 7 [13,12,11,10,9,8] (.step 8 [13,12,11] (.step 9 [13,12,11] (.step 10 [13,12,11] (.step 11 [13,12] (.step 12 [13] (.step 13 [] (.done))))))))) (.nil)))))))),[6,7])]
def qud(val:Bool->Bool->Bool->Bool)(d:List Nd)(x:Nd)(H:List Blk)(r:AV)(σ':St):Prop :=
 KpL [] H σ'.H/\(r=.tup [.agg [.sl 0 [] .nil],.int .i64 0,.int .i64 2] \/
  ∃d' i t,r=.tup [.agg [.sl 3 (d'.map qU) (.chain t d'.length)],.int .i64 (i:Nat),.int .i64 0]/\zi d d'/\DagOk d'/\i<d'.length/\mlv d x<=lvD d' i/\∀b,evD d' b i=qjs val d x b)
def Qy{val:Bool->Bool->Bool->Bool}{vf:Nat}(hv:∀p q r,Pure prog GG vf [.bool p,.bool q,.bool r] (.bool (val p q r)))
 (d:List Nd) (hd:DagOk d) (x:Nd) (z:InD d x) (H:List Blk) (T:List (Option Nat)):
 qh prog GG 187 [.agg (z6 d),.agg (qU x),.fn vf [] []] ⟨H,T⟩ (qud val d x H):=by
 refine qFE ⟨false,qnV,[],[]⟩ func187 ?_;obtain⟨f,g,e⟩:=x;have a3:=z;obtain⟨X,V,L⟩:=z;simp only at X V L;simp[qe,qp];refine qc.less (qqk d hd [f,g,e] (by simp) (by simp;omega) .none) (by simp) (by simp only[zl];exact⟨qFN _,Leq.sl (by simp),trivial⟩) ?_;simp[unA];refine qFJ (qgW d hd _ _) ?_;rintro v ⟨a,O⟩ ⟨B,M,t,rfl,hb,u,Y,a1⟩;have R:a[H.length+1]?=some (.cells [.int .i64 f,.int .i64 g,.int .i64 e]):=u.2 _ _ (by rw[qBt (by omega)];simp) (by simp);have E:=qGe.trans u;simp[qV,zt,qx];rw[qG rfl];have i:=hb.b;have j:=hb.m;simp only at i j;have a7:=(qBk.1 i).1;have a5:=(qBk.1 j).1;have J:AR (a.length+1) B M t a.length vf d false [] ⟨a++[.map [] 0,.cells [.ptr B 0,.fn vf [] [],.map a.length]],O⟩ :=
  ⟨⟨qa i _,qa j _,hb.t⟩,by show(a++_)[_]?=_;rw[qBt (by omega)];simp,⟨0,by show(a++_)[_]?=_;rw[qBt (by omega)];simp⟩,by omega,by omega,by omega,by omega,by omega⟩
 have h:=qpv hv d false [] (f,g,e) _ J ⟨by simp,by simp⟩ hd a3 (by simp);simp only[qU]at h;simp[qa R,qX,J.o];have a0:a[H.length+2]?=some (.cells [.sl 0 [] .nil]):=u.2 _ _ (by rw[qBt (by omega)];simp[show H.length+2-H.length=2 by omega]) (by simp);simp only[qBp,qBB,qCc]at Y a1;refine⟨qFJ h ?_,qFJ h ?_⟩
 all_goals
  rintro v ⟨F,T2⟩ ⟨d2,N,E2,K,rfl,s,a9,c,U,Z,P,a4,a6,a2⟩;have G:=s.o;have S:=s.br.b;simp only at G S;have W:F[H.length+2]?=some (.cells [.sl 0 [] .nil]):=c.2 _ _ (qa a0 _) (by simp;omega);have Q:KpL [] H F:=⟨by have:=E.1;have:=c.1;simp at this;omega,fun k x C _=>by
   have a8:=(qBk.1 C).1;exact c.2 _ _ (qa (E.2 k x C (by simp)) _) (by simp;omega)⟩
  simp[G,qX];refine qFJ (qlB s.br K) ?_;rintro v ⟨I,T3⟩ ⟨rfl,D,rfl⟩;have l:I[H.length+2]?=some (.cells [.sl 0 [] .nil]):=D.2 _ _ W (by simp);have A:=(qBk.1 l).1;have w:∀y,KpL [] H (I.set (H.length+2) y):=fun y=>(Q.trans D).setF (by omega)
  cases N
  . simp[-getElem?_pos,l,A,qX];exact⟨w _,.inr ⟨d2,K,t,rfl,U,Z,P,a2 rfl⟩⟩
  simp[-getElem?_pos,l,A,qX];exact⟨w _,.inl rfl⟩
def qqF(d)(hd:DagOk d)(f g)(m:f<d.length)(e:g<d.length)(H T):
 qh prog GG 136 [.agg (z6 d),.int .i64 f,.int .i64 g] ⟨H,T⟩ (qud (fun p q r=>p&&q) d (f,g,g) H):=by
 refine qFF func136 ?_;simp[qV,zt,qx];have hex:=fun H T=>Qy (val:=fun p q r=>p&&q) qwv d hd (f,g,g) ⟨m,e,e⟩ H T
 simp only[qU,z6]at hex;refine qFJ (hex _ _) ?_;rintro v ⟨h,z⟩ ⟨c,j⟩;have a:h[H.length+1]?=some (.cells [.sl 0 [] .nil]):=c.2 _ _ (by rw[qBt (by omega)];simp) (by simp);have b:=(qBk.1 a).1;have i:∀y,KpL [] H (h.set (H.length+1) y):=fun y=>(qGe.trans c).setF (by omega)
 rcases j with rfl|⟨l,u,t,rfl,w,x,o,s⟩
 . simp[-getElem?_pos,a,b,qx];exact⟨i _,.inl rfl⟩
 simp[-getElem?_pos,a,b,qx];exact⟨i _,.inr ⟨l,u,t,rfl,w,x,o,s⟩⟩
def qyI(d)(hd:DagOk d)(f g)(m:f<d.length)(e:g<d.length)(H T):
 qh prog GG 290 [.agg (z6 d),.int .i64 f,.int .i64 g] ⟨H,T⟩ (qud (fun p q r=>p||q) d (f,g,g) H):=by
 refine qFF func290 ?_;simp[qV,zt,qx];have hex:=fun H T=>Qy (val:=fun p q r=>p||q) qyH d hd (f,g,g) ⟨m,e,e⟩ H T
 simp only[qU,z6]at hex;refine qFJ (hex _ _) ?_;rintro v ⟨h,z⟩ ⟨c,j⟩;have a:h[H.length+1]?=some (.cells [.sl 0 [] .nil]):=c.2 _ _ (by rw[qBt (by omega)];simp) (by simp);have b:=(qBk.1 a).1;have i:∀y,KpL [] H (h.set (H.length+1) y):=fun y=>(qGe.trans c).setF (by omega)
 rcases j with rfl|⟨l,u,t,rfl,w,x,o,s⟩
 . simp[-getElem?_pos,a,b,qx];exact⟨i _,.inl rfl⟩
 simp[-getElem?_pos,a,b,qx];exact⟨i _,.inr ⟨l,u,t,rfl,w,x,o,s⟩⟩
def quf(d)(hd:DagOk d)(f g)(m:f<d.length)(e:g<d.length)(H T):
 qh prog GG 331 [.agg (z6 d),.int .i64 f,.int .i64 g] ⟨H,T⟩ (qud (fun p q r=>p ^^ q) d (f,g,g) H):=by
 refine qFF func331 ?_;simp[qV,zt,qx];have hex:=fun H T=>Qy (val:=fun p q r=>p ^^ q) que d hd (f,g,g) ⟨m,e,e⟩ H T
 simp only[qU,z6]at hex;refine qFJ (hex _ _) ?_;rintro v ⟨h,z⟩ ⟨c,j⟩;have a:h[H.length+1]?=some (.cells [.sl 0 [] .nil]):=c.2 _ _ (by rw[qBt (by omega)];simp) (by simp);have b:=(qBk.1 a).1;have i:∀y,KpL [] H (h.set (H.length+1) y):=fun y=>(qGe.trans c).setF (by omega)
 rcases j with rfl|⟨l,u,t,rfl,w,x,o,s⟩
 . simp[-getElem?_pos,a,b,qx];exact⟨i _,.inl rfl⟩
 simp[-getElem?_pos,a,b,qx];exact⟨i _,.inr ⟨l,u,t,rfl,w,x,o,s⟩⟩
def qlT(d)(hd:DagOk d)(f g e)(x:f<d.length)(w:g<d.length)(j:e<d.length)(H T):
 qh prog GG 296 [.agg (z6 d),.int .i64 f,.int .i64 g,.int .i64 e] ⟨H,T⟩ (qud (fun p q r=>p&&q||!p&&r) d (f,g,e) H):=by
 refine qFF func296 ?_;simp[qV,zt,qx];have hex:=fun H T=>Qy (val:=fun p q r=>p&&q||!p&&r) qlS d hd (f,g,e) ⟨x,w,j⟩ H T
 simp only[qU,z6]at hex;refine qFJ (hex _ _) ?_;rintro v ⟨c,B⟩ ⟨i,l⟩;have a:c[H.length+1]?=some (.cells [.sl 0 [] .nil]):=i.2 _ _ (by rw[qBt (by omega)];simp) (by simp);have b:=(qBk.1 a).1;have h:∀y,KpL [] H (c.set (H.length+1) y):=fun y=>(qGe.trans i).setF (by omega)
 rcases l with rfl|⟨m,z,t,rfl,u,A,o,s⟩
 . simp[-getElem?_pos,a,b,qx];exact⟨h _,.inl rfl⟩
 simp[-getElem?_pos,a,b,qx];exact⟨h _,.inr ⟨m,z,t,rfl,u,A,o,s⟩⟩
def qvh(d)(hd:DagOk d)(f)(a:f<d.length)(H T):
 qh prog GG 292 [.agg (z6 d),.int .i64 f] ⟨H,T⟩ (qud (fun p q r=>!p) d (f,f,f) H):=by
 refine qFF func292 ?_;simp[qV,zt,qx];have hex:=fun H T=>Qy (val:=fun p q r=>!p) qvg d hd (f,f,f) ⟨a,a,a⟩ H T
 simp only[qU,z6]at hex;refine qFJ (hex _ _) ?_;rintro v ⟨g,w⟩ ⟨e,i⟩;have b:g[H.length+1]?=some (.cells [.sl 0 [] .nil]):=e.2 _ _ (by rw[qBt (by omega)];simp) (by simp);have c:=(qBk.1 b).1;have h:∀y,KpL [] H (g.set (H.length+1) y):=fun y=>(qGe.trans e).setF (by omega)
 rcases i with rfl|⟨j,o,t,rfl,s,u,l,m⟩
 . simp[-getElem?_pos,b,c,qx];exact⟨h _,.inl rfl⟩
 simp[-getElem?_pos,b,c,qx];exact⟨h _,.inr ⟨j,o,t,rfl,s,u,l,m⟩⟩
def qwC(d:List Nd)(lv lo hi:Nat)(H:List Blk)(r:AV)(σ':St):Prop :=
 KpL [] H σ'.H/\(r=.tup [.agg [.sl 0 [] .nil],.int .i64 0,.int .i64 2] \/
  ∃d' i t,r=.tup [.agg [.sl 3 (d'.map qU) (.chain t d'.length)],.int .i64 (i:Nat),.int .i64 0]/\zi d d'/\DagOk d'/\i<d'.length/\lv<=lvD d' i/\∀b,evD d' b i=evD d b (if b lv then hi else lo))
def qss(d)(hd:DagOk d)(lv lo hi)(K:lv<20)(w:lo<d.length)(D:hi<d.length)(h1:lv<lvD d lo)(h2:lv<lvD d hi)(H T):
 qh prog GG 328 [.agg (z6 d),.int .i64 lv,.int .i64 lo,.int .i64 hi] ⟨H,T⟩ (qwC d lv lo hi H):=by
 refine qFF func328 ?_;obtain⟨a,E⟩:∃n,d[lo]?=some n:=⟨_,qBm w⟩;obtain⟨c,i⟩:∃n,d[hi]?=some n:=⟨_,qBm D⟩;have j:¬(min (a.1:Int) (c.1:Int)<=(lv:Int)):=by rw[jU E]at h1;rw[jU i]at h2;omega
 simp[qe,qp];refine qc.less (qqk d hd [lo,hi] (by simp) (by simp;omega) .none) (by simp) (by simp only[zl];exact⟨qFN _,Leq.sl (by simp),trivial⟩) ?_;simp[unA];refine qFG (qie (lv:Int)) ?_ rfl;have r:vR (.int .i64 (a.1:Int)) (.int .i64 (c.1:Int))=some (.int .i64 (min (a.1:Int) (c.1:Int))):=by
  have:(if(c.1:Int)<(a.1:Int) then(c.1:Int) else(a.1:Int))=min (a.1:Int) (c.1:Int):=by split<;>omega
  simp only[vR,this]
 generalize W:min (a.1:Int) (c.1:Int)=S at r j;simp[unA,show(lv:Int)<20 by omega,E,i,r,j];refine qFJ (qgW d hd _ _) ?_;rintro v ⟨h,Q⟩ ⟨B,M,t,rfl,hb,F,P,L⟩;simp;simp only[qBp,qBB,qCc]at P L;have J:h[H.length+1]?=some (.cells [.sl 0 [] .nil]):=F.2 _ _ (by rw[qBt (by omega)];simp) (by simp);have C:KpL [] H h:=qGe.trans F;refine qFJ (qkz hb hd K w D (by simp) (fun _=>h1) (fun _=>h2)) ?_;rintro v ⟨l,V⟩ ⟨I,G,A,rfl,e,m⟩;have O:l[H.length+1]?=some (.cells [.sl 0 [] .nil]):=e.kp.2 _ _ J (by simp;omega);have N:KpL [] H l:=⟨by have:=C.1;have:=e.kp.1;simp at this;omega,fun k x u _=>by
  have U:=(qBk.1 u).1;exact e.kp.2 _ _ (C.2 k x u (by simp)) (by simp;omega)⟩
 simp;refine qFJ (qlB e.br A) ?_;rintro v ⟨s,R⟩ ⟨rfl,z,rfl⟩;have f:s[H.length+1]?=some (.cells [.sl 0 [] .nil]):=z.2 _ _ O (by simp);have o:=(qBk.1 f).1;have g:∀y,KpL [] H (s.set (H.length+1) y):=fun y=>(N.trans z).setF (by omega)
 cases G
 . simp[-getElem?_pos,f,o,qx];exact⟨g _,.inr ⟨I,A,t,rfl,e.gr,e.ok,e.lt,(m rfl).1,fun b=>by rw[(m rfl).2 b];exact e.gr.ev hd b (by split<;>assumption)⟩⟩
 simp[-getElem?_pos,f,o,qx];exact⟨g _,.inl rfl⟩
def qwh(d)(hd:DagOk d)(lv:Nat)(i:lv<20)(H T):
 qh prog GG 291 [.agg (z6 d),.int .i64 lv] ⟨H,T⟩ (qwC d lv 0 1 H):=by
 refine qFF func291 ?_;simp[qx];have u:=hd.two;have hex:=fun H T=>qss d hd lv 0 1 i (by omega) (by omega) (by rwa[qvq hd]) (by rwa[qvp hd]) H T
 simp only[z6,Int.ofNat_zero,Int.ofNat_one,Int.natCast_one]at hex;refine qFJ (hex _ _) ?_;rintro v ⟨e,s⟩ ⟨c,g⟩;have a:e[H.length+1]?=some (.cells [.sl 0 [] .nil]):=c.2 _ _ (by rw[qBt (by omega)];simp) (by simp);have b:=(qBk.1 a).1;have f:∀y,KpL [] H (e.set (H.length+1) y):=fun y=>(qGe.trans c).setF (by omega)
 rcases g with rfl|⟨h,m,t,rfl,o,r,j,l⟩
 . simp[-getElem?_pos,a,b,qx];exact⟨f _,.inl rfl⟩
 simp[-getElem?_pos,a,b,qx];exact⟨f _,.inr ⟨h,m,t,rfl,o,r,j,l⟩⟩
def yu{P G o env σ ks Q}(n)(J:Nat->Env->St->Prop){c}(h0:J 0 env σ)
 (e:∀i env σ (R:Env->St->Prop),(∀env σ,J (i+1) env σ->R env σ)->i<n->J i env σ->kC P G o c env σ (.loop R::ks) Q)
 (a:∀env σ,J n env σ->kC P G o c env σ (.loop (fun _ _=>False)::ks) Q) (d:yq c=true:=by rfl):qF P G o c env σ ks Q :=
 qF.count n J h0 (fun i env σ h1 b=>e i env σ _ (fun _ _ h=>h) h1 b) a d
structure Bc where
 B:Nat
 M:Nat
 rest:List AV
 mp:Blk
 H0:List Blk
abbrev XG(c:Bc):Glo:=⟨GG,fun cs τ=>cs=[{v:=.iface 261 (.agg #[.int .i64 2]),recovered:=false}]/\KpL [c.B] c.H0 τ.H⟩
structure BX(c:Bc)(E:List Blk)(d:List Nd)(H:List Blk):Prop where
 b:∃tok,H[c.B]?=some (.cells (.sl 3 (d.map qU) tok::c.rest))
 m:H[c.M]?=some c.mp
 ok:DagOk d
 kp0:KpL [c.B] c.H0 H
 kp:KpL [c.B] E H
 ne:c.M≠c.B
 b0:c.B<E.length
 m0:c.M<E.length
 h0:c.H0.length<=E.length
section
variable {c:Bc}{E H H':List Blk}{d d':List Nd}{σ σ':St}{T T':List (Option Nat)}
def BX.app(h:BX c E d H)(u):BX c E d (H++u):=by
 obtain⟨tok,hb⟩:=h.b;exact⟨⟨tok,qa hb _⟩,qa h.m _,h.ok,h.kp0.trans qGe,h.kp.trans qGe,h.ne,h.b0,h.m0,h.h0⟩
def BX.set(h:BX c E d H){k}(a:E.length<=k)(y):BX c E d (H.set k y):=by
 obtain⟨tok,hb⟩:=h.b;have:=h.b0;have:=h.m0;have:=h.h0;exact⟨⟨tok,by rw[qBn (by omega)];exact hb⟩,by rw[qBn (by omega)];exact h.m,h.ok,h.kp0.setF (by omega),h.kp.setF a,h.ne,h.b0,h.m0,h.h0⟩
def BX.self(h:BX c E d H):BX c H d H:=⟨h.b,h.m,h.ok,h.kp0,qGd,h.ne,qBD h.b0 h.kp.1,qBD h.m0 h.kp.1,qCq h.h0 h.kp.1⟩
def BX.same(h:BX c E d H)(a:KpL [] H H'):BX c E d H':=by
 obtain⟨tok,hb⟩:=h.b;exact⟨⟨tok,a.2 _ _ hb (by simp)⟩,a.2 _ _ h.m (by simp),h.ok,h.kp0.trans (a.sub (by simp)),h.kp.trans (a.sub (by simp)),h.ne,h.b0,h.m0,h.h0⟩
def BX.call(h:BX c E d H)(h':BX c H d' H'):BX c E d' H':=⟨h'.b,h'.m,h'.ok,h'.kp0,h.kp.trans h'.kp,h.ne,h.b0,h.m0,h.h0⟩
def BX.at(h:BX c E d H){k}(a:E.length<=k):k≠c.B/\k≠c.M:=by have:=h.b0;have:=h.m0;omega
def BX.loc(h:BX c H d H'){k x}(b:H[k]?=some x)(a:k≠c.B):H'[k]?=some x:=h.kp.2 _ _ b (by simpa using a)
end
def w6(c){H T Q}(u:KpL [c.B] c.H0 H)(b n):
 qh prog (XG c) 289 [.ptr b 0,.agg [.sl 0 [] .nil],.int .i64 n,.int .i64 2] ⟨H,T⟩ Q:=by
 refine⟨by kernel_rfl,fun w0 ro0 K w vs f g=>?_⟩;simp only[qj,qi]at g;obtain⟨v1,D,j,⟨B,y,rfl⟩,A,C,rfl,⟨cs,rfl,d,F,l,h,rfl⟩,E,z,rfl,rfl,v,x,rfl,rfl,rfl⟩:=g;have s:qi K (.sl 0 [] .nil) d:=by simp only[qi];exact h
 clear h;have r:vs = #[.pointer (some ⟨B,0,none⟩),.agg cs,.int .i64 n,.int .i64 2]:=by apply Array.ext';simpa using j
 have m:cs = #[d]:=by apply Array.ext';simpa using l
 subst r m
 go_enter func289,Tryz.ntmps289
 go_wp2
 simp only[bodyPost];have t:=f.push (b:=.cells [.sl 0 [] .nil]) (o:=.cells #[d] 128) ⟨#[d],128,rfl,by simp,by simp,fun i a e=>by
  cases i with
  |zero=>simp at e;subst e;exact⟨_,rfl,s.mono (qFT f w.heap.size (yc (.cells #[d] 128)))⟩
  |succ i=>simp at e⟩
 refine⟨trivial,.inr ⟨_,rfl,_,_,qFT f w.heap.size (yc (.cells #[d] 128)),t,rfl,?_⟩⟩;exact u.trans qGe
def JM(c:Bc){E H:List Blk}{T:List (Option Nat)}{d d':List Nd}(h:BX c E d H)(hd:DagOk d')(i:Nat)(tok:Tok):
 qh prog (XG c) 289 [.ptr c.B 0,.agg [.sl 3 (d'.map qU) tok],.int .i64 i,.int .i64 0] ⟨H,T⟩ (fun r σ'=>r=.int .i64 i/\BX c E d' σ'.H):=by
 refine qFF func289 ?_;obtain⟨e,hb⟩:=h.b;have a:=(qBk.1 hb).1;simp[qa hb,kF hb];have:=h.b0;have:=h.h0;have:=h.ne;exact⟨⟨tok,qa (qBo a) _⟩,qa (by rw[qBn (Ne.symm h.ne)];exact h.m) _,hd,(h.kp0.trans (qGf (by simp))).trans qGe,(h.kp.trans (qGf (by simp))).trans qGe,h.ne,h.b0,h.m0,h.h0⟩
def NQ(c:Bc)(d:List Nd)(H:List Blk)(v:(Nat->Bool)->Bool)(r:AV)(σ':St):Prop :=
 ∃d' i,r=.int .i64 (i:Nat)/\BX c H d' σ'.H/\zi d d'/\i<d'.length/\∀b,evD d' b i=v b
def Zo(c){d H T}(h:BX c H d H){f}(j:f<d.length):
 qh prog (XG c) 238 [.ptr c.B 0,.int .i64 f] ⟨H,T⟩ (NQ c d H fun b=>!evD d b f):=by
 refine qFF func238 ?_;obtain⟨r,hb⟩:=h.b;simp[hb];refine qFJ ((qvh d h.ok f j _ _).leq (args:=[.agg [.sl 3 (d.map qU) r],.int .i64 f]) (by simp[zl,Leq,qFP])).glo ?_;rintro v ⟨w,z⟩ ⟨a,rfl|⟨g,e,y,rfl,o,s,l,u,m⟩⟩
 . simp;exact qFJ (w6 c (Q:=fun _ _=>False) (h.same a).kp0 _ _) fun _ _ h=>h.elim
 simp;refine qFJ (JM c (h.same a) s e _) ?_;rintro v ⟨t,x⟩ ⟨rfl,i⟩;simp;exact⟨g,e,rfl,i,o,l,fun b=>by rw[m b];rfl⟩
def Zq(c){d H T}(h:BX c H d H){f g}(m:f<d.length)(j:g<d.length):
 qh prog (XG c) 295 [.ptr c.B 0,.int .i64 f,.int .i64 g] ⟨H,T⟩ (NQ c d H fun b=>evD d b f&&evD d b g):=by
 refine qFF func295 ?_;obtain⟨t,hb⟩:=h.b;simp[hb];refine qFJ ((qqF d h.ok f g m j _ _).leq (args:=[.agg [.sl 3 (d.map qU) t],.int .i64 f,.int .i64 g]) (by simp[zl,Leq,qFP])).glo ?_;rintro v ⟨y,C⟩ ⟨a,rfl|⟨i,e,A,rfl,s,u,o,x,r⟩⟩
 . simp;exact qFJ (w6 c (Q:=fun _ _=>False) (h.same a).kp0 _ _) fun _ _ h=>h.elim
 simp;refine qFJ (JM c (h.same a) u e _) ?_;rintro v ⟨w,z⟩ ⟨rfl,l⟩;simp;exact⟨i,e,rfl,l,s,o,fun b=>by rw[r b];rfl⟩
def qcE(c){d H T}(h:BX c H d H){f g}(m:f<d.length)(j:g<d.length):
 qh prog (XG c) 234 [.ptr c.B 0,.int .i64 f,.int .i64 g] ⟨H,T⟩ (NQ c d H fun b=>evD d b f||evD d b g):=by
 refine qFF func234 ?_;obtain⟨t,hb⟩:=h.b;simp[hb];refine qFJ ((qyI d h.ok f g m j _ _).leq (args:=[.agg [.sl 3 (d.map qU) t],.int .i64 f,.int .i64 g]) (by simp[zl,Leq,qFP])).glo ?_;rintro v ⟨y,C⟩ ⟨a,rfl|⟨i,e,A,rfl,s,u,o,x,r⟩⟩
 . simp;exact qFJ (w6 c (Q:=fun _ _=>False) (h.same a).kp0 _ _) fun _ _ h=>h.elim
 simp;refine qFJ (JM c (h.same a) u e _) ?_;rintro v ⟨w,z⟩ ⟨rfl,l⟩;simp;exact⟨i,e,rfl,l,s,o,fun b=>by rw[r b];rfl⟩
def qbO(c){d H T}(h:BX c H d H){f g}(m:f<d.length)(j:g<d.length):
 qh prog (XG c) 298 [.ptr c.B 0,.int .i64 f,.int .i64 g] ⟨H,T⟩ (NQ c d H fun b=>evD d b f ^^ evD d b g):=by
 refine qFF func298 ?_;obtain⟨t,hb⟩:=h.b;simp[hb];refine qFJ ((quf d h.ok f g m j _ _).leq (args:=[.agg [.sl 3 (d.map qU) t],.int .i64 f,.int .i64 g]) (by simp[zl,Leq,qFP])).glo ?_;rintro v ⟨y,C⟩ ⟨a,rfl|⟨i,e,A,rfl,s,u,o,x,r⟩⟩
 . simp;exact qFJ (w6 c (Q:=fun _ _=>False) (h.same a).kp0 _ _) fun _ _ h=>h.elim
 simp;refine qFJ (JM c (h.same a) u e _) ?_;rintro v ⟨w,z⟩ ⟨rfl,l⟩;simp;exact⟨i,e,rfl,l,s,o,fun b=>by rw[r b];rfl⟩
def qlU(c){d H T}(h:BX c H d H){f g e}(r:f<d.length)(m:g<d.length)(j:e<d.length):
 qh prog (XG c) 245 [.ptr c.B 0,.int .i64 f,.int .i64 g,.int .i64 e] ⟨H,T⟩ (NQ c d H fun b=>evD d b f&&evD d b g||!evD d b f&&evD d b e):=by
 refine qFF func245 ?_;obtain⟨w,hb⟩:=h.b;simp[hb];refine qFJ ((qlT d h.ok f g e r m j _ _).leq (args:=[.agg [.sl 3 (d.map qU) w],.int .i64 f,.int .i64 g,.int .i64 e]) (by simp[zl,Leq,qFP])).glo ?_;rintro v ⟨A,E⟩ ⟨a,rfl|⟨l,i,D,rfl,u,x,s,z,t⟩⟩
 . simp;exact qFJ (w6 c (Q:=fun _ _=>False) (h.same a).kp0 _ _) fun _ _ h=>h.elim
 simp;refine qFJ (JM c (h.same a) x i _) ?_;rintro v ⟨y,C⟩ ⟨rfl,o⟩;simp;exact⟨l,i,rfl,o,u,s,fun b=>by rw[t b];rfl⟩
section
variable {k:IntKind}{a b:Int}
def qf9:zV .add k a b=some (.int k (k.wrap (a+b))):=rfl
def qkr:zV .sub k a b=some (.int k (k.wrap (a-b))):=rfl
def qva:zV .mul k a b=some (.int k (k.wrap (a*b))):=rfl
def qf7:zV .lss k a b=some (.bool (decide (a<b))):=rfl
def qp5:zV .gtr k a b=some (.bool (decide (a > b))):=rfl
def qf8:zV .eql k a b=some (.bool (a==b)):=rfl
def qks:zV .neq k a b=some (.bool (a != b)):=rfl
end
def qD(w:List Nat):List AV:=w.map fun(n:Nat)=>.int .i64 (n:Int)
@[simp]def jJ(w):(qD w).length=w.length:=by simp[qD]
@[simp]def qwb(w):(qD w).all AV.atom=true:=by simp[qD]
@[simp]def qs3:∀(w),qr (qD w)=true
 |[]=>rfl
 |a::r=>by simp only[qD,qBz,qr,qE,qCC];exact qs3 r
@[simp]def qwa(H w):(qD w).map (kw H)=qD w:=by simp[qD]
def kJ(w)(i n:Nat):(qD w).set i (.int .i64 (n:Int))=qD (w.set i n):=by simp[qD,qFt]
def z5{w:List Nat}{i x:Nat}(h:w[i]?=some x):(qD w).drop i=.int .i64 (x:Int)::(qD w).drop (i+1):=by
 have a:i<(qD w).length:=by rw[jJ];exact(qBk.1 h).1
 rw[qBE a];congr 1;obtain⟨_,h2⟩:=qBk.1 h;simp[qD,h2]
def qs{w}(h:w.length=16):(qD w).take 16=qD w:=qBr (by simp[h])
def qrT:∀(new Z),Z.length=new.length->zC Z 0 new=new:=fun new Z h=>by
 have:=vm new Z [] h;simpa using this
def zy{w}(h:w.length=16){Z}(a:Z.length=16):zC Z 0 (qD w)=qD w:=qrT _ _ (by simp[*])
section
variable {α:Type}{H t:List α}{p q r s u v:α}
def lk0:(H++p::t)[H.length]?=some p:=by rw[qBt (qBs _),qCh];rfl
def lk1:(H++p::q::t)[H.length+1]?=some q:=by rw[qBt (by omega),qCt];rfl
def lk2:(H++p::q::r::t)[H.length+2]?=some r:=by rw[qBt (by omega),qCt];rfl
def lk3:(H++p::q::r::s::t)[H.length+3]?=some s:=by rw[qBt (by omega),qCt];rfl
def lk4:(H++p::q::r::s::u::t)[H.length+4]?=some u:=by rw[qBt (by omega),qCt];rfl
end
def zp:List Nat:=List.replicate 16 0
def za:zp.length=16:=rfl
def wy{d}(h:DagOk d):zh d zp:=⟨rfl,fun i hi=>by rw[zp,qDc]at hi;rw[hi.2];have:=h.two;omega⟩
def jK:[AV.int .i64 0,.int .i64 0,.int .i64 0,.int .i64 0,.int .i64 0,.int .i64 0,.int .i64 0,.int .i64 0,.int .i64 0,.int .i64 0,.int .i64 0,.int .i64 0,.int .i64 0,.int .i64 0,.int .i64 0,.int .i64 0]=qD zp:=rfl
def kK{d}(h:DagOk d)(b k):qv d b zp k=false:=by
 unfold qv;have:zp.getD k 0=0:=by
  simp only[zp,qBw,qE2];split<;>rfl
 rw[this,YG h]
def WQ(c:Bc)(d:List Nd)(H:List Blk)(v:(Nat->Bool)->Int)(r:AV)(σ':St):Prop :=
 ∃d' W,r=.agg (qD W)/\BX c H d' σ'.H/\zi d d'/\zh d' W/\∀b,z7 d' b W=v b
def BQ(c:Bc)(d:List Nd)(H:List Blk)(v:(Nat->Bool)->Nat->Bool)(r:AV)(σ':St):Prop :=
 ∃d' W,r=.agg (qD W)/\BX c H d' σ'.H/\zi d d'/\zh d' W/\∀b k,k<16->qv d' b W k=v b k
def zh.get{d w}(h:zh d w){k}(c:k<16):∃x,w[k]?=some x/\x<d.length/\w.getD k 0=x/\∀b,qv d b w k=evD d b x:=by
 have a:k<w.length:=by rwa[h.1]
 refine⟨w[k],qBm a,h.2 _ (qDL a),by simp[List.getD,a],fun b=>by simp[qv,List.getD,a]⟩
def zh.set{d w}(h:zh d w){k x}(a:x<d.length):zh d (w.set k x):=⟨by simp[h.1],fun i hi=>by
 rcases qDm hi with hi|rfl
 . exact h.2 i hi
 exact a⟩
def vh{d w k x j b}(a:k<w.length):qv d b (w.set k x) j=if j=k then evD d b x else qv d b w j:=by
 unfold qv;by_cases h:j=k
 . subst h;simp[List.getD,a]
 simp[List.getD,qBn (Ne.symm h),h]
section
variable {c:Bc}{d:List Nd}{H:List Blk}{T:List (Option Nat)}
def Js(h:BX c H d H){X}(M:zh d X):
 qh prog (XG c) 239 [.ptr c.B 0,.agg (qD X)] ⟨H,T⟩ (BQ c d H fun b k=>!qv d b X k):=by
 refine qFF func239 ?_;simp;refine yu 16 (fun i ev σ=>ev 0=.ptr c.B 0/\ev 3=.ptr H.length 0/\ev 4=.ptr (H.length+1) 0/\ev 6=.int .i64 (i:Int) /\
  ∃d' W,BX c H d' σ.H/\zi d d'/\zh d' W/\σ.H[H.length]?=some (.cells (qD W))/\(∃Z,Z.length=16/\σ.H[H.length+1]?=some (.cells Z))/\∀b k,k<16->qv d' b W k=if k<i then !qv d b X k else qv d b X k) ?_ ?_ ?_
 . refine⟨by simp,by simp,by simp,by simp,d,X,(h.app _),qGc d,M,by simp,⟨_,rfl,by simp;rfl⟩,fun b k f=>by simp⟩
 . rintro i ev ⟨L,K⟩ R Y hi ⟨F,m,w,E,z,W,e,s,a,l,⟨Z,t,g⟩,hb⟩;obtain⟨x,P,V,a2,S⟩:=a.get hi;simp only at e l g;have j:=a.1;have a0:(i:Int)<16:=(by omega);have Q:i+1<=16:=hi;have a1:=z5 P;have O:=wr (n:=(i:Int)+1);simp[*];refine qFJ (Zo c e.self V) ?_;rintro v ⟨H2,T2⟩ ⟨I,y,rfl,o,r,U,C⟩;dsimp only at C;have N:=e.call o;have A:=o.loc l (h.at (qBs _)).1;have u:=(qBk.1 A).1;have J:=o.loc g (h.at (by omega)).1;simp[m,E,a0,Q,A,j,kJ,O];refine Y _ _ ⟨by simp[F],by simp[m],by simp[w],by simp,I,W.set i y,N.set (qBs _) _,s.trans r,(a.grown r).set U,by simp[u],⟨Z,t,by rw[qBn (by omega)];exact J⟩,fun b k f=>?_⟩;rw[vh (by omega)];by_cases G:k=i
   . subst G;have:=hb b k f;rw[S,if_neg (by omega)]at this;rw[if_pos rfl,if_pos (by omega),C,this]
   rw[if_neg G,zN e.ok r a b f,hb b k f];by_cases D:k<i
   . rw[if_pos D,if_pos (by omega)]
   rw[if_neg D,if_neg (by omega)]
 rintro ev ⟨L,K⟩ ⟨F,m,w,E,z,W,e,s,a,l,⟨Z,t,g⟩,hb⟩;simp only at e l g;have j:=a.1;have u:=(qBk.1 g).1;simp[*,-getElem?_pos,qs j,zy j t];refine⟨z,W,rfl,e.set (by omega) _,s,a,fun b k f=>by rw[hb b k f,if_pos f]⟩
end
section
variable {c:Bc}{d:List Nd}{H:List Blk}{T:List (Option Nat)}
def zh.getG{d d' w}(h:zh d w)(hd:DagOk d)(a:zi d d'){k}(c:k<16):∃x,w[k]?=some x/\x<d'.length/\∀b,evD d' b x=qv d b w k:=by
 obtain⟨x,h1,h2,f,e⟩:=h.get c;exact⟨x,h1,qBD h2 a.len,fun b=>by rw[a.ev hd b h2,e b]⟩
def QJ(h:BX c H d H){X}(s:zh d X):
 qh prog (XG c) 185 [.ptr c.B 0,.agg (qD X)] ⟨H,T⟩ (NQ c d H fun b=>Jv (qv d b X) 16):=by
 refine qFF func185 ?_;have g:=s.1;simp[g,qs g];refine yu 16 (fun i ev σ=>ev 0=.ptr c.B 0/\ev 8=.agg (qD X)/\ev 9=.int .i64 (i:Int) /\
  ∃d' t,ev 5=.int .i64 (t:Nat)/\BX c H d' σ.H/\zi d d'/\t<d'.length/\∀b,evD d' b t=Jv (qv d b X) i) ?_ ?_ ?_
 . exact⟨by simp,by simp,by simp,d,0,by simp,h.app _,qGc d,by have:=h.ok.two;omega,fun b=>YG h.ok b⟩
 . rintro i ev ⟨C,A⟩ R M hi ⟨o,l,e,u,t,j,a,f,m,r⟩;obtain⟨x,G,L,J⟩:=s.getG h.ok f hi;have I:i+1<=16:=hi;have F:=wr (n:=(i:Int)+1);simp[o,j,l,e,show(i:Int)<16 by omega,I,g,z5 G];refine qFJ (qcE c a.self m L) ?_;rintro v ⟨N,O⟩ ⟨z,y,rfl,D,E,K,w⟩;dsimp only at w;simp[e,F];exact M _ _ ⟨by simp[o],by simp[l],by simp,z,y,by simp,a.call D,f.trans E,K,fun b=>by rw[w,r,J];rfl⟩
 rintro ev ⟨C,A⟩ ⟨o,l,e,u,t,j,a,f,m,r⟩;simp[j,e];exact⟨u,t,rfl,a,f,m,r⟩
def qmm(n i:Nat)(c:n<2^63):zV .and .i64 ((n:Int).fdiv (2^i)) 1=some (.int .i64 ((if n.testBit i=true then 1 else 0:Nat):Int)):=by
 have h1:((n:Int).fdiv (2^i))=((n/2^i:Nat):Int):=by rw[qDE _ (Int.pow_nonneg (by omega))];simp
 have h2:n/2^i<2^64:=by have:=qDr n (2^i);omega
 have b:n/2^i%2=if n.testBit i=true then 1 else 0:=by
  rw[qEm];have:=qEK (n/2^i);rcases this with h|h<;>simp[h]
 rw[h1];generalize n/2^i=m at *;have a:(BitVec.ofInt 64 (m:Int) &&& BitVec.ofInt 64 1).toNat=m%2:=by
  rw[BitVec.ofInt_natCast,show BitVec.ofInt 64 1=1#64 from rfl,BitVec.toNat_and,BitVec.toNat_ofNat,BitVec.toNat_ofNat,qDw h2];exact Nat.and_one_is_mod _
 show some (AV.int .i64 (IntKind.i64.wrap ((BitVec.ofInt 64 (m:Int) &&& BitVec.ofInt 64 1).toNat:Int)))=_;rw[a,b];split<;>rfl
def yA(n:Nat)(u:n<65536):Pure prog GG 235 [.int .i64 (n:Int)] (.agg (qD ((List.range 16).map fun k=>if n.testBit k=true then 1 else 0))):=by
 refine qFD func235 ?_;simp;refine yu 16 (fun i ev σ=>ev 0=.int .i64 (n:Int)/\ev 2=.ptr 0 0/\ev 3=.ptr 1 0/\ev 5=.int .i64 (i:Int) /\
  ∃W Z,W.length=16/\σ=⟨[.cells Z,.cells (qD W)],[]⟩/\Z.length=16/\∀k,k<i->W[k]?=some (if n.testBit k=true then 1 else 0)) ?_ ?_ ?_
 . exact⟨by simp,by simp,by simp,by simp,List.replicate 16 0,_,by simp,rfl,rfl,fun k b=>absurd b (by omega)⟩
 . rintro i ev σ R o hi ⟨f,e,c,g,W,Z,a,rfl,d,hb⟩;have t:i+1<=16:=hi;have s:=wr (n:=(i:Int)+1);have r:min i 64=i:=(by omega);have m:¬(i:Int)<0:=(by omega);have h:=qmm n i (by omega);obtain⟨v,l⟩:∃v:Nat,v=if n.testBit i=true then 1 else 0:=⟨_,rfl⟩
   rw[<- l]at h;simp[-zV,qf7,qf9,f,c,g,show(i:Int)<16 by omega,t,a,r,IntKind.bits,h,m];refine o _ _ ⟨by simp[f],by simp[e],by simp[c],by simp[s],W.set i v,Z,by simp[a],by simp[kJ],d,fun k b=>?_⟩;by_cases j:k=i
   . subst j;rw[qBo (by omega),l]
   rw[qBn (Ne.symm j)];exact hb k (by omega)
 rintro ev σ ⟨f,e,c,g,W,Z,a,rfl,d,hb⟩;have:W=(List.range 16).map fun k=>if n.testBit k=true then 1 else 0:=by
  apply qCg;intro k;by_cases b:k<16
  . rw[hb k b];simp[b]
  rw[qBW (by omega),qBW (by simp;omega)]
 rw[<- this];simp[e,c,g,a,qs a,zy a d,d]
end
section
variable {c:Bc}{d:List Nd}{H:List Blk}{T:List (Option Nat)}
def qpO(x y:Nat->Bool)(c:Bool)(k:Nat):Bool:=(x k ^^ y k) ^^ qbM x y c k
def qnK:List (Nat×Sch×List Nat):=[(5,.step 0 [8,7] (.step 1 [8,7,3,2] (.step 2 [8,7,3] (.step 3 [8,7] (.step 4 [8,7,6,5] (.step 5 [8,7,6] (.step 6 [8,7] (.step 7 [8] (.step 8 [] (.done))))))))),[7]),(8,.step 0 [8,7] (.step 1 [8,7,3,2] (.step 2 [8,7,3] (.step 3 [8,7] (.step 4 [8,7,6,5] (.step 5 [8,7,6] (.step 6 [8,7] (.step 7 [8] (.step 8 [] (.done))))))))),[7])]
def qfE(h:BX c H d H){X Y}(hX:zh d X)(hY:zh d Y){cn}(hc:cn<d.length):
 qh prog (XG c) 293 [.ptr c.B 0,.agg (qD X),.agg (qD Y),.int .i64 (cn:Int)] ⟨H,T⟩ (BQ c d H fun b=>qpO (qv d b X) (qv d b Y) (evD d b cn)):=by
 refine qFE ⟨false,qnK,[],[]⟩ func293 ?_;have e7:=hX.1;have e4:=hY.1;simp;refine yu 16 (fun i ev σ=>ev 0=.ptr c.B 0/\ev 5=.ptr H.length 0/\ev 6=.ptr (H.length+1) 0/\ev 8=.ptr (H.length+2) 0/\ev 9=.ptr (H.length+3) 0/\ev 14=.int .i64 (i:Int) /\
  ∃ d' W a7,ev 3=.int .i64 (a7:Nat)/\BX c H d' σ.H/\zi d d'/\zh d' W/\a7<d'.length/\σ.H[H.length]?=some (.cells (qD X))/\σ.H[H.length+1]?=some (.cells (qD Y))/\(∃Z,Z.length=16/\σ.H[H.length+2]?=some (.cells Z))/\σ.H[H.length+3]?=some (.cells (qD W)) /\
   (i<=15->∀b,evD d' b a7=qbM (qv d b X) (qv d b Y) (evD d b cn) i) /\
   ∀b k,k<i->qv d' b W k=qpO (qv d b X) (qv d b Y) (evD d b cn) k) ?_ ?_ ?_
 . refine⟨by simp,by simp,by simp,by simp,by simp,by simp,d,zp,cn,by simp,h.app _,qGc d,wy h.ok,hc,lk0,lk1,⟨_,za,lk2⟩,lk3,fun _ b=>rfl,fun b k a=>absurd a (by omega)⟩
 . rintro i ev ⟨H1,T1⟩ R hR hi ⟨r,J,O,U,D,s,d1,W,b1,Q,l,M,t,S,L,E,⟨Z,N,w⟩,P,d9,hb⟩;obtain⟨x,g7,a6,c0⟩:=hX.getG h.ok M hi;obtain⟨y,g8,a2,c3⟩:=hY.getG h.ok M hi;simp only at l L E w P;have u:=t.1;have K:(i:Int)<16:=(by omega);have A:i+1<=16:=hi;have c1:=z5 g7;have b6:=z5 g8;have hw:=wr (n:=(i:Int)+1);simp[s,K,A];rw[qG rfl];simp[qX,r,J,O,K,A,L,E,e7,e4,c1,b6];refine qFJ (qbO c l.self a6 a2) ?_;rintro v ⟨H2,T2⟩ ⟨d2,z,rfl,I,m,hz,c8⟩;dsimp only at c8;have a:∀j,H.length+j≠c.B:=fun j=>(h.at (by omega)).1
   have g6:=I.loc L (a 0);have g4:=I.loc E (a 1);have g1:=I.loc w (a 2);have f2:=I.loc P (a 3);have a0:=l.call I;have V:=qBD S m.len;simp[r,Q,A];refine qFJ (qbO c a0.self hz V) ?_;rintro v ⟨C,T3⟩ ⟨d3,o,rfl,F,e,ho,b7⟩;dsimp only at b7;have g2:=F.loc g6 (a 0);have f7:=F.loc g4 (a 1);have g3:=F.loc g1 (a 2);have a4:=F.loc f2 (a 3);have f5:=a0.call F;have f9:=(qBk.1 a4).1;have a1:=f5.set (k:=H.length+3) (by omega) (.cells (qD (W.set i o)));have b0:(C.set (H.length+3) (.cells (qD (W.set i o))))[H.length]?=some (.cells (qD X)):=(by rw[qBn (by omega)];exact g2);have b4:(C.set (H.length+3) (.cells (qD (W.set i o))))[H.length+1]?=some (.cells (qD Y)):=(by rw[qBn (by omega)];exact f7);have c2:(C.set (H.length+3) (.cells (qD (W.set i o))))[H.length+2]?=some (.cells Z):=(by rw[qBn (by omega)];exact g3);have c5:(C.set (H.length+3) (.cells (qD (W.set i o))))[H.length+3]?=some (.cells (qD (W.set i o))):=qBo f9;have d0:=M.trans (m.trans e);have a9:=(t.grown (m.trans e)).set (k:=i) ho;have f0:=d9 (by omega);have b9:∀b,evD d2 b z=(qv d b X i ^^ qv d b Y i):=fun b=>by rw[c8,c0,c3]
   have f8:∀b,evD d3 b o=qpO (qv d b X) (qv d b Y) (evD d b cn) i:=fun b=>by
    rw[b7,b9,m.ev l.ok b S,f0];rfl
   have c9:∀b k,k<i+1->qv d3 b (W.set i o) k=qpO (qv d b X) (qv d b Y) (evD d b cn) k:=fun b k a=>by
    rw[vh (by omega)];by_cases d8:k=i
    . subst d8;rw[if_pos rfl,f8]
    rw[if_neg d8,zN l.ok (m.trans e) t b (by omega),hb b k (by omega)]
   by_cases g9:i<15
   . have a3:(i:Int)<15:=(by omega);simp[D,K,A,a4,u,kJ,a3];generalize C.set (H.length+3) (.cells (qD (W.set i o)))=H4 at *;rw[qG rfl];simp[qX,r,J,O,K,A,b0,b4,e7,e4,c1,b6];refine qFJ (Zq c a1.self (qBD a6 (m.trans e).len) (qBD a2 (m.trans e).len)) ?_;rintro v ⟨H5,T5⟩ ⟨d5,g,rfl,c4,G,e1,f1⟩;dsimp only at f1;have a5:=a1.call c4;simp[r,Q,s];refine qFJ (Zq c a5.self (f:=z) (g:=b1) (qBD hz (e.trans G).len) (qBD V (e.trans G).len)) ?_;rintro v ⟨H6,T6⟩ ⟨d6,hh,rfl,c6,b2,f4,b5⟩;dsimp only at b5;have d4:=a5.call c6;simp[r,s];refine qFJ (qcE c d4.self (f:=g) (g:=hh) (qBD e1 b2.len) f4) ?_;rintro v ⟨H7,T7⟩ ⟨d7,c7,rfl,e2,g0,f6,b8⟩;dsimp only at b8;have f3:=d4.call e2;simp[s,hw];have a8:=G.trans (b2.trans g0);have up:∀{k:Nat} {x:Blk},H4[H.length+k]?=some x->H7[H.length+k]?=some x:=fun {k x} hq=>e2.loc (c6.loc (c4.loc hq (a k)) (a k)) (a k)
     refine hR _ _ ⟨by simp[r],by simp[J],by simp[O],by simp[U],by simp[D],by simp,d7,W.set i o,c7,by simp,f3,d0.trans a8,a9.grown a8,f6,up (k:=0) b0,up b4,⟨Z,N,up c2⟩,up c5,fun _ b=>?_,fun b k a=>?_⟩
     . rw[b8,b2.ev a5.ok b e1,f1,b5,(e.trans G).ev a0.ok b hz,(e.trans G).ev a0.ok b V,b9,(m.trans e).ev l.ok b a6,(m.trans e).ev l.ok b a2,c0,c3,m.ev l.ok b S,f0];rfl
     rw[zN a1.ok a8 a9 b (by omega),c9 b k a]
   have a3:¬(i:Int)<15:=(by omega);simp[D,s,K,A,a4,u,kJ,a3,hw];generalize C.set (H.length+3) (.cells (qD (W.set i o)))=H4 at *;refine hR _ _ ⟨by simp[r],by simp[J],by simp[O],by simp[U],by simp[D],by simp,d3,W.set i o,b1,by simp[Q],a1,d0,a9,qBD V e.len,b0,b4,⟨Z,N,c2⟩,c5,fun hi=>absurd hi (by omega),c9⟩
 rintro ev ⟨H1,T1⟩ ⟨r,J,O,U,D,s,d1,W,b1,Q,l,M,t,S,L,E,⟨Z,N,w⟩,P,d9,hb⟩;simp only at l L E w P;have u:=t.1;have g5:=(qBk.1 w).1;simp[-getElem?_pos,U,D,s,P,w,u,qs u,zy u N,N,g5];exact⟨d1,W,rfl,l.set (by omega) _,M,t,fun b k a=>hb b k a⟩
end
def J2{x x' y y' c}:∀{k:Nat},(∀j,j<k->x j=x' j)->(∀j,j<k->y j=y' j)->qbM x y c k=qbM x' y' c k
 |0,_,_=>rfl
 | k+1,a,b=>by
  unfold qbM;rw[a k (by omega),b k (by omega),J2 (k:=k) (fun j d=>a j (by omega)) (fun j d=>b j (by omega))]
section
variable {c:Bc}{d:List Nd}{H:List Blk}{T:List (Option Nat)}
def js(n:Nat):Pure prog GG 237 [.int .i64 (n:Int)] (.agg (qD (n::List.replicate 15 0))):=by
 refine qFD func237 ?_;simp[qV,zt];exact qFO _
def qnG:List (Nat×Sch×List Nat):=[(5,.step 0 [13,12] (.step 1 [13,12] (.step 2 [13,12,11] (.step 3 [13,12,11,10] (.step 4 [13,12,11,10,6,5] (.step 5 [13,12,11,10,6] (.step 6 [13,12,11,10] (.step 7 [13,12,11,10,9,8] (.step 8 [13,12,11,10,9] (.step 9 [13,12,11,10] (.step 10 [13,12,11] (.step 11 [13,12] (.step 12 [13] (.step 13 [] (.done)))))))))))))),[10,11,12])]
def qbf(h:BX c H d H){X Y}(C:zh d X)(S:zh d Y):
 qh prog (XG c) 332 [.ptr c.B 0,.agg (qD X),.agg (qD Y)] ⟨H,T⟩ (NQ c d H fun b=>eqT (qv d b X) (qv d b Y) 16):=by
 refine qFE ⟨false,qnG,[],[]⟩ func332 ?_;have b2:=C.1;have b1:=S.1;have r:∀j,H.length+j≠c.B:=fun j=>(h.at (by omega)).1
 simp;refine yu 16 (fun i ev σ=>ev 0=.ptr c.B 0/\ev 4=.ptr H.length 0/\ev 5=.ptr (H.length+1) 0/\ev 9=.int .i64 (i:Int) /\
  ∃ d' t,ev 7=.int .i64 (t:Nat)/\BX c H d' σ.H/\zi d d'/\t<d'.length/\σ.H[H.length]?=some (.cells (qD X))/\σ.H[H.length+1]?=some (.cells (qD Y)) /\
   ∀b,evD d' b t=eqT (qv d b X) (qv d b Y) i) ?_ ?_ ?_
 . exact⟨by simp,by simp,by simp,by simp,d,1,by simp,h.app _,qGc d,by have:=h.ok.two;omega,lk0,lk1,fun b=>qeZ h.ok b⟩
 . rintro i ev ⟨K,V⟩ R hR hi ⟨G,Q,O,e9,E,t,e7,a,e,l,o,m,A⟩;obtain⟨x,a7,a3,a1⟩:=C.getG h.ok e hi;obtain⟨y,a8,U,a5⟩:=S.getG h.ok e hi;simp only at a o m;have b5:(i:Int)<16:=(by omega);have b4:i+1<=16:=hi;have b0:=z5 a7;have a9:=z5 a8;have hw:=wr (n:=(i:Int)+1);simp[*];rw[qG rfl];simp[*,qX];refine qFJ (qbO c a.self a3 U) ?_;rintro v ⟨H2,T2⟩ ⟨d2,z,rfl,I,a6,hz,P⟩;dsimp only at P;have N:=a.call I;simp[qX];refine qFJ (Zo c N.self hz) ?_;rintro v ⟨H3,T3⟩ ⟨d3,u,rfl,D,a2,Z,F⟩;dsimp only at F;have J:=N.call D;simp[qX];have s:=a6.trans a2;refine qFJ (Zq c J.self (f:=t) (g:=u) (qBD l s.len) Z) ?_;rintro v ⟨H4,T4⟩ ⟨d4,w,rfl,M,a4,W,L⟩;dsimp only at L;have a0:=J.call M;have up:∀{k:Nat} {x:Blk},K[H.length+k]?=some x->H4[H.length+k]?=some x:=fun {k x} hq=>M.loc (D.loc (I.loc hq (r k)) (r k)) (r k)
   simp[*,qX];refine hR _ _ ⟨by simp[G],by simp[Q],by simp[O],by simp,d4,w,by simp,a0,e.trans (s.trans a4),W,up (k:=0) o,up m,fun b=>?_⟩;rw[L,s.ev a.ok b l,F,P,A,a1,a5];rfl
 rintro ev ⟨K,V⟩ ⟨G,Q,O,e9,E,t,e7,a,e,l,o,m,A⟩;simp[*];exact⟨E,t,rfl,a,e,l,A⟩
def qnJ:List (Nat×Sch×List Nat):=[(5,.step 0 [10,9] (.step 1 [10,9,5] (.step 2 [10,9,5,4,3] (.step 3 [10,9,5,4] (.step 4 [10,9,5] (.step 6 [10,9,8,7] (.step 7 [10,9,8] (.fork (.cons 5 (.step 8 [10,9] (.step 9 [10] (.step 10 [] (.done)))) (.cons 8 (.step 5 [10,9] (.step 9 [10] (.step 10 [] (.done)))) (.nil)))))))))),[5,9]),(6,.step 0 [13,12] (.step 1 [13,12,10] (.step 2 [13,12,10,9] (.step 3 [13,12,10,9,5,4] (.step 4 [13,12,10,9,5] (.step 5 [13,12,10,9] (.step 6 [13,12,10,9,8,7] (.step 7 [13,12,10,9,8] (.step 8 [13,12,10,9] (.step 11 [13,12] (.step 9 [13,12,10] (.step 10 [13,12] (.step 12 [13] (.step 13 [] (.done)))))))))))))),[9,10,12])]
def qa4(h:BX c H d H){X Y}(N:zh d X)(hY:zh d Y):
 qh prog (XG c) 294 [.ptr c.B 0,.agg (qD X),.agg (qD Y)] ⟨H,T⟩ (NQ c d H fun b=>qeE (qv d b X) (qv d b Y) 16):=by
 refine qFE ⟨false,qnJ,[],[]⟩ func294 ?_;have e1:=N.1;have d9:=hY.1;have e:∀j,H.length+j≠c.B:=fun j=>(h.at (by omega)).1
 simp;refine yu 16 (fun i ev σ=>ev 0=.ptr c.B 0/\ev 4=.ptr H.length 0/\ev 5=.ptr (H.length+1) 0/\ev 11=.int .i64 (i:Int) /\
  ∃ d' t,ev 7=.int .i64 (t:Nat)/\BX c H d' σ.H/\zi d d'/\t<d'.length/\σ.H[H.length]?=some (.cells (qD X))/\σ.H[H.length+1]?=some (.cells (qD Y)) /\
   ∀b,evD d' b t=qeE (qv d b X) (qv d b Y) i) ?_ ?_ ?_
 . exact⟨by simp,by simp,by simp,by simp,d,0,by simp,h.app _,qGc d,by have:=h.ok.two;omega,lk0,lk1,fun b=>YG h.ok b⟩
 . rintro i ev ⟨H1,M⟩ R hR hi ⟨D,e4,e5,c1,O,t,e7,a,l,r,A,s,K⟩;obtain⟨x,c4,C,b6⟩:=N.getG h.ok l hi;obtain⟨y,c6,o,c2⟩:=hY.getG h.ok l hi;simp only at a A s;have e3:(i:Int)<16:=(by omega);have e2:i+1<=16:=hi;have d8:=z5 c4;have d0:=z5 c6;have hw:=wr (n:=(i:Int)+1);simp[*];rw[qG rfl];simp[*,qX];have key:=Zo c a.self C (T:=M);refine⟨qFJ key ?_,qFJ key ?_⟩
   all_goals
    rintro v ⟨H2,T2⟩ ⟨d2,z,rfl,F,I,hz,b4⟩;dsimp only at b4;have b0:=a.call F;have a9:=F.loc A (e 0);have a0:=F.loc s (e 1);dsimp only at a9 a0;simp[*,qX];refine qFJ (Zq c b0.self (f:=z) (g:=y) hz (qBD o I.len)) ?_;rintro v ⟨H3,T3⟩ ⟨d3,u,rfl,w,b7,Q,P⟩;dsimp only at P;have E:=b0.call w;have b5:=w.loc a9 (e 0);have c5:=w.loc a0 (e 1);have m:=I.trans b7;simp;rw[qG rfl];simp[*,qX];refine qFJ (qbO c E.self (f:=x) (g:=y) (qBD C m.len) (qBD o m.len)) ?_;rintro v ⟨H4,T4⟩ ⟨d4,q,rfl,a8,b9,J,a3⟩;dsimp only at a3;have W:=E.call a8;simp[qX];refine qFJ (Zo c W.self J) ?_;rintro v ⟨H5,T5⟩ ⟨d5,nq,rfl,a5,c0,b8,b2⟩;dsimp only at b2;have Z:=W.call a5;simp[qX];have a1:=b9.trans c0;have G:=m.trans a1;refine qFJ (Zq c Z.self (f:=nq) (g:=t) b8 (qBD r G.len)) ?_;rintro v ⟨H6,T6⟩ ⟨d6,a6,rfl,b1,S,c3,L⟩;dsimp only at L;have a2:=Z.call b1;simp[qX,D];have a4:=a1.trans S;refine qFJ (qcE c a2.self (f:=u) (g:=a6) (qBD Q a4.len) c3) ?_;rintro v ⟨H7,T7⟩ ⟨d7,a7,rfl,U,c9,c7,V⟩;dsimp only at V;have c8:=a2.call U;have up:∀{k:Nat} {x:Blk},H3[H.length+k]?=some x->H7[H.length+k]?=some x:=fun {k x} J=>U.loc (b1.loc (a5.loc (a8.loc J (e k)) (e k)) (e k)) (e k)
    simp[*];refine hR _ _ ⟨by simp[D],by simp[e4],by simp[e5],by simp,d7,a7,by simp,c8,l.trans (G.trans (S.trans c9)),c7,up (k:=0) b5,up c5,fun b=>?_⟩;rw[V,a4.ev E.ok b Q,P,b4,I.ev a.ok b o,L,b2,a3,m.ev a.ok b C,m.ev a.ok b o,G.ev a.ok b r,K,b6,c2];rfl
 rintro ev ⟨H1,M⟩ ⟨D,e4,e5,c1,O,t,e7,a,l,r,A,s,K⟩;simp[*];exact⟨O,t,rfl,a,l,r,K⟩
def qnQ:List (Nat×Sch×List Nat):=[(1,.step 0 [6,5] (.step 2 [6,5,4] (.step 3 [6,5,4] (.fork (.cons 1 (.step 4 [6,5] (.step 5 [6] (.step 6 [] (.done)))) (.cons 4 (.step 1 [6,5] (.step 5 [6] (.step 6 [] (.done)))) (.nil)))))),[4,5])]
def Jp(h:BX c H d H){X Y}(e:zh d X)(x:zh d Y):
 qh prog (XG c) 240 [.ptr c.B 0,.agg (qD X),.agg (qD Y)] ⟨H,T⟩ (BQ c d H fun b=>qpO (qv d b X) (fun k=>!qv d b Y k) true):=by
 refine qFE ⟨false,qnQ,[],[]⟩ func240 ?_;have r:=e.1;have E:=x.1;have a:∀j,H.length+j≠c.B:=fun j=>(h.at (by omega)).1
 simp;rw[qG rfl,jK];have t:=h.app [.cells (qD X),.cells (qD Y),.cells (qD zp)];have F:(H++[Blk.cells (qD X),.cells (qD Y),.cells (qD zp)])[H.length]?=some (.cells (qD X)):=lk0;have K:(H++[Blk.cells (qD X),.cells (qD Y),.cells (qD zp)])[H.length+1]?=some (.cells (qD Y)):=lk1;have D:(H++[Blk.cells (qD X),.cells (qD Y),.cells (qD zp)])[H.length+2]?=some (.cells (qD zp)):=lk2;generalize H++[Blk.cells (qD X),.cells (qD Y),.cells (qD zp)]=L at *;simp[*,qX,qs r,qs E];have key:=Js t.self x (T:=T);refine⟨qFJ key ?_,qFJ key ?_⟩
 all_goals
  rintro v ⟨M,Q⟩ ⟨J,W,rfl,i,g,A,w⟩;have f:=t.call i;have O:=i.loc F (a 0);have y:=i.loc D (a 2);simp[*,qX,qs r];have R:=f.ok.two;refine qFJ (qfE f.self (e.grown g) A (cn:=1) (by omega)) ?_;rintro v ⟨P,N⟩ ⟨z,V,rfl,m,G,u,s⟩;dsimp only at s;have I:=f.call m;have o:=m.loc y (a 2);dsimp only at o;have l:=u.1;have S:=(qBk.1 o).1;simp[*,-getElem?_pos,qX,qs l,zy l (show(qD zp).length=16 from rfl),za];refine⟨z,V,rfl,I.set (by omega) _,g.trans G,u,fun b k a=>?_⟩;rw[s b k a];unfold qpO;rw[w b k a,zN h.ok g e b a,qeZ f.ok];congr 1;exact J2 (fun j C=>zN h.ok g e b (by omega)) (fun j C=>w b j (by omega))
end
def UQ(c:Bc)(d:List Nd)(H:List Blk)(v:(Nat->Bool)->Nat)(r:AV)(σ':St):Prop :=
 ∃d' W,r=.agg (qD W)/\BX c H d' σ'.H/\zi d d'/\zh d' W/\∀b,zA (qv d' b W) 16=v b
def qgR:((List.range 16).map fun k=>if Nat.testBit 0 k=true then 1 else 0)=zp:=by decide
def wQ{d d'}(hd:DagOk d)(c:zi d d'){w}(h:zh d w)(b):zA (qv d' b w) 16=zA (qv d b w) 16:=zB fun k a=>zN hd c h b a
section
variable {c:Bc}{d:List Nd}{H:List Blk}{T:List (Option Nat)}
def qnI:List (Nat×Sch×List Nat):=[(9,.step 0 [12,11] (.step 1 [12,11,10] (.step 2 [12,11,10,6,5,4] (.step 3 [12,11,10,6,5,4] (.step 4 [12,11,10,6,5] (.step 5 [12,11,10,6] (.step 6 [12,11,10] (.step 7 [12,11,10,9,8] (.step 8 [12,11,10,9] (.step 9 [12,11,10] (.step 10 [12,11] (.step 11 [12] (.step 12 [] (.done))))))))))))),[10])]
def qhU(h:BX c H d H){X Y}(hX:zh d X)(hY:zh d Y):
 qh prog (XG c) 297 [.ptr c.B 0,.agg (qD X),.agg (qD Y)] ⟨H,T⟩ (UQ c d H fun b=>qsq (zA (qv d b X) 16) (qv d b Y) 16 16):=by
 refine qFE ⟨false,qnI,[],[]⟩ func297 ?_;have f2:=hX.1;have f1:=hY.1;have a:∀j,H.length<=j->j≠c.B:=fun j M=>(h.at M).1
 have Q:=yA 0 (by omega);rw[qgR]at Q;simp at Q;simp;refine qFG Q ?_ rfl;simp[jK,zy (w:=zp) rfl (show(qD zp).length=16 from rfl),za];refine yu 16 (fun i ev σ=>ev 0=.ptr c.B 0/\ev 4=.ptr H.length 0/\ev 5=.ptr (H.length+1) 0/\ev 6=.ptr (H.length+2) 0/\ev 7=.ptr (H.length+3) 0/\ev 12=.int .i64 (i:Int) /\
  ∃ d' S,BX c H d' σ.H/\zi d d'/\zh d' S/\σ.H[H.length]?=some (.cells (qD X))/\σ.H[H.length+1]?=some (.cells (qD Y))/\σ.H[H.length+2]?=some (.cells (qD zp))/\σ.H[H.length+3]?=some (.cells (qD S)) /\
   ∀b,zA (qv d' b S) 16=qsq (zA (qv d b X) 16) (qv d b Y) 16 i) ?_ ?_ ?_
 . refine⟨by simp,by simp,by simp,by simp,by simp,by simp,d,zp,h.app _,qGc d,wy h.ok,lk0,lk1,lk2,lk3,fun b=>?_⟩
   . rw[kZ fun k _=>kK h.ok b k];rfl
 . rintro i ev ⟨F,T1⟩ R hR hi ⟨E,I,G,D,l,u,t,S,e,J,g,a6,a4,a0,O,W⟩;obtain⟨y,d6,a2,b8⟩:=hY.getG h.ok J hi;have f5:(i:Int)<16:=(by omega);have f3:i+1<=16:=hi;have d9:=z5 d6;have hw:=wr (n:=(i:Int)+1);have b9:=e.kp.1;simp[*,jK];have b6:=e.app [.cells (qD zp)];have d7:=qa a6 [.cells (qD zp)];have c4:=qa a4 [.cells (qD zp)];have b7:=qa a0 [.cells (qD zp)];have c9:=qa O [.cells (qD zp)];have a9:(F++[Blk.cells (qD zp)])[F.length]?=some (.cells (qD zp)):=lk0;have a1:=(qBk.1 O).1;generalize F.length=N at *;generalize F++[Blk.cells (qD zp)]=f0 at *;refine qFL (fun n ev σ=>ev 0=.ptr c.B 0/\ev 4=.ptr H.length 0/\ev 5=.ptr (H.length+1) 0/\ev 6=.ptr (H.length+2) 0/\ev 7=.ptr (H.length+3) 0/\ev 8=.int .i64 (i:Int)/\ev 9=.ptr N 0/\ev 12=.int .i64 (i:Int) /\
    ∃j d' P,n=16-j/\i<=j/\j<=16/\ev 10=.int .i64 (j:Int)/\BX c H d' σ.H/\zi t d'/\zh d' P/\σ.H[H.length]?=some (.cells (qD X))/\σ.H[H.length+1]?=some (.cells (qD Y))/\σ.H[H.length+2]?=some (.cells (qD zp))/\σ.H[H.length+3]?=some (.cells (qD S))/\σ.H[N]?=some (.cells (qD P)) /\
    ∀b k,k<16->qv d' b P k=(decide (k<j)&&(qv d b Y i&&(decide (i<=k)&&qv d b X (k-i))))) (16-i) ?_ ?_
   . refine⟨by simp[E],by simp[I],by simp[G],by simp[D],by simp[l],by simp,by simp,by simp[u],i,t,zp,rfl,qBs _,by omega,by simp,b6,qGc t,wy e.ok,d7,c4,b7,c9,a9,fun b k a=>?_⟩;rw[kK e.ok];by_cases h1:k<i
     . have:¬i<=k:=by omega
       simp[this]
     simp[h1]
   rintro n ev ⟨H2,T2⟩ R2 b4 ⟨E,I,G,D,l,e8,e9,u,j,o,P,rfl,c2,e1,c8,f,r,L,bX,bY,bZ,bS,bP,hb⟩;have a5:=L.1;have U:=g.1;have a8:=J.trans r;by_cases M:j<16
   . have c0:(j:Int)<16:=(by omega);have d4:j+1<=16:=M;have c6:=wr (n:=(j:Int)+1);have c1:=wr (n:=(j:Int)-i);have d0:(j:Int)-i=((j-i:Nat):Int):=(by omega);rw[d0]at c1;have b1:j-i<16:=(by omega);have f4:j-i+1<=16:=(by omega);have e2:((j-i:Nat):Int)<16:=(by omega);obtain⟨x,c7,c5,b5⟩:=hX.getG h.ok a8 b1;have e3:=z5 c7;have d5:y<o.length:=qBD a2 r.len;generalize hm:j-i=m at *;simp[*];rw[qG rfl];simp[*,qX];refine qFJ (Zq c f.self c5 d5) ?_;rintro v ⟨H3,T3⟩ ⟨K,z,rfl,s,C,hz,A⟩;dsimp only at A;have Z:=f.call s;have up:∀{k:Nat} {x:Blk},H.length<=k->H2[k]?=some x->H3[k]?=some x:=fun {k x} hl hq=>s.loc hq (a k hl)
     have cP:=up (by omega) bP;have d8:=(qBk.1 cP).1;simp[qX,e9,c8,c0,d4,cP,a5,kJ,c6];refine b4 (16-(j+1)) _ _ (by omega) ⟨by simp[E],by simp[I],by simp[G],by simp[D],by simp[l],by simp[e8],by simp[e9],by simp[u],j+1,K,P.set j z,rfl,by omega,by omega,by simp,Z.set (by omega) _,r.trans C,(L.grown C).set hz,?_,?_,?_,?_,qBo d8,fun b k a=>?_⟩
     . rw[qBn (by omega)];exact up (by omega) bX
     . rw[qBn (by omega)];exact up (by omega) bY
     . rw[qBn (by omega)];exact up (by omega) bZ
     . rw[qBn (by omega)];exact up (by omega) bS
     rw[vh (by omega)];by_cases a7:k=j
     . subst a7;rw[if_pos rfl,A,b5,r.ev e.ok b a2,b8,hm];simp[c2,Bool.and_comm]
     rw[if_neg a7,zN f.ok C L b a,hb b k a];by_cases h1:k<j
     . have h2:k<j+1:=(by omega);simp[*]
     have h2:¬k<j+1:=(by omega);simp[*]
   have b0:j=16:=(by omega);subst b0;simp[*,qs U,qs a5];have ht:=f.ok.two;have c3:=g.grown r;refine qFJ (qfE f.self c3 L (cn:=0) (by omega)) ?_;rintro v ⟨H3,T3⟩ ⟨K,V,rfl,s,C,hV,A⟩;dsimp only at A;have Z:=f.call s;have up:∀{k:Nat} {x:Blk},H.length<=k->H2[k]?=some x->H3[k]?=some x:=fun {k x} hl hq=>s.loc hq (a k hl)
   have cS:=up (by omega) bS;have b2:=(qBk.1 cS).1;have a3:=hV.1;simp[l,u,cS,a3,U,zy a3 (show(qD S).length=16 by rw[jJ,U]),hw];refine hR _ _ ⟨by simp[E],by simp[I],by simp[G],by simp[D],by simp[l],by simp,K,V,Z.set (by omega) _,a8.trans C,hV,?_,?_,?_,qBo b2,fun b=>?_⟩
   . rw[qBn (by omega)];exact up (by omega) bX
   . rw[qBn (by omega)];exact up (by omega) bY
   . rw[qBn (by omega)];exact up (by omega) bZ
   have hs:zA (qv K b V) 16=zA (fun k=>(qv o b S k ^^ qv o b P k) ^^ qbM (qv o b S) (qv o b P) false k) 16:=zB fun k a=>by rw[A b k a,YG f.ok];rfl
   have hp:zA (qv o b P) 16=cond (qv d b Y i) ((zA (qv d b X) 16*2^i)%2^16) 0:=by
    cases hy:qv d b Y i with
    | true=>
     rw[cond_true,<- qjq];exact zB fun k a=>by rw[hb b k a,hy];simp[a]
    | false=>
     rw[cond_false];exact kZ fun k a=>by rw[hb b k a,hy];simp
   rw[hs,wB,hp,wQ e.ok r g b,W b];simp[qsq,b2n]
 rintro ev ⟨F,T1⟩ ⟨E,I,G,D,l,u,t,S,e,J,g,a6,a4,a0,O,W⟩;have a1:=g.1;have b9:=(qBk.1 a0).1;simp[*,-getElem?_pos,qs a1,zy a1 (show(qD zp).length=16 from rfl),za];exact⟨t,S,rfl,e.set (by omega) _,J,g,W⟩
end
section
variable {c:Bc}{d:List Nd}{H:List Blk}{T:List (Option Nat)}
def qnN:List (Nat×Sch×List Nat):=[(4,.step 0 [10,9] (.step 1 [10,9,8] (.step 2 [10,9,8,4,3] (.step 3 [10,9,8,4] (.step 4 [10,9,8] (.step 5 [10,9,8,7,6] (.step 6 [10,9,8,7] (.step 7 [10,9,8] (.step 8 [10,9] (.step 9 [10] (.step 10 [] (.done))))))))))),[8])]
def YW(h:BX c H d H){X Y:List Nat}(Q:zh d X)(O:zh d Y){g:Nat}{first cap:List AV}{F:(Nat->Bool)->Bool->Bool->Bool}
 (hF:∀a l r (x y:Nat),BX c H a l->zi d a->x<a.length->y<a.length->qh prog (XG c) g (kq first [.int .i64 x,.int .i64 y] cap) ⟨l,r⟩ (NQ c a l fun b=>F b (evD a b x) (evD a b y))):
 qh prog (XG c) 243 [.agg (qD X),.agg (qD Y),.fn g first cap] ⟨H,T⟩ (BQ c d H fun b k=>F b (qv d b X k) (qv d b Y k)):=by
 refine qFE ⟨false,qnN,[],[]⟩ func243 ?_;have b0:=O.1;have e:∀j,H.length<=j->j≠c.B:=fun j S=>(h.at S).1
 simp[jK];refine yu 16 (fun i ev σ=>ev 2=.fn g first cap/\ev 3=.ptr H.length 0/\ev 4=.ptr (H.length+1) 0/\ev 6=.ptr (H.length+2) 0/\ev 8=.int .i64 (i:Int) /\
  ∃ d' W,BX c H d' σ.H/\zi d d'/\zh d' W/\σ.H[H.length]?=some (.cells (qD W))/\σ.H[H.length+1]?=some (.cells (qD Y))/\σ.H[H.length+2]?=some (.cells (qD zp)) /\
   ∀b k,k<16->qv d' b W k=if k<i then F b (qv d b X k) (qv d b Y k) else qv d b X k) ?_ ?_ ?_
 . exact⟨by simp,by simp,by simp,by simp,by simp,d,X,h.app _,qGc d,Q,lk0,lk1,lk2,fun b k e=>by simp⟩
 . rintro i ev ⟨l,r⟩ R hR hi ⟨A,t,N,I,G,a,W,m,o,f,E,C,u,hb⟩;obtain⟨x,a3,a0,_,Z⟩:=f.get hi;obtain⟨y,a5,P,a1⟩:=O.getG h.ok o hi;have s:=f.1;have a6:(i:Int)<16:=(by omega);have a4:i+1<=16:=hi;have a8:=z5 a3;have a7:=z5 a5;have V:=wr (n:=(i:Int)+1);simp[*];rw[qG rfl];simp[*,-kq,qX];refine qFJ (hF a l r x y m o a0 P) ?_;rintro v ⟨H2,T2⟩ ⟨d2,z,rfl,K,w,hz,M⟩;dsimp only at M;have a2:=m.call K;have up:∀{k:Nat} {x:Blk},H.length<=k->l[k]?=some x->H2[k]?=some x:=fun {k x} hl hq=>K.loc hq (e k hl)
   have L:=up (by omega) E;have U:=(qBk.1 L).1;simp[qX,t,G,a6,a4,L,s,kJ,V];refine hR _ _ ⟨by simp[A],by simp[t],by simp[N],by simp[I],by simp,d2,W.set i z,a2.set (by omega) _,o.trans w,(f.grown w).set hz,qBo U,?_,?_,fun b k e=>?_⟩
   . rw[qBn (by omega)];exact up (by omega) C
   . rw[qBn (by omega)];exact up (by omega) u
   rw[vh (by omega)];by_cases J:k=i
   . subst J;have D:=hb b k e;rw[if_neg (by omega)]at D;rw[if_pos rfl,if_pos (by omega),M,a1,<- Z,D]
   rw[if_neg J,zN m.ok w f b e,hb b k e];by_cases h1:k<i
   . rw[if_pos h1,if_pos (by omega)]
   rw[if_neg h1,if_neg (by omega)]
 rintro ev ⟨l,r⟩ ⟨A,t,N,I,G,a,W,m,o,f,E,C,u,hb⟩;have s:=f.1;have a9:=(qBk.1 u).1;simp[*,-getElem?_pos,qs s,zy s (show(qD zp).length=16 from rfl),za];exact⟨a,W,rfl,m.set (by omega) _,o,f,fun b k e=>by rw[hb b k e,if_pos e]⟩
def qnP:List (Nat×Sch×List Nat):=[(5,.step 0 [5,4] (.step 1 [5,4] (.step 2 [5,4,3] (.step 3 [5,4] (.step 4 [5] (.step 5 [] (.done)))))),[4])]
def qcF{d}(h:DagOk d){n}(a:n<d.length):zh d (n::List.replicate 15 0):=⟨rfl,fun i hi=>by
 rcases qBN.1 hi with rfl|hi
 . exact a
 rw[qDc]at hi;rw[hi.2];have:=h.two;omega⟩
def qge{d}(h:DagOk d)(b n k):qv d b (n::List.replicate 15 0) k=(decide (k=0)&&evD d b n):=by
 unfold qv
 cases k with
 |zero=>simp
 | succ k=>
  have:(n::List.replicate 15 0).getD (k+1) 0=0:=by
   simp only[qBw,qDP,qE2];split<;>rfl
  rw[this,YG h];simp
def qsb(h:BX c H d H){X}(E:zh d X):
 qh prog (XG c) 241 [.ptr c.B 0,.agg (qD X)] ⟨H,T⟩ (UQ c d H fun b=>qaQ (qv d b X) 16):=by
 refine qFE ⟨false,qnP,[],[]⟩ func241 ?_;have F:=E.1;have s:∀j,H.length<=j->j≠c.B:=fun j Q=>(h.at Q).1
 have u:=yA 0 (by omega);rw[qgR]at u;simp at u;simp;refine qFG u ?_ rfl;simp[F,qs F,jK,zy (w:=zp) rfl (show(qD zp).length=16 from rfl),za];refine yu 16 (fun i ev σ=>ev 0=.ptr c.B 0/\ev 4=.ptr (H.length+1) 0/\ev 5=.ptr (H.length+2) 0/\ev 9=.agg (qD X)/\ev 10=.int .i64 (i:Int) /\
  ∃ d' S,BX c H d' σ.H/\zi d d'/\zh d' S/\σ.H[H.length+1]?=some (.cells (qD zp))/\σ.H[H.length+2]?=some (.cells (qD S)) /\
   ∀b,zA (qv d' b S) 16=qaQ (qv d b X) i) ?_ ?_ ?_
 . exact⟨by simp,by simp,by simp,by simp,by simp,d,zp,h.app _,qGc d,wy h.ok,lk1,lk2,fun b=>by rw[kZ fun k _=>kK h.ok b k];rfl⟩
 . rintro i ev ⟨D,A⟩ R hR hi ⟨N,C,o,I,r,a,S,e,l,g,m,J,t⟩;obtain⟨x,a0,a2,a1⟩:=E.getG h.ok l hi;have f:=g.1;have a4:i+1<=16:=hi;have a5:=z5 a0;have hw:=wr (n:=(i:Int)+1);simp[*,show(i:Int)<16 by omega];rw[qG rfl];simp[*,qX,qs f];refine qFG (js x) ?_ rfl;simp[qX,r];have h1:=qcF e.ok a2;have M:=qfE e.self g h1 (cn:=0) (T:=A) (by omega);simp at M;refine qFJ M ?_;rintro v ⟨U,T2⟩ ⟨y,V,rfl,O,Z,K,L⟩;dsimp only at L;have Y:=e.call O;have up:∀{k:Nat} {x:Blk},H.length<=k->D[k]?=some x->U[k]?=some x:=fun {k x} hl hq=>O.loc hq (s k hl)
   have G:=up (by omega) J;have W:=(qBk.1 G).1;have z:=K.1;simp[qX,o,r,G,z,f,zy z (show(qD S).length=16 by rw[jJ,f]),hw];refine hR _ _ ⟨by simp[N],by simp[C],by simp[o],by simp[I],by simp,y,V,Y.set (by omega) _,l.trans Z,K,?_,qBo W,fun b=>?_⟩
   . rw[qBn (by omega)];exact up (by omega) m
   have P:zA (qv y b V) 16=zA (fun k=>(qv a b S k ^^ (decide (k=0)&&evD a b x)) ^^ qbM (qv a b S) (fun k=>decide (k=0)&&evD a b x) false k) 16:=zB fun k s=>by
    rw[L b k s,YG e.ok];have:=qge e.ok b x;simp at this;unfold qpO;rw[this k,J2 (x':=qv a b S) (y':=fun k=>decide (k=0)&&evD a b x) (fun j _=>rfl) (fun j _=>this j)]
   rw[P,wB,qao _ 15,t b,a1];have:=qgb (qv d b X) i;have h2:b2n (qv d b X i)<=1:=(by cases qv d b X i<;>simp[b2n]);show(qaQ _ i+b2n _+0)%2^16=qaQ _ i+b2n _;rw[qCV];exact qDw (by omega)
 rintro ev ⟨D,A⟩ ⟨N,C,o,I,r,a,S,e,l,g,m,J,t⟩;have f:=g.1;have a3:=(qBk.1 m).1;simp[*,-getElem?_pos,qs f,zy f (show(qD zp).length=16 from rfl),za];exact⟨a,S,rfl,e.set (by omega) _,l,g,t⟩
end
def shB(up:Bool)(x:Nat->Bool)(s k:Nat):Bool:=if up=true then decide (s<=k)&&x (k-s) else decide (k+s<16)&&x (k+s)
def qis(up:Bool):Int:=if up=true then 1 else -1
def YF(up:Bool)(s k:Nat):Int:=(k:Int)-qis up*s
def qsS{up s k}(b:s<16)(a:k<16)(h:0<=YF up s k/\YF up s k<16):∃m:Nat,YF up s k=m/\m<16/\∀x,shB up x s k=x m:=by
 unfold YF qis shB at *
 cases up with
 | true=>
  simp at h⊢;exact⟨k-s,by omega,by omega,fun x=>by
   have:s<=k:=by omega
   simp[this]⟩
 | false=>
  simp at h⊢;exact⟨k+s,by omega,by omega,fun x=>by
   have:k+s<16:=by omega
   simp[this]⟩
def qsT{up s k}(b:s<16)(a:k<16)(h:¬(0<=YF up s k/\YF up s k<16)):∀x,shB up x s k=false:=by
 unfold YF qis shB at *;intro x
 cases up with
 | true=>
  simp at h⊢;intro h1;omega
 | false=>
  simp at h⊢;intro h1;omega
def WJ{d}(h:DagOk d)(n:Nat):zh d ((List.range 16).map fun k=>if n.testBit k=true then 1 else 0):=⟨by simp,fun i hi=>by
 obtain⟨k,_,rfl⟩:=qBH.1 hi;have:=h.two;split<;>omega⟩
def qe2{d}(h:DagOk d)(b)(n:Nat){k}(a:k<16):qv d b ((List.range 16).map fun k=>if n.testBit k=true then 1 else 0) k=n.testBit k:=by
 unfold qv;have:((List.range 16).map fun k=>if n.testBit k=true then 1 else 0).getD k 0=if n.testBit k=true then 1 else 0:=by
  rw[qBw,qBO,qD6 a];rfl
 rw[this]
 cases n.testBit k with
 |true=>simpa using qeZ h b
 |false=>simpa using YG h b
def J0{d}(h:DagOk d)(b){n}(a:n<65536):zA (qv d b ((List.range 16).map fun k=>if n.testBit k=true then 1 else 0)) 16=n:=by
 rw[zB fun k c=>qe2 h b n c,Ya];exact qDw a
section
variable {c:Bc}{d:List Nd}{H:List Blk}{T:List (Option Nat)}
def qnH:List (Nat×Sch×List Nat):=[(5,.step 0 [5,4] (.step 1 [5,4] (.step 2 [5,4,3] (.step 3 [5,4] (.step 4 [5] (.step 5 [] (.done)))))),[4]),(11,.step 0 [13,12] (.step 1 [13,12,11] (.step 2 [13,12,11,4,3] (.step 3 [13,12,11,4] (.step 5 [13,12,11,10] (.step 6 [13,12,11,10] (.step 7 [13,12,11,10,9,8] (.step 8 [13,12,11,10,9] (.step 9 [13,12,11,10] (.fork (.cons 4 (.step 10 [13,12,11] (.step 11 [13,12] (.step 12 [13] (.step 13 [] (.done))))) (.cons 10 (.step 4 [13,12,11] (.step 11 [13,12] (.step 12 [13] (.step 13 [] (.done))))) (.nil)))))))))))),[10,11])]
def qfI(h:BX c H d H){X Y}(hX:zh d X)(hY:zh d Y)(up):
 qh prog (XG c) 299 [.ptr c.B 0,.agg (qD X),.agg (qD Y),.int .i64 (qis up)] ⟨H,T⟩ (BQ c d H fun b k=>decide (zA (qv d b Y) 16<16)&&shB up (qv d b X) (zA (qv d b Y) 16) k):=by
 refine qFE ⟨false,qnH,[],[]⟩ func299 ?_;have i1:=hX.1;have g7:=hY.1;have a:∀j,H.length<=j->j≠c.B:=fun j hj=>(h.at hj).1
 have b5:=yA 0 (by omega);rw[qgR]at b5;simp at b5;simp;refine qFG b5 ?_ rfl;simp[jK,zy (w:=zp) rfl (show(qD zp).length=16 from rfl),za];refine yu 16 (fun s ev σ=>ev 0=.ptr c.B 0/\ev 3=.int .i64 (qis up)/\ev 5=.ptr H.length 0/\ev 6=.ptr (H.length+1) 0/\ev 8=.ptr (H.length+2) 0/\ev 9=.ptr (H.length+3) 0/\ev 15=.int .i64 (s:Int) /\
  ∃ d' S,BX c H d' σ.H/\zi d d'/\zh d' S/\σ.H[H.length]?=some (.cells (qD X))/\σ.H[H.length+1]?=some (.cells (qD Y))/\σ.H[H.length+2]?=some (.cells (qD zp))/\σ.H[H.length+3]?=some (.cells (qD S)) /\
   ∀b k,k<16->qv d' b S k=(decide (zA (qv d b Y) 16<s)&&shB up (qv d b X) (zA (qv d b Y) 16) k)) ?_ ?_ ?_
 . exact⟨by simp,by simp,by simp,by simp,by simp,by simp,by simp,d,zp,h.app _,qGc d,wy h.ok,lk0,lk1,lk2,lk3,fun b k a=>by rw[kK h.ok];simp⟩
 . rintro s ev ⟨H1,T1⟩ R hR hs ⟨D,l,u,C,A,o,r,d1,S,F,K,J,c9,c1,b7,d6,hb⟩;have b9:=J.1;have hw:=wr (n:=(s:Int)+1);simp[r,show(s:Int)<16 by omega];rw[qG rfl];simp[*,qX,qs g7];refine qFG (yA s (by omega)) ?_ rfl;simp[qX];refine qFJ (qbf F.self (hY.grown K) (WJ F.ok s)) ?_;rintro v ⟨H2,T2⟩ ⟨V,t,rfl,d9,b1,ht,c8⟩;dsimp only at c8;have e2:=F.call d9;have a2:∀{k:Nat} {x:Blk},H.length<=k->H1[k]?=some x->H2[k]?=some x:=fun {k x} L U=>d9.loc U (a k L)
   have f2:∀b,evD V b t=decide (zA (qv d b Y) 16=s):=fun b=>by
    rw[c8,qbg,J0 F.ok b (by omega),wQ h.ok K hY b]
   simp[qX];refine yu 16 (fun i ev σ=>ev 0=.ptr c.B 0/\ev 3=.int .i64 (qis up)/\ev 5=.ptr H.length 0/\ev 6=.ptr (H.length+1) 0/\ev 8=.ptr (H.length+2) 0/\ev 9=.ptr (H.length+3) 0/\ev 10=.int .i64 (s:Int)/\ev 11=.int .i64 (t:Int)/\ev 15=.int .i64 (s:Int)/\ev 23=.int .i64 (i:Int) /\
    ∃ d' P,BX c H d' σ.H/\zi V d'/\zh d' P/\σ.H[H.length]?=some (.cells (qD X))/\σ.H[H.length+1]?=some (.cells (qD Y))/\σ.H[H.length+2]?=some (.cells (qD zp))/\σ.H[H.length+3]?=some (.cells (qD P)) /\
     ∀b k,k<16->qv d' b P k=(qv d1 b S k||(decide (k<i)&&(evD V b t&&shB up (qv d b X) s k)))) ?_ ?_ ?_
   . exact⟨by simp[D],by simp[l],by simp[u],by simp[C],by simp[A],by simp[o],by simp,by simp,by simp[r],by simp,V,S,e2,qGc V,J.grown b1,a2 (by omega) c9,a2 (by omega) c1,a2 (by omega) b7,a2 (by omega) d6,fun b k a=>by rw[zN F.ok b1 J b a];simp⟩
   . rintro i ev ⟨H3,T3⟩ R2 d8 hi ⟨D,l,u,C,A,o,M,a1,r,a7,d3,P,E,G,I,bX,bY,W,N,Q⟩;have g0:=I.1;have g2:=K.trans (b1.trans G);have c0:(i:Int)<16:=(by omega);have f7:i+1<=16:=hi;have b8:=wr (n:=(i:Int)+1);have h5:-16<qis up*(s:Int)/\qis up*(s:Int)<16:=(by unfold qis;cases up<;>simp<;>omega);have c2:=wr (n:=qis up*(s:Int));have b4:=wr (n:=(i:Int)-qis up*s);have a4:(i:Int)-qis up*s=YF up s i:=rfl;rw[a4]at b4;by_cases Z:0<=YF up s i/\YF up s i<16
     . obtain⟨m,hm,e1,g4⟩:=qsS hs hi Z;obtain⟨f5,f6⟩:=Z;obtain⟨x,g8,f1,f3⟩:=hX.getG h.ok g2 e1;obtain⟨p,e7,c4,_,f8⟩:=I.get hi;have h6:=z5 g8;have h7:=z5 e7;have g1:t<d3.length:=qBD ht G.len;have h8:m+1<=16:=e1;have h9:(m:Int)<16:=(by omega);rw[hm]at b4 f5 f6;rw[hm]at a4;simp[*];rw[qG rfl];simp[*,qX];have key:=Zq c E.self (f:=t) (g:=x) g1 f1 (T:=T3);refine⟨qFJ key ?_,qFJ key ?_⟩
       all_goals
        rintro v ⟨H4,T4⟩ ⟨d4,z,rfl,c7,O,hz,c5⟩;dsimp only at c5;have d0:=E.call c7;have c3:∀{k:Nat} {x:Blk},H.length<=k->H3[k]?=some x->H4[k]?=some x:=fun {k x} L U=>c7.loc U (a k L)
        have cS:=c3 (by omega) N;simp[*,qX];refine qFJ (qcE c d0.self (f:=p) (g:=z) (qBD c4 O.len) hz) ?_;rintro v ⟨H5,T5⟩ ⟨d5,y,rfl,c6,b6,hy,e4⟩;dsimp only at e4;have g3:=d0.call c6;have b2:∀{k:Nat} {x:Blk},H.length<=k->H3[k]?=some x->H5[k]?=some x:=fun {k x} L U=>c6.loc (c3 L U) (a k L)
        have d7:=b2 (by omega) N;have g9:=(qBk.1 d7).1;simp[qX,o,a7,c0,f7,d7,g0,kJ,b8];refine d8 _ _ ⟨by simp[D],by simp[l],by simp[u],by simp[C],by simp[A],by simp[o],by simp[M],by simp[a1],by simp[r],by simp,d5,P.set i y,g3.set (by omega) _,G.trans (O.trans b6),(I.grown (O.trans b6)).set hy,?_,?_,?_,qBo g9,fun b k a=>?_⟩
        . rw[qBn (by omega)];exact b2 (by omega) bX
        . rw[qBn (by omega)];exact b2 (by omega) bY
        . rw[qBn (by omega)];exact b2 (by omega) W
        rw[vh (by omega)];by_cases b0:k=i
        . subst b0;rw[if_pos rfl,e4,O.ev E.ok b c4,c5,<- f8,Q b k a,G.ev e2.ok b ht,f3,g4];simp
        rw[if_neg b0,zN E.ok (O.trans b6) I b a,Q b k a];by_cases h1:k<i
        . have h2:k<i+1:=(by omega);simp[*]
        have h2:¬k<i+1:=(by omega);simp[*]
     have f4:=qsT hs hi Z;have fin:∀e,e 0=.ptr c.B 0->e 3=.int .i64 (qis up)->e 5=.ptr H.length 0->e 6=.ptr (H.length+1) 0->e 8=.ptr (H.length+2) 0->e 9=.ptr (H.length+3) 0->e 10=.int .i64 (s:Int)->e 11=.int .i64 (t:Int)->e 15=.int .i64 (s:Int)->e 23=.int .i64 (((i+1:Nat)):Int)->R2 e ⟨H3,T3⟩:=fun e a0 a3 a5 a6 a8 a9 g5 f9 f0 g6=>
      d8 _ _ ⟨a0,a3,a5,a6,a8,a9,g5,f9,f0,g6,d3,P,E,G,I,bX,bY,W,N,fun b k a=>by
       rw[Q b k a];by_cases b0:k=i
       . subst b0;rw[f4];simp
       by_cases h1:k<i
       . have h2:k<i+1:=(by omega);simp[*]
       have h2:¬k<i+1:=(by omega);simp[*]⟩
     by_cases h0:0<=YF up s i
     . have h4:¬YF up s i<16:=fun h=>Z ⟨h0,h⟩
       simp[l,M,a7,c0,c2,a4,b4,h0,h4,b8];exact fin _ (by simp[D]) (by simp[l]) (by simp[u]) (by simp[C]) (by simp[A]) (by simp[o]) (by simp[M]) (by simp[a1]) (by simp[r]) (by simp)
     simp[l,M,a7,c0,c2,a4,b4,h0,b8];exact fin _ (by simp[D]) (by simp[l]) (by simp[u]) (by simp[C]) (by simp[A]) (by simp[o]) (by simp[M]) (by simp[a1]) (by simp[r]) (by simp)
   rintro ev ⟨H3,T3⟩ ⟨D,l,u,C,A,o,M,a1,r,a7,d3,P,E,G,I,bX,bY,W,N,Q⟩;simp[*];refine hR _ _ ⟨by simp[D],by simp[l],by simp[u],by simp[C],by simp[A],by simp[o],by simp,d3,P,E,K.trans (b1.trans G),I,bX,bY,W,N,fun b k a=>?_⟩;rw[Q b k a,hb b k a,f2 b];by_cases h1:zA (qv d b Y) 16=s
   . rw[h1];simp[a]
   by_cases h2:zA (qv d b Y) 16<s
   . have h3:zA (qv d b Y) 16<s+1:=(by omega);simp[*]
   have h3:¬zA (qv d b Y) 16<s+1:=(by omega);simp[*]
 rintro ev ⟨H1,T1⟩ ⟨D,l,u,C,A,o,r,d1,S,F,K,J,c9,c1,b7,d6,hb⟩;have b9:=J.1;have i0:=(qBk.1 b7).1;simp[*,-getElem?_pos,qs b9,zy b9 (show(qD zp).length=16 from rfl),za];exact⟨d1,S,rfl,F.set (by omega) _,K,J,hb⟩
end
def qqj(x:Nat):List Nat->Bool
 |a::b::r=>(decide (a<=x)&&decide (x<=b))||qqj x r
 |_=>false
def Wv{Ws:List (List Nat)}(h:∀w∈Ws,w.length=16):(Ws.flatMap qD).length=Ws.length*16:=by
 induction Ws with
 |nil=>rfl
 |cons a r ih=>rw[qBJ,qBp,jJ,h a (by simp),ih fun w b=>h w (by simp[b]),qBB];omega
def qdl:∀{Ws:List (List Nat)}{i:Nat}{w:List Nat},(∀w∈Ws,w.length=16)->Ws[i]?=some w->((Ws.flatMap qD).drop (i*16)).take 16=qD w
 |[],i,w,_,b=>by simp at b
 | a::r,0,w,h,b=>by
  simp at b;subst b;have c:=h a (by simp);rw[qBJ,qDa,qCG,qCv (by rw[jJ,c];exact qBs _),qs c]
 | a::r,i+1,w,h,b=>by
  have c:=h a (by simp);have d:(qD a).length=16:=by rw[jJ,c]
  have ih:=qdl (Ws:=r) (i:=i) (w:=w) (fun w b=>h w (by simp[b])) (by simpa using b);have e:(i+1)*16=16+i*16:=by omega
  rw[qBJ,e,qDd,qBZ (by omega),d,qBL,qCt,ih]
section
variable {c:Bc}{d:List Nd}{H:List Blk}{T:List (Option Nat)}
def qnO:List (Nat×Sch×List Nat):=[(5,.step 0 [9,8] (.step 1 [9,8,7] (.step 2 [9,8,7] (.step 3 [9,8,7,6,5] (.step 4 [9,8,7,6,5] (.step 5 [9,8,7,6] (.step 6 [9,8,7] (.step 7 [9,8] (.step 8 [9] (.step 9 [] (.done)))))))))),[7,8]),(6,.step 0 [10,9] (.step 1 [10,9,8] (.step 2 [10,9,8,6,5] (.step 3 [10,9,8,6,5,4] (.step 4 [10,9,8,6,5] (.step 5 [10,9,8,6] (.step 6 [10,9,8] (.step 7 [10,9,8] (.step 8 [10,9] (.step 9 [10] (.step 10 [] (.done))))))))))),[8,9])]
def qkZ(h:BX c H d H){X}(z:zh d X){A V}{Ws:List (List Nat)}(hV:V.length=16)(s:∀w∈Ws,zh d w)(hA:H[A]?=some (.cells (qD V++Ws.flatMap qD)))(M:A≠c.B)(hn:Ws.length<=1000):
 qh prog (XG c) 242 [.ptr c.B 0,.agg (qD X),.ms A 16 Ws.length 16] ⟨H,T⟩ (NQ c d H fun b=>qqj (zA (qv d b X) 16) (Ws.map fun w=>zA (qv d b w) 16)):=by
 refine qFE ⟨false,qnO,[],[]⟩ func242 ?_;have E:=z.1;have J:∀j,H.length<=j->j≠c.B:=fun j hj=>(h.at hj).1
 have b8:∀w∈Ws,w.length=16:=fun w r=>(s w r).1
 have o:(qD V++Ws.flatMap qD).length=16+Ws.length*16:=by rw[qBp,jJ,hV,Wv b8]
 have a6:∀{i:Nat} {w:List Nat},Ws[i]?=some w->((qD V++Ws.flatMap qD).drop (16+i*16)).take 16=qD w:=fun {i w} r=>by
  have F:(qD V).length=16:=by rw[jJ,hV]
  rw[qDd,qBZ (by omega),qBL,F,qCt];exact qdl b8 r
 have c2:∀{d':List Nd} {w:List Nat},zi d d'->w∈Ws->∀b,zA (qv d' b w) 16=zA (qv d b w) 16:=fun {d' w} a r b=>wQ h.ok a (s w r) b
 generalize hC:qD V++Ws.flatMap qD=C at *;simp;refine qFL (fun n ev σ=>ev 0=.ptr c.B 0/\ev 2=.ms A 16 Ws.length 16/\ev 4=.ptr H.length 0 /\
  ∃ i d' t,n=Ws.length+1-i/\i<=Ws.length/\ev 8=.int .i64 (i:Int)/\ev 7=.int .i64 (t:Nat)/\BX c H d' σ.H/\zi d d'/\t<d'.length/\σ.H[H.length]?=some (.cells (qD X))/\σ.H[A]?=some (.cells C) /\
   ∀b,(evD d' b t||qqj (zA (qv d b X) 16) ((Ws.drop i).map fun w=>zA (qv d b w) 16))=qqj (zA (qv d b X) 16) (Ws.map fun w=>zA (qv d b w) 16)) (Ws.length+1) ?_ ?_
 . exact⟨by simp,by simp,by simp,0,d,0,rfl,by omega,by simp,by simp,h.app _,qGc d,by have:=h.ok.two;omega,lk0,qa hA _,fun b=>by rw[YG h.ok];simp⟩
 rintro n ev ⟨H1,T1⟩ R hR ⟨Q,G,P,i,d1,t,rfl,hi,e,e7,y,a,O,bX,bA,F⟩;have f3:=wr (n:=(i:Int)+1);have e5:=wr (n:=(i:Int)+2);by_cases a1:i+1<Ws.length
 . have a7:(i:Int)+1<Ws.length:=(by omega);have b5:i<Ws.length:=(by omega);obtain⟨w0,Y⟩:∃w,Ws[i]?=some w:=⟨_,qBm b5⟩;obtain⟨N,L⟩:∃w,Ws[i+1]?=some w:=⟨_,qBm a1⟩;have m0:=qBl Y;have m1:=qBl L;have c0:=a6 Y;have c1:=a6 L;have b0:16+i*16+16<=C.length:=(by rw[o];omega);have b1:16+(i+1)*16+16<=C.length:=(by rw[o];omega);rw[o]at b0 b1;have f1:Ws.drop i=w0::N::Ws.drop (i+2):=by
    rw[qBE b5,qBE a1];obtain⟨_,q0⟩:=qBk.1 Y;obtain⟨_,q1⟩:=qBk.1 L;rw[q0,q1]
   simp[*];rw[qG rfl];simp[qX,Q,G,P,e,show(i:Int)<Ws.length by omega,bX,bA,E,qs E,o,b0,c0];refine qFJ (qa4 y.self (z.grown a) ((s w0 m0).grown a)) ?_;rintro v ⟨H2,T2⟩ ⟨d2,y2,rfl,U,f2,c7,b7⟩;dsimp only at b7;have a5:=y.call U;simp[qX,e];refine qFJ (Zo c a5.self c7) ?_;rintro v ⟨H3,T3⟩ ⟨d3,y3,rfl,I,f0,a8,a3⟩;dsimp only at a3;have K:=a5.call I;have cX:=I.loc (U.loc bX (J _ (qBs _))) (J _ (qBs _));have cA:=I.loc (U.loc bA M) M;have c6:=f2.trans f0;have D:=a.trans c6;simp[e];rw[qG rfl];simp[qX,Q,G,P,e,f3,a7,show(0:Int)<=(i:Int)+1 by omega,show((i:Int)+1).toNat=i+1 by omega,cX,cA,E,qs E,o,b1,c1];refine qFJ (qa4 K.self ((s N m1).grown D) (z.grown D)) ?_;rintro v ⟨H4,T4⟩ ⟨d4,y4,rfl,b4,d8,c9,a9⟩;dsimp only at a9;have c5:=K.call b4;simp[qX,e];refine qFJ (Zo c c5.self c9) ?_;rintro v ⟨H5,T5⟩ ⟨d5,y5,rfl,b2,d9,d0,c4⟩;dsimp only at c4;have a2:=c5.call b2;simp[*,qX];have S:=d8.trans d9;refine qFJ (Zq c a2.self (f:=y3) (g:=y5) (qBD a8 S.len) d0) ?_;rintro v ⟨H6,T6⟩ ⟨d6,y6,rfl,b6,e9,f4,Z⟩;dsimp only at Z;have b9:=a2.call b6;simp[e];have W:=c6.trans (S.trans e9);refine qFJ (qcE c b9.self (f:=t) (g:=y6) (qBD O W.len) f4) ?_;rintro v ⟨H7,T7⟩ ⟨d7,y7,rfl,c3,e3,e1,a4⟩;dsimp only at a4;have c8:=b9.call c3;have up:∀{k:Nat} {x:Blk},k≠c.B->H3[k]?=some x->H7[k]?=some x:=fun {k x} m hq=>c3.loc (b6.loc (b2.loc (b4.loc hq m) m) m) m
   simp[e,e5];refine hR (Ws.length+1-(i+2)) _ _ (by omega) ⟨by simp[Q],by simp[G],by simp[P],i+2,d7,y7,rfl,by omega,by simp,by simp,c8,a.trans (W.trans e3),e1,up (J _ (qBs _)) cX,up M cA,fun b=>?_⟩;rw[<- F b,f1];simp only[qBz,qqj];have a0:∀{d'},zi d d'->zA (qv d' b X) 16=zA (qv d b X) 16:=fun e6=>wQ h.ok e6 z b
   rw[a4,W.ev y.ok b O,Z,S.ev K.ok b a8,a3,b7,QT,a0 a,c2 a m0 b,c4,a9,QT,a0 D,c2 D m1 b];generalize zA (qv d b X) 16=u;generalize zA (qv d b w0) 16=v0;generalize zA (qv d b N) 16=v1;rw[show(!decide (u<v0))=decide (v0<=u) by rw[qCo];simp,show(!decide (v1<u))=decide (u<=v1) by rw[qCo];simp,Bool.or_assoc]
 have a7:¬(i:Int)+1<Ws.length:=by omega
 simp[*];refine⟨d1,t,rfl,y,a,O,fun b=>?_⟩;refine Eq.trans ?_ (F b);have:qqj (zA (qv d b X) 16) ((Ws.drop i).map fun w=>zA (qv d b w) 16)=false:=by
  have m:((Ws.drop i).map fun w=>zA (qv d b w) 16).length<=1:=by simp;omega
  generalize ((Ws.drop i).map fun w=>zA (qv d b w) 16)=l at m
  match l,m with
  |[],_=>rfl
  |[_],_=>rfl
 rw[this,Bool.or_false]
end
def qaR{d}(h:DagOk d)(b n):z7 d b (n::List.replicate 15 0)=b2i (evD d b n):=by
 unfold z7;rw[zB fun k _=>qge h b n k,qkx]
section
variable {c:Bc}{d:List Nd}{H:List Blk}{T:List (Option Nat)}
def qok(h:BX c H d H){X Y}(N:zh d X)(M:zh d Y)(op):
 qh prog (XG c) 300 [.ptr c.B 0,.int .i64 op,.agg (qD X),.agg (qD Y)] ⟨H,T⟩ (WQ c d H fun b=>b2i (if op=19 then Jv (qv d b X) 16&&Jv (qv d b Y) 16 else if op=20 then Jv (qv d b X) 16||Jv (qv d b Y) 16 else !Jv (qv d b X) 16||Jv (qv d b Y) 16)):=by
 refine qFF func300 ?_;have W:=N.1;have V:=M.1;have r:∀j,H.length<=j->j≠c.B:=fun j hj=>(h.at hj).1
 simp[jK];have Z:=h.app [.cells (qD X),.cells (qD Y),.cells (qD zp)];have bY:(H++[Blk.cells (qD X),.cells (qD Y),.cells (qD zp)])[H.length+1]?=some (.cells (qD Y)):=lk1;have bZ:(H++[Blk.cells (qD X),.cells (qD Y),.cells (qD zp)])[H.length+2]?=some (.cells (qD zp)):=lk2;generalize H++[Blk.cells (qD X),.cells (qD Y),.cells (qD zp)]=H1 at *;simp[W,qs W];refine qFJ (QJ Z.self N) ?_;rintro v ⟨H2,T2⟩ ⟨d2,s,rfl,J,L,S,a4⟩;have G:=Z.call J;have cY:=J.loc bY (r _ (by omega));have cZ:=J.loc bZ (r _ (by omega));simp[cY,V,qs V];refine qFJ (QJ G.self (M.grown L)) ?_;rintro v ⟨H3,T3⟩ ⟨A,t,rfl,O,F,D,P⟩;dsimp only at P;have w:=G.call O;have C:=O.loc cZ (r _ (by omega));dsimp only at C;have E:s<A.length:=qBD S F.len;have K:∀b,evD A b s=Jv (qv d b X) 16:=fun b=>by rw[F.ev G.ok b S,a4]
 have I:∀b,evD A b t=Jv (qv d b Y) 16:=fun b=>by
  rw[P,Ju,Ju,wQ h.ok L M b]
 have a2:=L.trans F;have fin:∀{H4:List Blk} {d4:List Nd} {u:Nat} {τ:St} {v:(Nat->Bool)->Bool},τ.H=H4.set (H.length+2) (.cells (qD (u::List.replicate 15 0)))->BX c H d4 H4->zi A d4->u<d4.length->(∀b,evD d4 b u=v b)->WQ c d H (fun b=>b2i (v b)) (.agg (qD (u::List.replicate 15 0))) τ:=fun {H4 d4 u τ v} hτ x e o hv=>by
  refine⟨d4,_,rfl,?_,a2.trans e,qcF x.ok o,fun b=>by rw[qaR x.ok,hv]⟩;rw[hτ];exact x.set (by omega) _
 have y:∀(u:Nat),(qD (u::List.replicate 15 0)).take 16=qD (u::List.replicate 15 0):=fun u=>qs rfl
 have z:∀(u:Nat),zC (qD zp) 0 (qD (u::List.replicate 15 0))=qD (u::List.replicate 15 0):=fun u=>zy rfl rfl
 simp only[List.reduceReplicate]at fin y z;by_cases Q:op=19
 . simp[Q];refine qFJ (Zq c w.self (f:=s) (g:=t) E D) ?_;rintro v ⟨H4,R⟩ ⟨d4,u,rfl,l,e,o,i⟩;dsimp only at i;have a:=l.loc C (r _ (by omega));have m:=(qBk.1 a).1;dsimp only at a m;simp;refine qFG (js u) ?_ rfl;simp[-getElem?_pos,a,za,z,m,y];exact fin rfl (w.call l) e o fun b=>by rw[i,K,I]
 by_cases a1:op=20
 . simp[a1];refine qFJ (qcE c w.self (f:=s) (g:=t) E D) ?_;rintro v ⟨H4,R⟩ ⟨d4,u,rfl,l,e,o,i⟩;dsimp only at i;have a:=l.loc C (r _ (by omega));have m:=(qBk.1 a).1;dsimp only at a m;simp;refine qFG (js u) ?_ rfl;simp[-getElem?_pos,a,za,z,m,y];exact fin rfl (w.call l) e o fun b=>by rw[i,K,I]
 simp[Q,a1];refine qFJ (Zo c w.self E) ?_;rintro v ⟨H4,R⟩ ⟨d4,q,rfl,l,e,hq,i⟩;dsimp only at i;have x:=w.call l;simp;refine qFJ (qcE c x.self (f:=q) (g:=t) hq (qBD D e.len)) ?_;rintro v ⟨H5,T5⟩ ⟨d5,u,rfl,U,a3,o,a0⟩;dsimp only at a0;have a:=U.loc (l.loc C (r _ (by omega))) (r _ (by omega));have m:=(qBk.1 a).1;dsimp only at a m;simp;refine qFG (js u) ?_ rfl;simp[-getElem?_pos,a,za,z,m,y];exact fin rfl (x.call U) (e.trans a3) o fun b=>by rw[a0,i,K,e.ev w.ok b D,I]
end
def qxL(op a b:Int):Int:=if op=15 then b2i (decide (a=b)) else if op=16 then b2i (!decide (a=b)) else if op=17 then b2i (decide (a<b)) else b2i (decide (a<=b))
section
variable {c:Bc}{d:List Nd}{H:List Blk}{T:List (Option Nat)}
def qqu{d b X Y}:eqT (qv d b X) (qv d b Y) 16=decide (z7 d b X=z7 d b Y):=by
 rw[qbg,qCo,decide_eq_true_iff,decide_eq_true_iff];unfold z7;omega
def qgn{d b X Y}:qeE (qv d b X) (qv d b Y) 16=decide (z7 d b X<z7 d b Y):=by
 rw[QT,qCo,decide_eq_true_iff,decide_eq_true_iff];unfold z7;omega
def qbl(h:BX c H d H){X Y}(s:zh d X)(x:zh d Y)(op):
 qh prog (XG c) 301 [.ptr c.B 0,.int .i64 op,.agg (qD X),.agg (qD Y)] ⟨H,T⟩ (WQ c d H fun b=>qxL op (z7 d b X) (z7 d b Y)):=by
 refine qFF func301 ?_;have A:=s.1;have z:=x.1;have r:∀j,H.length<=j->j≠c.B:=fun j K=>(h.at K).1
 simp[jK];have m:=h.app [.cells (qD X),.cells (qD Y),.cells (qD zp)];have S:(H++[Blk.cells (qD X),.cells (qD Y),.cells (qD zp)])[H.length]?=some (.cells (qD X)):=lk0;have V:(H++[Blk.cells (qD X),.cells (qD Y),.cells (qD zp)])[H.length+1]?=some (.cells (qD Y)):=lk1;have y:(H++[Blk.cells (qD X),.cells (qD Y),.cells (qD zp)])[H.length+2]?=some (.cells (qD zp)):=lk2;generalize H++[Blk.cells (qD X),.cells (qD Y),.cells (qD zp)]=U at *;have fin:∀{H4:List Blk} {d4:List Nd} {u:Nat} {τ:St} {v:(Nat->Bool)->Int},τ.H=H4.set (H.length+2) (.cells (qD (u::List.replicate 15 0)))->BX c H d4 H4->zi d d4->u<d4.length->(∀b,b2i (evD d4 b u)=v b)->WQ c d H v (.agg (qD (u::List.replicate 15 0))) τ:=fun {H4 d4 u τ v} N i l g R=>by
  refine⟨d4,_,rfl,?_,l,qcF i.ok g,fun b=>by rw[qaR i.ok,R]⟩;rw[N];exact i.set (by omega) _
 have M:∀(u:Nat),(qD (u::List.replicate 15 0)).take 16=qD (u::List.replicate 15 0):=fun u=>qs rfl
 have I:∀(u:Nat),zC (qD zp) 0 (qD (u::List.replicate 15 0))=qD (u::List.replicate 15 0):=fun u=>zy rfl rfl
 simp at fin M I;by_cases J:op=15
 . simp[*,qs A,qs z];refine qFJ (qbf m.self s x) ?_;rintro v ⟨H4,E⟩ ⟨d4,u,rfl,e,l,g,a⟩;dsimp only at a;have f:=e.loc y (r _ (by omega));have o:=(qBk.1 f).1;dsimp only at f o;simp;refine qFG (js u) ?_ rfl;simp[*,-getElem?_pos,za];exact fin rfl (m.call e) l g fun b=>by rw[a,qqu];rfl
 by_cases P:op=16
 . simp[*,qs A,qs z];refine qFJ (qbf m.self s x) ?_;rintro v ⟨H4,E⟩ ⟨d4,u,rfl,e,l,g,a⟩;dsimp only at a;have i:=m.call e;simp;refine qFJ (Zo c i.self g) ?_;rintro v ⟨O,L⟩ ⟨Q,C,rfl,t,F,D,w⟩;dsimp only at w;have f:=t.loc (e.loc y (r _ (by omega))) (r _ (by omega));have o:=(qBk.1 f).1;dsimp only at f o;simp;refine qFG (js C) ?_ rfl;simp[*,-getElem?_pos,za];exact fin rfl (i.call t) (l.trans F) D fun b=>by rw[w,a,qqu];rfl
 by_cases G:op=17
 . simp[*,qs A,qs z];refine qFJ (qa4 m.self s x) ?_;rintro v ⟨H4,E⟩ ⟨d4,u,rfl,e,l,g,a⟩;dsimp only at a;have f:=e.loc y (r _ (by omega));have o:=(qBk.1 f).1;dsimp only at f o;simp;refine qFG (js u) ?_ rfl;simp[*,-getElem?_pos,za];exact fin rfl (m.call e) l g fun b=>by rw[a,qgn];rfl
 simp[*,qs A,qs z];refine qFJ (qa4 m.self x s) ?_;rintro v ⟨H4,E⟩ ⟨d4,u,rfl,e,l,g,a⟩;dsimp only at a;have i:=m.call e;simp;refine qFJ (Zo c i.self g) ?_;rintro v ⟨O,L⟩ ⟨Q,C,rfl,t,F,D,w⟩;dsimp only at w;have f:=t.loc (e.loc y (r _ (by omega))) (r _ (by omega));have o:=(qBk.1 f).1;dsimp only at f o;simp;refine qFG (js C) ?_ rfl;simp[*,-getElem?_pos,za];exact fin rfl (i.call t) (l.trans F) D fun b=>by
  rw[w,a,qgn];unfold qxL;rw[if_neg J,if_neg P,if_neg G];congr 1;rw[qCo];simp
def qeA{a b V x y c}(h:∀k,k<16->qv a b V k=qpO x y c k):z7 a b V=(((zA x 16+zA y 16+b2n c)%2^16:Nat):Int):=by
 unfold z7;rw[zB h,<- wB];rfl
def qsi{d a b V X Y}(h:∀k,k<16->qv a b V k=(decide (zA (qv d b Y) 16<16)&&shB true (qv d b X) (zA (qv d b Y) 16) k)):z7 a b V=jW 13 (z7 d b X) (z7 d b Y):=by
 rw[show jW 13 (z7 d b X) (z7 d b Y)=if 0<=z7 d b Y/\z7 d b Y<16 then qB (z7 d b X*2^(z7 d b Y).toNat) else 0 by simp[jW]];by_cases e:zA (qv d b Y) 16<16
 . rw[if_pos ⟨by unfold z7;omega,by unfold z7;omega⟩];have:z7 a b V=((zA (qv d b X) 16*2^zA (qv d b Y) 16%2^16:Nat):Int):=by
    unfold z7;rw[<- qjq,zB fun k c=>by rw[h k c,decide_eq_true e,qCC,shB,if_pos rfl]]
   rw[this,qx6];rfl
 rw[if_neg (by unfold z7;omega)];unfold z7;rw[kZ fun k c=>by rw[h k c,decide_eq_false e];rfl];rfl
def qsh{d a b V X Y}(h:∀k,k<16->qv a b V k=(decide (zA (qv d b Y) 16<16)&&shB false (qv d b X) (zA (qv d b Y) 16) k)):z7 a b V=jW 14 (z7 d b X) (z7 d b Y):=by
 rw[show jW 14 (z7 d b X) (z7 d b Y)=if 0<=z7 d b Y/\z7 d b Y<16 then qB (z7 d b X)/2^(z7 d b Y).toNat else 0 by simp[jW]];by_cases e:zA (qv d b Y) 16<16
 . rw[if_pos ⟨by unfold z7;omega,by unfold z7;omega⟩];have:z7 a b V=((zA (qv d b X) 16/2^zA (qv d b Y) 16:Nat):Int):=by
    unfold z7;rw[<- qjr,zB fun k c=>by rw[h k c,decide_eq_true e,qCC,shB,if_neg (by simp)]]
   rw[this,qx5];rfl
 rw[if_neg (by unfold z7;omega)];unfold z7;rw[kZ fun k c=>by rw[h k c,decide_eq_false e];rfl];rfl
def ql2(h:BX c H d H){X Y}(r:zh d X)(t:zh d Y){op}(h7:7<=op)(a1:op<=21):
 qh prog (XG c) 246 [.ptr c.B 0,.int .i64 op,.agg (qD X),.agg (qD Y)] ⟨H,T⟩ (WQ c d H fun b=>jW op (z7 d b X) (z7 d b Y)):=by
 refine qFF func246 ?_;have P:=r.1;have O:=t.1;have L:∀j,H.length<=j->j≠c.B:=fun j J=>(h.at J).1
 simp[jK];have s:=h.app [.cells (qD X),.cells (qD Y),.cells (qD zp)];have bY:(H++[Blk.cells (qD X),.cells (qD Y),.cells (qD zp)])[H.length+1]?=some (.cells (qD Y)):=lk1;have I:(H++[Blk.cells (qD X),.cells (qD Y),.cells (qD zp)])[H.length+2]?=some (.cells (qD zp)):=lk2;generalize H++[Blk.cells (qD X),.cells (qD Y),.cells (qD zp)]=o at *;have fin:∀{H4:List Blk} {d4:List Nd} {V:List Nat} {τ:St} {v:(Nat->Bool)->Int},τ.H=H4.set (H.length+2) (.cells (qD V))->BX c H d4 H4->zi d d4->zh d4 V->(∀b,z7 d4 b V=v b)->WQ c d H v (.agg (qD V)) τ:=fun {H4 d4 V τ v} Q S w i m=>by
  refine⟨d4,_,rfl,?_,w,i,m⟩;rw[Q];exact S.set (by omega) _
 have ht:=h.ok.two;have u:∀op T,15<=op/\op<=18->qh prog (XG c) 301 [.ptr c.B 0,.int .i64 op,.agg (qD X),.agg (qD Y)] ⟨o,T⟩ (WQ c d o fun b=>jW op (z7 d b X) (z7 d b Y)):=fun op T U=>by
  have:=qbl s.self r t op (T:=T);have e:(fun b=>qxL op (z7 d b X) (z7 d b Y))=fun b=>jW op (z7 d b X) (z7 d b Y):=by
   funext b;obtain rfl|rfl|rfl|rfl:op=15\/op=16\/op=17\/op=18:=by omega
   all_goals simp[qxL,jW]
  rwa[e]at this
 have z:∀op T,19<=op/\op<=21->qh prog (XG c) 300 [.ptr c.B 0,.int .i64 op,.agg (qD X),.agg (qD Y)] ⟨o,T⟩ (WQ c d o fun b=>jW op (z7 d b X) (z7 d b Y)):=fun op T U=>by
  have:=qok s.self r t op (T:=T);have e:(fun b=>b2i (if op=19 then Jv (qv d b X) 16&&Jv (qv d b Y) 16 else if op=20 then Jv (qv d b X) 16||Jv (qv d b Y) 16 else !Jv (qv d b X) 16||Jv (qv d b Y) 16))=fun b=>jW op (z7 d b X) (z7 d b Y):=by
   funext b;rw[Qc,Qc];obtain rfl|rfl|rfl:op=19\/op=20\/op=21:=by omega
   all_goals simp[jW,z7]
  rwa[e]at this
 have M:=(qfE s.self r t (cn:=0) (T:=T) (by omega)).imp (Q':=WQ c d o fun b=>jW 7 (z7 d b X) (z7 d b Y)) (fun v σ ⟨d4,V,e,f,l,i,m⟩=>⟨d4,V,e,f,l,i,fun b=>by
  rw[qeA (m b),YG h.ok,<- wB,qx9];rfl⟩)
 have k8:=(Jp s.self r t (T:=T)).imp (Q':=WQ c d o fun b=>jW 8 (z7 d b X) (z7 d b Y)) (fun v σ ⟨d4,V,e,f,l,i,m⟩=>⟨d4,V,e,f,l,i,fun b=>by
  rw[qeA (m b),<- wB,quj];rfl⟩)
 have k9:=(qhU s.self r t (T:=T)).imp (Q':=WQ c d o fun b=>jW 9 (z7 d b X) (z7 d b Y)) (fun v σ ⟨d4,V,e,f,l,i,m⟩=>⟨d4,V,e,f,l,i,fun b=>by
  have G:=m b;dsimp only at G;unfold z7;rw[G,qcL,qx7];rfl⟩)
 have a3:=(YW s.self r t (T:=T) (g:=295) (first:=[.ptr c.B 0]) (cap:=[]) (F:=fun _ p q=>p&&q) (fun D o C x y f l a b=>Zq c f.self a b)).imp (Q':=WQ c d o fun b=>jW 10 (z7 d b X) (z7 d b Y)) (fun v σ ⟨d4,V,e,f,l,i,m⟩=>⟨d4,V,e,f,l,i,fun b=>by
  unfold z7;rw[zB (m b),qmW];rfl⟩)
 have a4:=(YW s.self r t (T:=T) (g:=234) (first:=[.ptr c.B 0]) (cap:=[]) (F:=fun _ p q=>p||q) (fun D o C x y f l a b=>qcE c f.self a b)).imp (Q':=WQ c d o fun b=>jW 11 (z7 d b X) (z7 d b Y)) (fun v σ ⟨d4,V,e,f,l,i,m⟩=>⟨d4,V,e,f,l,i,fun b=>by
  unfold z7;rw[zB (m b),qrd];rfl⟩)
 have a8:=(YW s.self r t (T:=T) (g:=298) (first:=[.ptr c.B 0]) (cap:=[]) (F:=fun _ p q=>p ^^ q) (fun D o C x y f l a b=>qbO c f.self a b)).imp (Q':=WQ c d o fun b=>jW 12 (z7 d b X) (z7 d b Y)) (fun v σ ⟨d4,V,e,f,l,i,m⟩=>⟨d4,V,e,f,l,i,fun b=>by
  unfold z7;rw[zB (m b),qmV];rfl⟩)
 have K:=(qfI s.self r t true (T:=T)).imp (Q':=WQ c d o fun b=>jW 13 (z7 d b X) (z7 d b Y)) (fun v σ ⟨d4,V,e,f,l,i,m⟩=>⟨d4,V,e,f,l,i,fun b=>qsi (m b)⟩);have Z:=(qfI s.self r t false (T:=T)).imp (Q':=WQ c d o fun b=>jW 14 (z7 d b X) (z7 d b Y)) (fun v σ ⟨d4,V,e,f,l,i,m⟩=>⟨d4,V,e,f,l,i,fun b=>qsh (m b)⟩);have a5:=u 15 T (by omega);have a6:=u 16 T (by omega);have a2:=u 17 T (by omega);have a0:=u 18 T (by omega);have a7:=z 19 T (by omega);have b0:=z 20 T (by omega);have a9:=z 21 T (by omega);simp at M K Z;have R:op=7\/op=8\/op=9\/op=10\/op=11\/op=12\/op=13\/op=14\/op=15\/op=16\/op=17\/op=18\/op=19\/op=20\/op=21:=by omega
 rcases R with rfl|rfl|rfl|rfl|rfl|rfl|rfl|rfl|rfl|rfl|rfl|rfl|rfl|rfl|rfl
 all_goals
  simp[*,qs P,qs O];refine qFJ (by assumption) ?_;rintro v ⟨H4,T4⟩ ⟨d4,V,rfl,E,w,i,N⟩;have W:=E.loc I (L _ (by omega));have hl:=(qBk.1 W).1;have A:=i.1;simp[*,-getElem?_pos,za,zy A (show(qD zp).length=16 from rfl),qs A];exact fin rfl (s.call E) w i N
end
def Ye(q:Str×AV×Nat):AV×AV×Nat:=(.str q.1,q.2.1,q.2.2)
def ZU{s:Str}:∀(E:List (Str×AV×Nat)) (k:Nat),(jQ (.str s) (E.map Ye) k=some none/\∀q∈E,q.1≠s)\/∃j q,E[j]?=some q/\q.1=s/\jQ (.str s) (E.map Ye) k=some (some (k+j,q.2.1))
 |[],k=>.inl ⟨rfl,by simp⟩
 | e::E,k=>by
  by_cases h:s=e.1
  . right;refine⟨0,e,rfl,h.symm,?_⟩;simp[jQ,Ye,Zg,h]
  have h':(s==e.1)=false:=by simpa using h
  rcases ZU (s:=s) E (k+1) with⟨h1,h2⟩|⟨j,q,h1,h2,b⟩
  . left;refine⟨by simp[jQ,Ye,Zg,h'];simpa[Ye] using h1,fun q a=>?_⟩;rcases qBN.1 a with rfl|a
    . exact fun e=>h e.symm
    exact h2 q a
  right;refine⟨j+1,q,by simpa using h1,h2,?_⟩;simp only[qBz,Ye,jQ,Zg,h'];have:k+(j+1)=k+1+j:=by omega
  rw[this];exact b
def v9(vs:List Var):List (Str×AV×Nat):=vs.zipIdx.map fun q=>(q.1.name,.int .i64 (q.2:Int),q.2)
def v8(vs:List Var):Blk:=.map ((v9 vs).map Ye) vs.length
def qft{vs:List Var}{j:Nat}{q:Str×AV×Nat}(h:(v9 vs)[j]?=some q):∃v,vs[j]?=some v/\q=(v.name,.int .i64 (j:Int),j):=by
 unfold v9 at h;rw[qBO,qD0]at h
 cases hv:vs[j]? with
 |none=>rw[hv]at h;simp at h
 |some v=>rw[hv]at h;simp at h;exact⟨v,rfl,h.symm⟩
def qfs{vs}(g:(vs.map (·.name)).Nodup){i v}(f:vs[i]?=some v)(k):jQ (.str v.name) ((v9 vs).map Ye) k=some (some (k+i,.int .i64 (i:Int))):=by
 rcases ZU (s:=v.name) (v9 vs) k with⟨_,h2⟩|⟨j,q,h1,h2,o⟩
 . exfalso;have r:(v.name,AV.int .i64 (i:Int),i)∈v9 vs:=qBH.2 ⟨(v,i),qBl (i:=i) (by rw[qD0,f];simp),rfl⟩;exact h2 _ r rfl
 obtain⟨w,m,rfl⟩:=qft h1;have l:j=i:=by
  obtain⟨a,c⟩:=qBk.1 m;obtain⟨b,d⟩:=qBk.1 f;have h2:w.name=v.name:=h2;have e:=qC2.1 g;rcases Nat.lt_trichotomy j i with h|h|h
  . exact absurd (by rw[qC1,qC1,c,d,h2]) (e j i (by simpa using a) (by simpa using b) h)
  . exact h
  exact absurd (by rw[qC1,qC1,c,d,h2]) (e i j (by simpa using b) (by simpa using a) h)
 subst l;exact o
structure PB(p)(lv:List Int)(c:Bc):Prop where
 rest:c.rest=qw p++[.sl 1 (lv.map qf) .none,.map c.M]
 mp:c.mp=v8 p.vars
 len:lv.length=p.vars.length
 few:p.vars.length<=1000
 vars:∀v∈p.vars,jS v=0
 nodup:(p.vars.map (·.name)).Nodup
 lev:∀(i:Nat) (v:Var) (l:Int),p.vars[i]?=some v->lv[i]?=some l->v.mode≠0->0<=l/\l+v.width<=20
def qjt(v:Var)(l:Int)(b:Nat->Bool):Int:=if v.mode=0 then v.value else(zA (fun k=>b (l.toNat+v.width.toNat-1-k)) v.width.toNat:Nat)
def qam{v}(h:jS v=0):0<=v.value/\v.value<65536:=by
 unfold jS at h;split at h
 . cases h
 split at h
 . cases h
 rename_i a;have:(2:Int)^v.width.toNat<=2^8:=by
  have:v.width.toNat<=8:=by omega
  have h2:(2:Nat)^v.width.toNat<=2^8:=qBF (by omega) this;simpa using Int.ofNat_le.2 h2
 omega
def qd4{vs:List Var}{m σ}(a:σ.H[m]?=some (v8 vs))(b:(vs.map (·.name)).Nodup){i:Nat}{v:Var}(c:vs[i]?=some v):zF (Dof prog) σ 216 (.map m) (.str v.name) false=some (.int .i64 (i:Int)):=by
 have:=qfs b c 0;unfold v8 at a;generalize (v9 vs).map Ye=E at *;simp[*,zF,zI]
def qhv{w}(f):∀{n:Nat},w<=n->zA (fun j=>decide (j<w)&&f j) n=zA f w:=fun {n} h=>by
 apply qDh;intro i;rw[ze,ze];by_cases h1:i<w
 . have:i<n:=by omega
   simp[*]
 simp[h1]
section
variable {c:Bc}{d:List Nd}{H:List Blk}{T:List (Option Nat)}
def qnR:List (Nat×Sch×List Nat):=[(9,.step 0 [25,24] (.step 1 [25,24,23] (.step 2 [25,24,23,22,21,20,19,5,4,3] (.step 3 [25,24,23,22,21,20,19,5,4] (.step 4 [25,24,23,22,21,20,19,5] (.step 5 [25,24,23,22,21,20,19] (.step 6 [25,24,23,22,21,20,19,18,16,15,12,11,9,8,7] (.step 7 [25,24,23,22,21,20,19,18,16,15,12,11,9,8] (.step 8 [25,24,23,22,21,20,19,18,16,15,12,11,9] (.step 9 [25,24,23,22,21,20,19,18,16,15,12,11] (.step 10 [25,24,23,22,21,20,19,18,16,15,12,11] (.step 11 [25,24,23,22,21,20,19,18,16,15,12] (.step 12 [25,24,23,22,21,20,19,18,16,15] (.step 13 [25,24,23,22,21,20,19,18,16,15,14] (.step 14 [25,24,23,22,21,20,19,18,16,15] (.step 15 [25,24,23,22,21,20,19,18,16] (.step 16 [25,24,23,22,21,20,19,18] (.step 17 [25,24,23,22,21,20,19,18] (.step 18 [25,24,23,22,21,20,19] (.step 19 [25,24,23,22,21,20] (.step 20 [25,24,23] (.step 21 [25,24,23] (.step 22 [25,24,23] (.step 23 [25,24] (.step 24 [25] (.step 25 [] (.done)))))))))))))))))))))))))),[19,23])]
def qd1(h:BX c H d H){p:Problem}{lv:List Int}(e:PB p lv c){i:Nat}{v:Var}{l:Int}(s:p.vars[i]?=some v)(E:lv[i]?=some l):
 qh prog (XG c) 236 [.ptr c.B 0,.str v.name] ⟨H,T⟩ (WQ c d H fun b=>qjt v l b):=by
 refine qFE ⟨false,qnR,[],[]⟩ func236 ?_;have hk:∀j,H.length<=j->j≠c.B:=fun j o=>(h.at o).1
 obtain⟨tok,hb⟩:=h.b;have hm:=h.m;rw[e.rest]at hb;rw[e.mp]at hm;have b6:=fun(u:List Blk) (T:List (Option Nat))=>qd4 (σ:=⟨H++u,T⟩) (qa hm u) e.nodup s
 have a1:=e.vars v (qBl s);have d0:=zb a1;have a8:=qam a1;have d4:=(qBk.1 s).1;have d3:i<lv.length:=by rwa[e.len]
 simp only[qw,qBV,qBL]at hb;simp[qa hb,b6,s,jK];by_cases r:v.mode=0
 . have hc:=yA v.value.toNat (by omega);rw[Int.toNat_of_nonneg a8.1]at hc;have G:((List.range 16).map fun k=>if v.value.toNat.testBit k=true then 1 else 0).length=16:=(by simp);have c1:=WJ h.ok v.value.toNat;have a6:=fun b=>J0 h.ok b (n:=v.value.toNat) (by omega)
   generalize ((List.range 16).map fun k=>if v.value.toNat.testBit k=true then 1 else 0)=V at *;simp[r];refine qFG hc ?_ rfl;simp[G,qs G,zy G (show(qD zp).length=16 from rfl),za];refine⟨d,V,rfl,h.app _,qGc d,c1,fun b=>?_⟩;unfold z7 qjt;dsimp only;rw[if_pos r,a6 b];omega
 have d5:=e.lev i v l s E r;have A:v.width=(v.width.toNat:Int):=by omega
 have b0:l=(l.toNat:Int):=by omega
 generalize b4:v.width.toNat=w at *;generalize b8:l.toNat=L at *;have b5:lv[i]?=some (L:Int):=by rw[E,b0]
 simp[r,A];refine yu w (fun k ev σ=>ev 0=.ptr c.B 0/\ev 4=.ptr H.length 0/\ev 5=.int .i64 (i:Int)/\ev 6=.ptr (H.length+1) 0/\ev 7=.ptr (H.length+2) 0/\ev 30=.int .i64 (w:Int)/\ev 31=.int .i64 (k:Int) /\
  ∃ d' W,BX c H d' σ.H/\zi d d'/\zh d' W/\σ.H[H.length]?=some (.cells (qD zp))/\σ.H[H.length+1]?=some (.cells (qu v))/\σ.H[H.length+2]?=some (.cells (qD W)) /\
   ∀b j,j<16->qv d' b W j=(decide (j<k)&&b (L+w-1-j))) ?_ ?_ ?_
 . refine⟨by simp,by simp,by simp,by simp,by simp,by simp,by simp,d,zp,h.app _,qGc d,wy h.ok,lk0,?_,lk2,fun b j o=>by rw[kK h.ok];simp⟩;have:=lk1 (H:=H) (p:=Blk.cells (qD zp)) (q:=Blk.cells (qu v)) (t:=[.cells (qD zp)]);simp only[qu,A]at this⊢;exact this
 . rintro k ev ⟨S,Z⟩ R hR d6 ⟨O,Y,U,N,C,P,K,z,W,a,M,f,y,D,F,X⟩;obtain⟨t1,J⟩:=a.b;rw[e.rest]at J;simp only[qw,qBV,qBL]at J;simp only[qu,A]at D;have g:=f.1;have c3:k<16:=(by omega);have c8:k+1<=16:=c3;have b1:=wr (n:=(k:Int)+1);have c4:=wr (n:=(L:Int)+w);have a7:=wr (n:=(L:Int)+w-1);have a4:=wr (n:=(L:Int)+w-1-k);have a3:(L:Int)+w-1-k=((L+w-1-k:Nat):Int):=(by omega);rw[a3]at a4;have c5:=fun T=>(qwh z a.ok (L+w-1-k) (by omega) S T).leq (args:=[.agg [.sl 3 (z.map qU) t1],.int .i64 ((L+w-1-k:Nat):Int)]) (by simp[zl,Leq,qFP])
   generalize b7:L+w-1-k=LL at *;simp[*,show(k:Int)<w by omega];rw[qG rfl];simp[qX,O,U,N,J,D,b5,c4,a7,a3,a4];refine qFJ (c5 Z).glo ?_;rintro v2 ⟨H2,T2⟩ ⟨a5,rfl|⟨d2,i2,t2,rfl,I,b9,a9,c9,c2⟩⟩
   . simp[qX];exact qFJ (w6 c (Q:=fun _ _=>False) (a.same a5).kp0 _ _) fun _ _ h=>h.elim
   simp[qX];refine qFJ (JM c (a.self.same a5) b9 i2 _) ?_;rintro v3 ⟨H3,T3⟩ ⟨rfl,a2⟩;have b2:=a.call a2;have up:∀{k:Nat} {x:Blk},H.length<=k->S[k]?=some x->H3[k]?=some x:=fun {k x} E hq=>a2.loc hq (hk k E)
   have cW:=up (by omega) F;have c7:=(qBk.1 cW).1;have c6:k<W.length:=(by omega);simp[qX,C,K,cW,g,show(k:Int)<16 by omega,c8,kJ,b1];refine hR _ _ ⟨by simp[O],by simp[Y],by simp[U],by simp[N],by simp[C],by simp[P],by simp,d2,W.set k i2,b2.set (by omega) _,M.trans I,(f.grown I).set a9,?_,?_,qBo c7,fun b j o=>?_⟩
   . rw[qBn (by omega)];exact up (by omega) y
   . rw[qBn (by omega)];have:=up (by omega) D;simp only[qu,A]at this⊢;exact this
   rw[vh c6];by_cases a0:j=k
   . subst a0;rw[if_pos rfl,c2 b,b7]
     cases hbb:b LL with
     |true=>simp[qeZ a.ok]
     |false=>simp[YG a.ok]
   rw[if_neg a0,zN a.ok I f b o,X b j o];by_cases h1:j<k
   . have h2:j<k+1:=(by omega);simp[*]
   have h2:¬j<k+1:=(by omega);simp[*]
 rintro ev ⟨S,Z⟩ ⟨O,Y,U,N,C,P,K,z,W,a,M,f,y,D,F,X⟩;have g:=f.1;have c0:=(qBk.1 y).1;simp[-getElem?_pos,Y,C,P,K,F,y,g,qs g,zy g (show(qD zp).length=16 from rfl),za,c0];refine⟨z,W,rfl,a.set (by omega) _,M,f,fun b=>?_⟩;unfold z7 qjt;dsimp only;rw[if_neg r,b4,b8,zB (X b),qhv _ (by omega)]
end
def Zi(vs:List Var)(lv:List Int)(b:Nat->Bool):List Int:=(vs.zip lv).map fun q=>qjt q.1 q.2 b
def Ka{vs lv}(h:lv.length=vs.length)(b):(Zi vs lv b).length=vs.length:=by simp[Zi,h]
def qfg{vs:List Var}{lv:List Int}{i:Nat}{v:Var}{l:Int}(c:vs[i]?=some v)(a:lv[i]?=some l)(b:Nat->Bool):(Zi vs lv b)[i]?=some (qjt v l b):=by
 unfold Zi;rw[qBO,qCA (z:=(v,l)) |>.2 ⟨c,a⟩];rfl
def Qw:∀{vs:List Var}{a:List Int}{i:Nat}{v:Var}{x:Int},(vs.map (·.name)).Nodup->vs[i]?=some v->a[i]?=some x->ji ((vs.zip a).map fun q=>⟨q.1.name,q.2⟩) v.name=some (qB x)
 |[],_,i,v,x,_,b,_=>by simp at b
 |w::vs,[],i,v,x,_,_,c=>by simp at c
 | w::vs,y::a,0,v,x,d,b,c=>by
  simp at b c;subst b c;simp[ji]
 | w::vs,y::a,i+1,v,x,d,b,c=>by
  simp only[qBz,qC7]at d;have ih:=Qw (vs:=vs) (a:=a) (i:=i) (v:=v) (x:=x) d.2 (by simpa using b) (by simpa using c);have g:¬w.name=v.name:=fun e=>d.1 (qBH.2 ⟨v,qBl (i:=i) (by simpa using b),e.symm⟩)
  have f:(w.name==v.name)=false:=by simpa using g
  unfold ji at ih⊢;simp only[qEI,qBz,qDS,f];exact ih
def qhw{v}(h:jS v=0)(l b):0<=qjt v l b/\qjt v l b<=65535:=by
 have h1:=qam h;have h2:=zb h;unfold qjt;split
 . omega
 have:=wa (fun k=>b (l.toNat+v.width.toNat-1-k)) v.width.toNat;have a:2^v.width.toNat<=2^8:=qBF (by omega) (by omega);omega
def qlu{p:Problem}{lv:List Int}(f:lv.length=p.vars.length)(d:(p.vars.map (·.name)).Nodup)(e:∀v∈p.vars,jS v=0){i:Nat}{v:Var}{l:Int}(a:p.vars[i]?=some v)(c:lv[i]?=some l)(b:Nat->Bool):
 (ji (ke p.vars (Zi p.vars lv b)) v.name).getD 0=qjt v l b:=by
 have h1:=Qw d a (qfg a c b);unfold ke;rw[if_pos (Ka f b),h1];have h2:=qhw (e v (qBl a)) l b;exact QF h2.1 h2.2
def KU{V}(b:V.length=16):∀{Ws:List (List Nat)}{i:Nat},(∀w∈Ws,w.length=16)->i<Ws.length->zC (Ws.flatMap qD) (i*16) (qD V)=(Ws.set i V).flatMap qD
 |[],i,_,h=>by simp at h
 | a::r,0,h,_=>by
  rw[qBJ,qDa,qEH,qBJ];exact vm _ _ _ (by rw[jJ,jJ,h a (by simp),b])
 | a::r,i+1,h,hi=>by
  have e:i<r.length:=by simpa using hi
  rw[qBJ,qEc,qBJ,<- KU b (Ws:=r) (i:=i) (fun w d=>h w (by simp[d])) e,qEb,qDn];have:=Qk (c:=r.flatMap qD) (qD V) (qD a) (i*16)
  rwa[jJ,h a (by simp)]at this
def qi1(p:Problem)(e:Ex):Prop:=∀x∈pre e,qy x=0/\x.op≠3/\x.op≠24/\(x.op=2->wK p.vars x.name=true)/\x.args.length<=1000
def qi1.arg{p e a}(h:qi1 p e)(b:a∈e.args):qi1 p a:=fun x c=>h x (by rw[jv];exact qCE _ (QS.2 ⟨a,b,c⟩))
def qi1.self{p e}(h:qi1 p e):qy e=0/\e.op≠3/\e.op≠24/\(e.op=2->wK p.vars e.name=true)/\e.args.length<=1000:=h e (by rw[jv];simp)
section
variable {c:Bc}{d:List Nd}{H:List Blk}{T:List (Option Nat)}
def qfY:List (Nat×Sch×List Nat):=[(13,.step 1 [8,7,6,5] (.step 2 [8,7,6,5,4,3] (.step 3 [8,7,6,5,4] (.step 4 [8,7,6,5] (.fork (.cons 0 (.step 5 [8,7,6] (.step 6 [8,7] (.step 7 [8] (.step 8 [] (.done))))) (.cons 5 (.step 0 [8,7,6] (.step 6 [8,7] (.step 7 [8] (.step 8 [] (.done))))) (.nil))))))),[5,6]),(15,.step 0 [5,4] (.step 1 [5,4,3,2] (.step 2 [5,4,3] (.step 3 [5,4] (.step 4 [5] (.step 5 [] (.done)))))),[4]),(17,.step 0 [6,5] (.step 1 [6,5] (.step 2 [6,5,4,3] (.step 3 [6,5,4] (.step 4 [6,5] (.step 5 [6] (.step 6 [] (.done))))))),[5]),(19,.step 0 [5,4] (.step 1 [5,4,3,2] (.step 2 [5,4,3] (.step 3 [5,4] (.step 4 [5] (.step 5 [] (.done)))))),[4]),(21,.step 0 [8,7,6] (.step 1 [8,7,6,3,2] (.step 2 [8,7,6,3] (.step 3 [8,7,6] (.step 4 [8,7,6,5] (.step 5 [8,7,6] (.step 6 [8,7] (.step 7 [8] (.step 8 [] (.done))))))))),[6]),(23,.step 0 [6,4] (.step 1 [6,4,3,2] (.step 2 [6,4,3] (.step 3 [6,4] (.fork (.cons 4 (.step 5 [6] (.step 6 [] (.done))) (.cons 5 (.step 4 [6] (.step 6 [] (.done))) (.nil))))))),[4]),(24,.step 0 [8,7,2,1] (.step 1 [8,7,2] (.step 2 [8,7] (.step 3 [8,7,5,4] (.step 4 [8,7,5] (.step 5 [8,7] (.step 6 [8,7] (.step 7 [8] (.step 8 [] (.done))))))))),[7]),(25,.step 0 [10,9] (.step 1 [10,9,2] (.step 2 [10,9] (.step 3 [10,9,5,4] (.step 4 [10,9,5] (.step 5 [10,9] (.step 6 [10,9,8,7] (.step 7 [10,9,8] (.step 8 [10,9] (.step 9 [10] (.step 10 [] (.done))))))))))),[9])]
def qbR(h:BX c H d H){p lv}(g:PB p lv c)(e)(D:qi1 p e)(h0:e.args=[]):
 qh prog (XG c) 186 [.ptr c.B 0,.agg (qo e)] ⟨H,T⟩ (WQ c d H fun b=>yi (ke p.vars (Zi p.vars lv b)) e):=by
 refine qFE ⟨false,qfY,[],[]⟩ func186 ?_;obtain⟨X,h3,a2,h2,_⟩:=D.self;obtain⟨o1,o2,P,o4,f,o6,o7,o8⟩:=jm X;have a:e.op=1\/e.op=2:=by
  unfold qk at f;rw[h0]at f;split at f
  . simp at f
  simp at f;unfold zE at f
  repeat' split at f
  all_goals omega
 have K:∀j,H.length<=j->j≠c.B:=fun j G=>(h.at G).1
 have r:=qd e;rw[h0]at r;simp at r;rw[r];simp[qz,jK,za];have O:=h.app [.cells [.ptr c.B 0],.cells [.int .i64 e.op,.int .i64 e.n,.str e.name,.sl 4 [] .none],.cells (qD zp)];refine qFL (fun n ev σ=>ev 2=.ptr H.length 0/\ev 3=.ptr (H.length+1) 0/\ev 4=.ptr (H.length+2) 0/\ev 15=.int .i64 0/\ev 16=.int .i64 0/\BX c H d σ.H/\σ.H[H.length]?=some (.cells [.ptr c.B 0])/\σ.H[H.length+1]?=some (.cells [.int .i64 e.op,.int .i64 e.n,.str e.name,.sl 4 [] .none])/\σ.H[H.length+2]?=some (.cells (qD zp))) 0 ?_ ?_
 . exact⟨by simp,by simp,by simp,by simp,by simp,O,lk0,lk1,lk2⟩
 rintro n ev ⟨H1,F⟩ R hR ⟨Y,Z,e4,a4,a1,o,bB,bE,x⟩;have a3:=(qBk.1 x).1;simp[*];rcases a with a|a
 . have I:=P a;have C:=yA e.n.toNat (by omega);rw[Int.toNat_of_nonneg I.1]at C;have t:((List.range 16).map fun k=>if e.n.toNat.testBit k=true then 1 else 0).length=16:=(by simp);have M:=WJ h.ok e.n.toNat;have E:=fun b=>J0 h.ok b (n:=e.n.toNat) (by omega)
   generalize ((List.range 16).map fun k=>if e.n.toNat.testBit k=true then 1 else 0)=V at *;simp[*];refine qFG C ?_ rfl;simp[*,-getElem?_pos,qs t,zy t (show(qD zp).length=16 from rfl),za];refine⟨d,V,rfl,o.set (by omega) _,qGc d,M,fun b=>?_⟩;dsimp only;rw[yM];unfold z7 wH;rw[if_pos a,E b];omega
 have s:=h2 a;unfold wK at s;rw[qBM]at s;obtain⟨v,J,m⟩:=s;have m:v.name=e.name:=by simpa using m
 obtain⟨i,hi⟩:=qB1 J;have a5:=(qBk.1 hi).1;obtain⟨l,A⟩:∃l,lv[i]?=some l:=⟨_,qBm (by rwa[g.len])⟩;have y:=qd1 o.self g hi A (T:=F);rw[m]at y;have U:¬e.op=1:=by omega
 simp[*];refine qFJ y ?_;rintro vv ⟨H2,T2⟩ ⟨L,W,rfl,z,N,u,Q⟩;have S:=z.loc x (K _ (by omega));have a0:=(qBk.1 S).1;have w:=u.1;simp[*,-getElem?_pos,qs w,zy w (show(qD zp).length=16 from rfl),za];refine⟨L,W,rfl,(o.call z).set (by omega) _,N,u,fun b=>?_⟩;rw[Q b];dsimp only;rw[yM];unfold wH;rw[if_neg U,if_pos a,<- m,qlu g.len g.nodup g.vars hi A b]
end
