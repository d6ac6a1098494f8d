import Derived.Test.YtafbccendejkeaaGreatDoorPv05
import Derived.Test.YtafbccendejkeaaGreatDoorPv06
set_option maxRecDepth 100000
set_option maxHeartbeats 16000000
set_option linter.all false
namespace Go.Proofs.YtafbccendejkeaaGreatDoor
open Go Go.Abs Tryz
@[simp]def qI(n:Nd):List AV:=[.int .i64 n.1,.int .i64 n.2.1,.int .i64 n.2.2]
@[simp]def qAA(l:List Nd):q9 (l.map qI)=true:=zq (fun x=>by simp) l
@[simp]def zF(d:List Nd):List AV:=[.sl 3 (d.map qI) .none]
def ndE(q:Nd×AV×Nat):AV×AV×Nat:=(.agg (qI q.1),q.2.1,q.2.2)
def qkE(a b):Q8 (.agg (qI a)) (.agg (qI b))=some (decide (a=b)):=by
 obtain⟨a1,a2,a3⟩:=a;obtain⟨b1,b2,b3⟩:=b;simp only[Q8,qI,je,kx,if_true];congr 1;rw[qB7];simp;omega
def qk5(n):zG (Dof prog) 150 (.agg (qI n))=true:=by
 simp[zG,YA,kl,qR,zW,qCt]
def JG{n}:∀(E:List (Nd×AV×Nat)) (s),(∀q∈E,q.1≠n)->jV (.agg (qI n)) (E.map ndE) s=some none
 |[],_,_=>rfl
 | q::E,s,h=>by
  have h0:=h q (by simp);simp only[qBn,ndE,jV,qkE];have:decide (n=q.1)=false:=by simpa using fun e=>h0 e.symm
  rw[this];exact JG E (s+1) fun x hx=>h x (by simp[hx])
def qaV{n}:∀(E:List (Nd×AV×Nat)) (s),(E.map (·.1)).Nodup->∀q∈E,q.1=n->∃j,jV (.agg (qI n)) (E.map ndE) s=some (some (s+j,q.2.1))/\E[j]?=some q
 |[],_,_,q,hq,_=>by cases hq
 | e::E,s,hn,q,hq,hqn=>by
  simp only[qBn,qC1]at hn;simp only[qBn,ndE,jV,qkE];by_cases h0:n=e.1
  . have:decide (n=e.1)=true:=by simpa using h0
    rw[this];rcases qBz.1 hq with rfl|hq
    . exact⟨0,by simp,by simp⟩
    exact absurd (qBA.2 ⟨q,hq,by rw[hqn,h0]⟩) hn.1
  have:decide (n=e.1)=false:=by simpa using h0
  rw[this];rcases qBz.1 hq with rfl|hq
  . exact absurd hqn.symm h0
  obtain⟨j,h1,h2⟩:=qaV E (s+1) hn.2 q hq hqn;exact⟨j+1,by simp only[h1];congr 3;omega,by simpa using h2⟩
def qp1:Pure prog GG 77 [] (.agg (zF [(20,0,0),(20,1,1)])):=by
 refine okzP func77 rfl rfl ?_;simp[zt,zX,qM,qe,ql]
def qzd(a b):WD (Dof prog) 150 (qI a) (qI b)=some (decide (a=b)):=by
 have:=qkE a b;simp only[Q8]at this;simp[WD,YA,kl,qR,zW,qCt];simpa using this
def qoD(l)(hl:Fits l):Pure prog GG 223 [.sl 3 (l.map qI) .none,.sl 3 (l.map qI) .none] (.bool true):=by
 refine okzP func223 rfl rfl ?_;simp;refine qFP l (fun d ev U=>ev 0=.sl 3 (l.map qI) .none/\ev 1=.sl 3 (l.map qI) .none/\ev 12=.int .i64 l.length/\ev 13=.int .i64 d.length) ?_ ?_ ?_
 . simp
 . rintro d n rest ev U R hR hd hx hlt ⟨e0,e1,e12,e13⟩;have he:=qzd n n;simp only[qI]at he;simp[-getElem?_pos,e0,e1,e12,e13,hlt,hx,he,show IntKind.i64.wrap ((d.length:Int)+1)=(d.length+1:Nat) by rw[wr (by omega) (by omega)];omega];exact hR _ _ ⟨by simp[e0],by simp[e1],by simp[e12],by simp⟩
 rintro ev U ⟨e0,e1,e12,e13⟩;simp[e12,e13]
def qsY(d)(h:DagOk d):Pure prog GG 145 [.sl 3 (d.map qI) .none] (.bool true):=by
 refine okzP func145 rfl rfl ?_;have ht:d.take 2=[(20,0,0),(20,1,1)]:=by
  have a:=h.n0;have b:=h.n1
  match d,a,b with
  |[],a,_=>cases a
  |[_],_,b=>cases b
  |x::y::r,a,b=>simp at a b;subst a b;rfl
 have he:=qoD [(20,0,0),(20,1,1)] (by simp);simp[show(2:Int)<=d.length by have:=h.two;omega,show(d.length:Int)<=8192 by have:=h.most;omega,zl,zS,ki,zU,<- List.map_take,ht];refine qFz qp1 rfl ?_;simp;refine qFz he rfl ?_;simp
def qj7(d)(h:DagOk d)(i)(hi:2<=i)(hl:i<d.length):Pure prog GG 146 [.sl 3 (d.map qI) .none,.int .i64 i] (.bool true):=by
 obtain⟨n,hn⟩:∃n,d[i]?=some n:=⟨_,qBc hl⟩;obtain⟨g1,g2,g3,g4,g5,g6⟩:=h.node i n hi hn;obtain⟨x,hx⟩:∃x,d[n.2.1]?=some x:=⟨_,qBc (by omega)⟩;obtain⟨y,hy⟩:∃y,d[n.2.2]?=some y:=⟨_,qBc (by omega)⟩;rw[zQ hx]at g5;rw[zQ hy]at g6;refine okzP func146 rfl rfl ?_;have q1:(n.1:Int)<20:=by omega
 have q2:(n.2.1:Int)<i:=by omega
 have q3:(n.2.2:Int)<i:=by omega
 have q4:¬(n.2.1:Int)=n.2.2:=by omega
 obtain⟨a,b,c⟩:=n;simp only at *;simp[hn,q1,q2,q3,q4,hx,hy,w6];split<;>omega
def ZR(d:List Nd):List (Nd×AV×Nat):=(d.zipIdx).map fun q=>(q.1,.bool true,q.2)
def qhF(d n):ZR (d++[n])=ZR d++[(n,.bool true,d.length)]:=by
 simp[ZR,qD6]
def qjF(d):(ZR d).map (·.1)=d:=by simp[ZR,qCI,Function.comp_def]
def qjE{d n}(h:n∉d):∀q∈ZR d,q.1≠n:=fun q hq e=>h (by
 have:q.1∈(ZR d).map (·.1):=qBA.2 ⟨q,hq,rfl⟩;rw[qjF]at this;exact e▸this)
def WF(d)(h:DagOk d):Pure prog GG 92 [.agg (zF d)] (.bool true):=by
 have hmost:=h.most;refine okzP func92 rfl rfl ?_;simp;refine qFz (qsY d h) (by simp) ?_;simp;refine qFP d (fun s ev U=>ev 1=.ptr 0 0/\ev 3=.map 1/\ev 12=.sl 3 (d.map qI) .none/\ev 13=.int .i64 d.length/\ev 14=.int .i64 s.length/\∃t,U=⟨.cells (zF d)::.map ((ZR s).map ndE) s.length::t,[]⟩) ?_ ?_ ?_
 . exact⟨by simp,by simp,by simp,by simp,by simp,[],by simp[ZR]⟩
 . rintro s n rest ev U R hR hd hx hlt ⟨e1,e3,e12,e13,e14,t,rfl⟩;have hdw:IntKind.i64.wrap ((s.length:Int)+1)=(s.length+1:Nat):=(by rw[wr (by omega) (by omega)];omega);have hns:n∉s:=by
    have:=h.nodup;rw[hd]at this;intro hm;exact(qCa.1 this).2.2 n hm n (by simp) rfl
   have hfind:=JG (n:=n) (ZR s) 0 (qjE hns);have hfit:=qk5 n;have hlk:∀(T:List (Option Nat)) (u:List Blk),zz (Dof prog) ⟨.cells (zF d)::.map ((ZR s).map ndE) s.length::u,T⟩ 197 (.map 1) (.agg (qI n)) false=some (.bool false):=by
    intro T u;simp only[zz,qz5,hfit,if_true];simp[-qI,hfind,qbJ]
   have hup:∀(T:List (Option Nat)) (u:List Blk),zi (Dof prog) ⟨.cells (zF d)::.map ((ZR s).map ndE) s.length::u,T⟩ 197 (.map 1) (.agg (qI n)) (.bool true)=some ⟨.cells (zF d)::.map ((ZR (s++[n])).map ndE) (s.length+1)::u,T⟩:=by
    intro T u;simp only[zi,qz5,hfit,if_true];simp[-qI,hfind,qhF,ndE]
   simp only[qI]at hlk hup;have hgo:∀(ev':Env) (u:List Blk),ev' 1=.ptr 0 0->ev' 3=.map 1->ev' 12=.sl 3 (d.map qI) .none->ev' 13=.int .i64 d.length->ev' 14=.int .i64 (s.length+1:Nat)->R ev' ⟨.cells (zF d)::.map ((ZR (s++[n])).map ndE) (s.length+1)::u,[]⟩ :=
    fun ev' u a1 a2 a3 a4 a5=>hR _ _ ⟨a1,a2,a3,a4,by simpa using a5,u,by simp⟩
   simp only[zF]at hlk hup hgo;by_cases h2:2<=s.length
   . have h2':(2:Int)<=s.length:=(by omega);simp[-getElem?_pos,e1,e12,e13,e14,hlt,hx,h2'];refine qFz (qj7 d h s.length h2 hlt) (by simp) ?_;simp[-getElem?_pos,e3,e14,hlk,hup,hdw];exact hgo _ _ (by simp[e1]) (by simp[e3]) (by simp[e12]) (by simp[e13]) (by simp)
   have h2':¬(2:Int)<=s.length:=(by omega);simp[-getElem?_pos,e3,e12,e13,e14,hlt,hx,h2',hup,hdw];exact hgo _ _ (by simp[e1]) (by simp[e3]) (by simp[e12]) (by simp[e13]) (by simp)
 rintro ev U ⟨e1,e3,e12,e13,e14,t,rfl⟩;simp[e13,e14]
def qif(n):Pure prog GG 355 [.int .i64 n] (.bool (decide (0<=n)&&decide (n<20))):=by
 refine okzP func355 rfl rfl ?_;by_cases h:0<=n<;>simp[h]
def qqc(d)(h:DagOk d)(l:List Nat)(hl:l.length<=100)(hi:∀i∈l,i<d.length)(tok:Tok):Pure prog GG 204 [.agg (zF d),.sl 1 (l.map fun i:Nat=>[.int .i64 i]) .none] (.bool true):=by
 refine okzP func204 rfl rfl ?_;simp;refine qFz (WF d h) (by simp) ?_;simp;refine qFP l (fun s ev U=>ev 1=.sl 1 (l.map fun i:Nat=>[.int .i64 i]) .none/\ev 2=.ptr 0 0/\ev 10=.sl 1 (l.map fun i:Nat=>[.int .i64 i]) .none/\ev 11=.int .i64 l.length/\ev 12=.int .i64 s.length/\U=⟨[.cells (zF d)],[]⟩) ?_ ?_ ?_
 . simp
 . rintro s i rest ev U R hR hd hx hlt ⟨e1,e2,e10,e11,e12,rfl⟩;have h1:=hi i (qBb hx);simp[-getElem?_pos,e2,e10,e11,e12,hlt,hx,h1,show IntKind.i64.wrap ((s.length:Int)+1)=(s.length+1:Nat) by rw[wr (by omega) (by omega)];omega];exact hR _ _ ⟨by simp[e1],by simp[e2],by simp[e10],by simp[e11],by simp⟩
 rintro ev U ⟨e1,e2,e10,e11,e12,rfl⟩;simp[e11,e12]
def qt3(d:List Nd)(full:Bool):AV:=.rptr [.sl 3 (d.map qI) .none,.any,.bool full]
def JL(d:List Nd)(full one:Bool)(f L:Nat)(hf:f<d.length):Pure prog GG 277 [qt3 d full,.int .i64 f,.int .i64 L,.bool one] (.int .i64 (ym d f L one:Nat)):=by
 obtain⟨n,hn⟩:∃n,d[f]?=some n:=⟨_,qBc hf⟩;refine okzP func277 rfl rfl ?_;generalize hr:ym d f L one=r;unfold ym at hr;rw[hn]at hr;simp only at hr;by_cases hl:n.1=L
 . rw[if_pos hl]at hr;have hl':(n.1:Int)=L:=(by omega);cases one
   . simp at hr;subst hr;simp[qt3,hn,hl']
   simp at hr;subst hr;simp[qt3,hn,hl']
 rw[if_neg hl]at hr;subst hr;simp[qt3,hn,show ¬(n.1:Int)=L by omega]
def KpL(bs:List Nat)(H H':List Blk):Prop:=H.length<=H'.length/\∀(k) (x),H[k]?=some x->k∉bs->H'[k]?=some x
def KpL.refl{bs H}:KpL bs H H:=⟨qBl _,fun _ _ h _=>h⟩
def qF5:=@KpL.refl
def KpL.trans{bs H H' H''}(h:KpL bs H H')(h':KpL bs H' H''):KpL bs H H'':=⟨qB6 h.1 h'.1,fun k x hk h1=>h'.2 k x (h.2 k x hk h1) h1⟩
def qF6:=@KpL.trans
def KpL.app{bs H t}:KpL bs H (H++t):=⟨by simp,fun k x hk _=>qd hk t⟩
def qF7:=@KpL.app
def KpL.set{bs H b y}(hb:b∈bs):KpL bs H (H.set b y):=⟨by simp,fun k x hk hn=>by
 rw[qBd (by rintro rfl;exact hn hb)];exact hk⟩
def qF8:=@KpL.set
def KpL.sub{bs cs H H'}(h:KpL bs H H')(hs:∀b∈bs,b∈cs):KpL cs H H':=⟨h.1,fun k x hk hn=>h.2 k x hk fun hb=>hn (hs k hb)⟩
def KpL.setF{bs H H' b y}(h:KpL bs H H')(hb:H.length<=b):KpL bs H (H'.set b y):=⟨by rw[qCD];exact h.1,fun k x hk hn=>by
 have:=(qBa.1 hk).1;rw[qBd (by omega)];exact h.2 k x hk hn⟩
def atE(d:List Nd):List (Nd×AV×Nat):=d.zipIdx.map fun q=>(q.1,.int .i64 q.2,q.2)
structure BR(B M t:Nat)(d:List Nd)(full:Bool)(U:St):Prop where
 b:U.H[B]?=some (.cells [.sl 3 (d.map qI) (.chain t d.length),.map M,.bool full])
 m:U.H[M]?=some (.map ((atE d).map ndE) d.length)
 t:U.T[t]?=some (some d.length)
def BR.ne{B M t d full U}(h:BR B M t d full U):B≠M:=by
 rintro rfl;have:=h.b;rw[h.m]at this;cases this
def qlW(d):(atE d).map (·.1)=d:=by simp[atE,qCI,Function.comp_def]
def qg1(d n):atE (d++[n])=atE d++[(n,.int .i64 d.length,d.length)]:=by
 simp[atE,qD6]
def qlV{d n}(h:n∉d):∀q∈atE d,q.1≠n:=fun q hq e=>h (by
 have:q.1∈(atE d).map (·.1):=qBA.2 ⟨q,hq,rfl⟩;rw[qlW]at this;exact e▸this)
def qtm{d:List Nd}{n:Nd}{i:Nat}(h:d[i]?=some n):(n,AV.int .i64 i,i)∈atE d:=by
 refine qBA.2 ⟨(n,i),?_,rfl⟩;exact List.mem_zipIdx_iff_getElem?.2 h
def qcF(w:Int):List Int:=(List.range (2^w.toNat)).map fun n:Nat=>(n:Int)
def qkf(w):(qcF w).length=2^w.toNat:=by simp[qcF]
def qkg{w d r v}(h:qcF w=d++v::r):v=d.length:=by
 have h1:(qcF w)[d.length]?=some v:=by rw[h];simp
 unfold qcF at h1;rw[qBD]at h1;obtain⟨m,hm,e⟩:=qBj.1 h1;obtain⟨_,hm⟩:=qBa.1 hm;simp at hm;omega
def wN{w:Int}(h0:0<=w)(h1:w<=28):IntKind.i64.wrap (2^(min w.toNat 64))=((2^w.toNat:Nat):Int):=by
 have hp:(2:Nat)^w.toNat<=2^28:=qBL (by omega) (by omega);rw[show min w.toNat 64=w.toNat by omega,show((2:Int)^w.toNat)=((2^w.toNat:Nat):Int) by simp];generalize 2^w.toNat=N at hp;exact wr (by omega) (by omega)
def qeV{α:Type}(p:α->Bool)(d:List α)(v:α):(d++[v]).filter p=if p v then d.filter p++[v] else d.filter p:=by
 rw[qD8];cases h:p v<;>simp[h]
@[simp]def qzX(c:List (List Int)):List AV:=[.sl 1 (c.map qA) .none]
structure NodeR(B M t d full)(U:St)(d' full' i U'):Prop where
 br:BR B M t d' full' U'
 kp:KpL [B,M] U.H U'.H
 gr:zb d d'
 ok:DagOk d'
 lt:i<d'.length
 mono:full=true->full'=true
 fl:full'=true->8192<=d'.length
def qzm(B M t:Nat)(d:List Nd)(full:Bool)(U:St)(lv lo hi:Nat)(r:AV)(U':St):Prop :=
 ∃d' full' i,r=.int .i64 (i:Nat)/\NodeR B M t d full U d' full' i U'/\(full'=false->lv<=lvD d' i/\∀b,evD d' b i=evD d' b (if b lv then hi else lo))
def qkj{B M t d full U}(h:BR B M t d full U)(hd:DagOk d){lv lo hi}(hlv:lv<20)(hlo:lo<d.length)(hhi:hi<d.length)(hfl:full=true->8192<=d.length)(h1:full=false->lv<lvD d lo)(h2:full=false->lv<lvD d hi):
 qj prog GG 278 [.ptr B 0,.int .i64 lv,.int .i64 lo,.int .i64 hi] U (qzm B M t d full U lv lo hi):=by
 refine okzA func278 rfl rfl ?_;obtain⟨H,T⟩:=U;have hB:=h.b;have hM:=h.m;have hT:=h.t;have hne:=h.ne;simp only at hB hM hT;by_cases hlh:lo=hi
 . subst hlh;simp;exact⟨d,full,lo,rfl,⟨h,qF5,qF4 d,hd,hlo,id,hfl⟩,fun hf=>⟨by have:=h1 hf;omega,by simp⟩⟩
 have hlh':¬(lo:Int)=hi:=by omega
 have hfit:=qk5 (lv,lo,hi);have hBl:=(qBa.1 hB).1;have hMl:=(qBa.1 hM).1;by_cases hin:(lv,lo,hi)∈d
 . obtain⟨i,hi1⟩:=qBT hin;obtain⟨j,hf1,hf2⟩:=qaV (n:=(lv,lo,hi)) (atE d) 0 (by rw[qlW];exact hd.nodup) _ (qtm hi1) rfl;have hlk:∀(u:List Blk) (T:List (Option Nat)),zz (Dof prog) ⟨H++u,T⟩ 309 (.map M) (.agg (qI (lv,lo,hi))) true=some (.tup [.int .i64 i,.bool true]):=by
    intro u T;simp only[zz,qxR,hfit,if_true];simp[-qI,qd hM,hf1]
   simp only[qI]at hlk;simp[hlh',qd hB,hlk];refine⟨d,full,i,rfl,⟨⟨qd hB _,qd hM _,hT⟩,qF7,qF4 d,hd,(qBa.1 hi1).1,id,hfl⟩,fun _=>⟨by rw[zQ hi1];exact qBl _,fun b=>?_⟩⟩;refine QV hd b (n:=(lv,lo,hi)) ?_ hi1;apply Classical.byContradiction;intro hc;have:i=0\/i=1:=by omega
   rcases this with rfl|rfl
   . have e:=hd.n0;rw[hi1]at e;simp at e;omega
   have e:=hd.n1;rw[hi1]at e;simp at e;omega
 have hfind:=JG (n:=(lv,lo,hi)) (atE d) 0 (qlV hin);have hlk:∀(u:List Blk) (T:List (Option Nat)),zz (Dof prog) ⟨H++u,T⟩ 309 (.map M) (.agg (qI (lv,lo,hi))) true=some (.tup [.int .i64 0,.bool false]):=by
  intro u T;simp only[zz,qxR,hfit,if_true];simp[-qI,qd hM,hfind,qbJ]
 simp only[qI]at hlk;by_cases hm:8192<=d.length
 . have hm':(8192:Int)<=d.length:=(by omega);simp[hlh',qd hB,hlk,hm',kI hB];refine⟨d,true,0,rfl,⟨⟨?_,?_,hT⟩,?_,qF4 d,hd,by have:=hd.two;omega,fun _=>rfl,fun _=>hm⟩,fun e=>by cases e⟩
   . exact qd (by rw[qBg hBl]) _
   . exact qd (by rwa[qBd hne]) _
   exact(qF8 (by simp)).trans qF7
 have hm':¬(8192:Int)<=d.length:=by omega
 have hup:∀(u:List Blk) (T:List (Option Nat)),zi (Dof prog) ⟨H++u,T⟩ 309 (.map M) (.agg (qI (lv,lo,hi))) (.int .i64 d.length)=some ⟨H.set M (.map ((atE (d++[(lv,lo,hi)])).map ndE) (d++[(lv,lo,hi)]).length)++u,T⟩:=by
  intro u T;simp only[zi,qxR,hfit,if_true];simp[-qI,qd hM,hfind,kI hM,qg1,ndE]
 have happ:∀(H':List Blk),qr (Dof prog) ⟨H',T⟩ 62 (.sl 3 (d.map qI) (.chain t d.length)) (.sl 3 [qI (lv,lo,hi)] .tight)=some (.sl 3 ((d++[(lv,lo,hi)]).map qI) (.chain t (d++[(lv,lo,hi)]).length),⟨H',T.set t (some (d++[(lv,lo,hi)]).length)⟩):=by
  intro H';have:d.length+1<=549755813888:=by omega
  simp[-qI,qr,qZ,hT,this]
 simp only[qI]at hup happ;have hB2:∀y:Blk,(H.set M y)[B]?=some (.cells [.sl 3 (d.map qI) (.chain t d.length),.map M,.bool full]):=fun y=>by
  rw[qBd (Ne.symm hne)];exact hB
 have hdl:(d++[(lv,lo,hi)]).length=d.length+1:=by simp
 have hg:zb d (d++[(lv,lo,hi)]):=⟨_,rfl⟩;have hff:full=false:=by cases full with|true=>exact absurd (hfl rfl) hm|false=>rfl
 have hnew:=qoO hd (n:=(lv,lo,hi)) (by omega) hlv hlo hhi hlh (h1 hff) (h2 hff) hin;have hlast:(d++[(lv,lo,hi)])[d.length]?=some (lv,lo,hi):=by simp
 generalize hD:d++[(lv,lo,hi)]=D at *;generalize hY:Blk.map ((atE D).map ndE) D.length=Y at *;have hl2:=fun u=>qd (hB2 Y) u
 have hs2:=fun u z=>kI (hB2 Y) u z
 have hl3:∀(z:Blk) (u:List Blk),((H.set M Y).set B z++u)[B]?=some z:=fun z u=>qd (by rw[qBg (by rwa[qCD])]) u
 have hl4:∀(x:Blk),(H.set M Y++[x])[H.length]?=some x:=fun x=>by rw[qBm (by simp)];simp
 simp[hlh',qd hB,hlk,hm',hup,hl2,hs2,happ,hl3,hl4,show IntKind.i64.wrap ((D.length:Int)-1)=(d.length:Nat) by rw[wr (by omega) (by omega)];omega];refine⟨D,full,d.length,rfl,⟨⟨hl3 _ _,?_,(qBg (qBa.1 hT).1)⟩,?_,hg,hnew,by omega,id,fun e=>by rw[hff]at e;cases e⟩,fun _=>⟨by rw[zQ hlast];exact qBl _,fun b=>QV hnew b (n:=(lv,lo,hi)) hd.two hlast⟩⟩
 . rw[hY.symm];refine qd ?_ _;rw[qBd hne,qBg hMl]
 exact((qF8 (by simp)).trans (qF8 (by simp))).trans qF7
def qww(d:List Nd)(H:List Blk)(T:List (Option Nat))(r:AV)(U':St):Prop:=r=.sl 3 (d.map qI) (.chain T.length d.length)/\U'=⟨H,T++[some d.length]⟩
def qoX(d)(h0:d≠[])(hl:d.length<=100000)(H T):qj prog GG 276 [.sl 3 (d.map qI) .none] ⟨H,T⟩ (qww d H T):=by
 obtain⟨x,r,rfl⟩:=qDV h0;refine okzA func276 rfl rfl ?_;simp[-qI,qr,qZ,qe,ql,show r.length+1<=549755813888 by simp at hl;omega];exact⟨by simp,by simp⟩
def qwx(d:List Nd)(H:List Blk)(r:AV)(U':St):Prop:=∃B M t,r=.ptr B 0/\BR B M t d false U'/\KpL [] H U'.H/\H.length<=B/\H.length<=M
def qgY(d)(h:DagOk d)(H T):qj prog GG 205 [.agg (zF d)] ⟨H,T⟩ (qwx d H):=by
 refine okzA func205 rfl rfl ?_;have h2:=h.two;have hmost:=h.most;have h0:d≠[]:=fun e=>by rw[e]at h2;simp at h2
 simp;refine qFC (qoX d h0 (by omega) _ _) ?_;rintro v U' ⟨rfl,rfl⟩;simp[zt,zX,qM];refine qFP d (fun s ev U=>ev 1=.ptr H.length 0/\ev 3=.ptr (H.length+1+1) 0/\ev 13=.sl 3 (d.map qI) .none/\ev 14=.int .i64 d.length/\ev 15=.int .i64 s.length /\
  ∃t,U=⟨H++(.cells (zF d)::.map ((atE s).map ndE) s.length::.cells [.sl 3 (d.map qI) (.chain T.length d.length),.map (H.length+1),.bool false]::t),T++[some d.length]⟩) ?_ ?_ ?_
 . exact⟨by simp,by simp,by simp,by simp,by simp,[],by simp[atE]⟩
 . rintro s n rest ev U R hR hd hx hlt ⟨e1,e3,e13,e14,e15,t,rfl⟩;have hns:n∉s:=by
    have:=h.nodup;rw[hd]at this;intro hm;exact(qCa.1 this).2.2 n hm n (by simp) rfl
   have hfind:=JG (n:=n) (atE s) 0 (qlV hns);have hfit:=qk5 n;generalize hCB:Blk.cells [.sl 3 (d.map qI) (.chain T.length d.length),.map (H.length+1),.bool false]=CB at *;generalize hCD:Blk.cells (zF d)=CD at *;have hgo:∀(ev':Env) (u:List Blk),ev' 1=.ptr H.length 0->ev' 3=.ptr (H.length+1+1) 0->ev' 13=.sl 3 (d.map qI) .none->ev' 14=.int .i64 d.length->ev' 15=.int .i64 (s.length+1:Nat)->R ev' ⟨H++(CD::.map ((atE (s++[n])).map ndE) (s++[n]).length::CB::t)++u,T++[some d.length]⟩ :=
    fun ev' u a1 a2 a3 a4 a5=>hR _ _ ⟨a1,a2,a3,a4,by simpa using a5,t++u,by simp⟩
   obtain⟨W,hW⟩:∃W,H++(CD::Blk.map ((atE s).map ndE) s.length::CB::t)=W:=⟨_,rfl⟩;obtain⟨W',hW'⟩:∃W,H++(CD::Blk.map ((atE (s++[n])).map ndE) (s++[n]).length::CB::t)=W:=⟨_,rfl⟩;have hlb:W[H.length+1+1]?=some CB:=by
    rw[<- hW,qBm (by omega)];simp[show H.length+1+1-H.length=2 by omega]
   have hlm:W[H.length+1]?=some (.map ((atE s).map ndE) s.length):=by
    rw[<- hW,qBm (by omega)];simp
   have hset:W.set (H.length+1) (Blk.map ((atE (s++[n])).map ndE) (s++[n]).length)=W':=by
    rw[<- hW,<- hW',qBY _ _ (by omega)];simp
   have hup:∀(u:List Blk) (T:List (Option Nat)),zi (Dof prog) ⟨W++u,T⟩ 309 (.map (H.length+1)) (.agg (qI n)) (.int .i64 s.length)=some ⟨W'++u,T⟩:=by
    intro u T;simp only[zi,qxR,hfit,if_true];simp only[qd hlm,hfind,kI hlm,<- hset];simp[-qI,qg1,ndE]
   simp only[qI]at hup;rw[hW']at hgo;rw[hW];subst hCB;simp[-getElem?_pos,e3,e13,e14,e15,hlt,hx,qd hlb,hup,show IntKind.i64.wrap ((s.length:Int)+1)=(s.length+1:Nat) by rw[wr (by omega) (by omega)];omega];exact hgo _ _ (by simp[e1]) (by simp[e3]) (by simp[e13]) (by simp[e14]) (by simp)
 rintro ev U ⟨e1,e3,e13,e14,e15,t,rfl⟩;simp[e3,e14,e15];refine⟨H.length+1+1,H.length+1,T.length,rfl,⟨?_,?_,?_⟩,qF7,by omega,by omega⟩
 . show(H++_)[_]?=_;rw[qBm (by omega)];simp[show H.length+1+1-H.length=2 by omega]
 . show(H++_)[_]?=_;rw[qBm (by omega)];simp
 simp
def qzq(t:Nat)(d:List Nd)(full:Bool)(f:Nat)(U:St)(r:AV)(U':St):Prop :=
 (r=if full=true then .tup [.agg [.sl 0 [] .nil],.int .i64 0,.int .i64 2] else .tup [.agg [.sl 3 (d.map qI) (.chain t d.length)],.int .i64 f,.int .i64 0])/\KpL [] U.H U'.H/\U'.T=U.T
def qlm{B M t d full U}(h:BR B M t d full U)(f:Nat):qj prog GG 206 [.ptr B 0,.int .i64 f] U (qzq t d full f U):=by
 refine okzA func206 rfl rfl ?_;obtain⟨H,T⟩:=U;have hB:=h.b;simp only at hB;cases full
 . simp[qd hB,zt,zX,qM];exact⟨rfl,qF7,rfl⟩
 simp[qd hB,zt,zX];exact⟨rfl,qF7,rfl⟩
def qwm(p q r):Pure prog GG 136 [.bool p,.bool q,.bool r] (.bool (p&&q)):=by
 refine okzP func136 rfl rfl ?_;cases p<;>cases q<;>simp
def qyv(p q r):Pure prog GG 313 [.bool p,.bool q,.bool r] (.bool (p||q)):=by
 refine okzP func313 rfl rfl ?_;cases p<;>cases q<;>simp
def qva(p q r):Pure prog GG 315 [.bool p,.bool q,.bool r] (.bool (!p)):=by
 refine okzP func315 rfl rfl ?_;cases p<;>simp[unA]
def qug(p q r):Pure prog GG 356 [.bool p,.bool q,.bool r] (.bool (p ^^ q)):=by
 refine okzP func356 rfl rfl ?_;cases p<;>cases q<;>simp[qR]
def qlE(p q r):Pure prog GG 316 [.bool p,.bool q,.bool r] (.bool (p&&q||!p&&r)):=by
 refine okzP func316 rfl rfl ?_;cases p<;>cases q<;>cases r<;>simp[unA]
def qw(n:Int):Int:=n%65536
def qv(n):0<=qw n/\qw n<=65535:=by unfold qw;omega
def QG{n}(h0:0<=n)(h1:n<=65535):qw n=n:=by unfold qw;omega
def b2i(b:Bool):Int:=if b=true then 1 else 0
def WO(b):0<=b2i b/\b2i b<=65535:=by cases b<;>simp[b2i]
def jE(env:List Signal)(name:Str):Option Int:=(env.find? fun s=>s.name==name).map fun s=>qw s.value
def atV(env:List Signal)(a:Str)(i:Int):Int:=if 0<=i/\i<8 then(jE env (zT a i.toNat)).getD 0 else 0
def qml(env:List Signal)(a:Str):Nat->Int
 |0=>0
 |i+1=>qw (qml env a i+atV env a i)
def yR(a:Nat):Nat->Nat
 |0=>0
 |i+1=>yR a i+(if a.testBit i=true then 1 else 0)
def unW(op a:Int):Int :=
 if op=4 then b2i (decide (a=0)) else if op=5 then 65535-qw a else if op=6 then qw (0-a) else(yR (qw a).toNat 16:Int)
def j4(op a b:Int):Int :=
 if op=7 then qw (a+b) else if op=8 then qw (a-b) else if op=9 then qw (a*b)
 else if op=10 then((a.toNat &&& b.toNat:Nat):Int) else if op=11 then((a.toNat ||| b.toNat:Nat):Int) else if op=12 then((a.toNat ^^^ b.toNat:Nat):Int)
 else if op=13 then(if 0<=b/\b<16 then qw (a*2^b.toNat) else 0)
 else if op=14 then(if 0<=b/\b<16 then qw a/2^b.toNat else 0)
 else if op=15 then b2i (decide (a=b)) else if op=16 then b2i (!decide (a=b)) else if op=17 then b2i (decide (a<b)) else if op=18 then b2i (decide (a<=b))
 else if op=19 then b2i (!decide (a=0)&&!decide (b=0)) else if op=20 then b2i (!decide (a=0)||!decide (b=0))
 else b2i (decide (a=0)||!decide (b=0))
def jk(a:Int):List Int->Bool
 |x::y::r=>(decide (x<=a)&&decide (a<=y))||jk a r
 |_=>false
def opW(op:Int)(l:List Int):Int :=
 if op=22 then(if l.getD 0 0≠0 then l.getD 1 0 else l.getD 2 0)
 else if op=23 then b2i (jk (l.getD 0 0) l.tail)
 else match l with
  |[]=>0
  |[a]=>unW op a
  |a::b::_=>j4 op a b
def vB(env:List Signal)(op n:Int)(name:Str)(l:List Int):Int :=
 if op=1 then n else if op=2 then(jE env name).getD 0 else if op=3 then atV env name (l.getD 0 0) else if op=24 then qml env name 8 else opW op l
mutual
def yo(env:List Signal):Ex->Int
 |.mk op n name args=>vB env op n name (qi9 env args)
def qi9(env:List Signal):List Ex->List Int
 |[]=>[]
 |e::r=>yo env e::qi9 env r
end
@[simp]def qmG(env):∀l,qi9 env l=l.map (yo env)
 |[]=>by simp[qi9]
 |e::r=>by simp[qi9,qmG env r]
def yY(env e):yo env e=vB env e.op e.n e.name (e.args.map (yo env)):=by cases e;simp[yo]
def qiO(env:List Signal)(e:Ex):Bool :=
 if e.op=2 then(jE env e.name).isSome else if e.op=3\/e.op=24 then(jE env (zT e.name 0)).isSome else true
def jP(env:List Signal)(e:Ex):Bool:=(pre e).all (qiO env)
def qcY(env e):jP env e=(qiO env e&&e.args.all (jP env)):=by
 unfold jP;rw[jF,qCz];congr 1;generalize e.args=l
 induction l with
 |nil=>simp
 |cons a r ih=>simp[ih,qCN]
noncomputable def Qw(env:List Signal)(e:Ex):Int:=if zk e≠0 then 1 else if jP env e=true then 0 else 7
noncomputable def jB(env:List Signal)(e:Ex):Int:=if zk e=0/\jP env e=true then yo env e else 0
def kc(e:Ex):Prop:=∀x∈pre e,qt x=0
def kc.self{e}(h:kc e):qt e=0:=h e (by rw[jF];simp)
def kc.arg{e a}(h:kc e)(ha:a∈e.args):kc a:=fun x hx=>h x (by rw[jF];exact qCK _ (Z6.2 ⟨a,ha,hx⟩))
def v7{e}(h:zk e=0):kc e:=by
 unfold zk at h;split at h
 . cases h
 exact zC.1 h
def jm{e}(h:qt e=0):1<=e.op/\e.op<=25/\(e.op=1->0<=e.n/\e.n<=65535)/\(e.op≠1->e.n=0)/\qk e=true/\(e.op=2->wq e.name=true)/\(e.op=3\/e.op=24->z8 e.name=true)/\(¬(e.op=2\/e.op=3\/e.op=24)->e.name=[]):=by
 unfold qt at h;split at h
 . cases h
 rename_i h1;split at h
 . cases h
 rename_i h2;split at h
 . cases h
 rename_i h3;split at h
 . cases h
 rename_i h4;refine⟨by omega,by omega,fun h=>?_,fun h=>?_,?_,fun h=>?_,fun h=>?_,fun h=>?_⟩
 . apply Classical.byContradiction;intro hn;exact h2 (.inl ⟨h,by omega⟩)
 . apply Classical.byContradiction;intro hn;exact h2 (.inr ⟨h,hn⟩)
 . cases ho:qk e with
   |true=>rfl
   |false=>exact absurd (.inr ho) h3
 . cases ho:wq e.name with
   |true=>rfl
   |false=>exact absurd (.inl ⟨h,ho⟩) h4
 . cases ho:z8 e.name with
   |true=>rfl
   |false=>exact absurd (.inr ⟨h,ho⟩) h4
 apply Classical.byContradiction;intro hn;exact h3 (.inl ⟨h,hn⟩)
def vA{e}(h:qk e=true)(h23:e.op≠23):(e.args.length:Int)=zB e.op:=by
 unfold qk at h;rw[if_neg h23]at h;simpa using h
def Zs{e}(h:qk e=true)(h23:e.op=23):e.args.length%2=1/\3<=e.args.length/\e.args.length<=33:=by
 unfold qk at h;rw[if_pos h23]at h;simpa using h
def Z0(a):∀i,yR a i<=i
 |0=>qBl _
 | i+1=>by
  have:=Z0 a i;simp only[yR];split<;>omega
def Wu{env name v}(h:jE env name=some v):0<=v/\v<=65535:=by
 unfold jE at h;obtain⟨s,_,rfl⟩:=qBj.1 h;exact qv _
def JN{o:Option Int}(h:∀v,o=some v->0<=v/\v<=65535):0<=o.getD 0/\o.getD 0<=65535:=by
 cases o with
 |none=>simp
 |some v=>exact h v rfl
def qlU(env a i):0<=atV env a i/\atV env a i<=65535:=by
 unfold atV;split
 . exact JN fun v h=>Wu h
 omega
def qhA(env a):∀i,0<=qml env a i/\qml env a i<=65535
 |0=>by simp[qml]
 |i+1=>qv _
def qji(op a):0<=unW op a/\unW op a<=65535:=by
 unfold unW;split
 . exact WO _
 split
 . have:=qv a;omega
 split
 . exact qv _
 have:=Z0 (qw a).toNat 16;omega
def Kw{a:Int}(n:Nat)(h0:0<=a)(h1:a<=65535):0<=a/2^n/\a/2^n<=65535:=by
 have hp:(0:Int)<2^n:=qE4 (by omega);refine⟨Int.ediv_nonneg h0 (by omega),?_⟩;have:=Int.ediv_le_self (2^n) h0;omega
def InW(n:Int):Prop:=0<=n/\n<=65535
def InW.ite{c:Prop}[Decidable c]{a b}(ha:InW a)(hb:InW b):InW (if c then a else b):=by
 split
 . exact ha
 exact hb
def qiC(op){a b}(ha0:0<=a)(ha1:a<=65535)(hb0:0<=b)(hb1:b<=65535):0<=j4 op a b/\j4 op a b<=65535:=by
 obtain⟨x,rfl⟩:=qBw ha0;obtain⟨y,rfl⟩:=qBw hb0;have hx:x<2^16:=by omega
 have hy:y<2^16:=by omega
 have o1:=qEE (n:=16) x hy;have o2:=qEJ (n:=16) hx hy;have o3:=qEF (n:=16) hx hy;show InW (j4 op x y);unfold j4;simp only[qBF]
 repeat' apply InW.ite
 all_goals first|exact qv _|exact WO _|exact Kw _ (qv _).1 (qv _).2|(unfold InW;omega)
def Vl(env):∀e,kc e->0<=yo env e/\yo env e<=65535:=by
 refine qFX fun e ih hn=>?_
 have hm:∀x∈e.args.map (yo env),0<=x/\x<=65535:=by
  intro x hx;obtain⟨a,ha,rfl⟩:=qBA.1 hx;exact ih a ha (hn.arg ha)
 have hg:∀i,0<=(e.args.map (yo env)).getD i 0/\(e.args.map (yo env)).getD i 0<=65535:=by
  intro i;rw[qBi];exact JN fun v h=>hm v (qBb h)
 obtain⟨h1,h2,h3,_⟩:=jm hn.self;rw[yY];unfold vB;split
 . rename_i h;exact h3 h
 split
 . exact JN fun v h=>Wu h
 split
 . exact qlU _ _ _
 split
 . exact qhA _ _ _
 unfold opW;split
 . split
   . exact hg 1
   . exact hg 2
 split
 . exact WO _
 split
 . omega
 . exact qji _ _
 rename_i a b r hl;rw[hl]at hm;exact qiC _ (hm a (by simp)).1 (hm a (by simp)).2 (hm b (by simp)).1 (hm b (by simp)).2
def yp(l:List Var)(a:List Int):List Signal:=if a.length=l.length then(l.zip a).map fun q=>⟨q.1.name,q.2⟩ else []
def zD(q:Var×Int):Bool:=decide (0<=q.2)&&decide (q.2<2^q.1.width.toNat)&&(!decide (q.1.mode=0)||decide (q.2=q.1.value))
def qB(l:List Var)(a:List Int):Bool:=decide (a.length=l.length)&&(l.zip a).all zD
noncomputable def ko(p:Problem)(a:List Int)(e:Ex):Bool :=
 decide (qg p=0)&&qB p.vars a&&decide (Qw (yp p.vars a) e=0)&&!decide (jB (yp p.vars a) e=0)
def Kh{p}(h:qg p=0):∀v∈p.vars,j5 v=0:=by
 unfold qg at h;split at h
 . rename_i hn;exact absurd h hn
 rename_i hv;have hv:=qB2.1 hv;unfold jj at hv;split at hv
 . cases hv
 split at hv
 . rename_i hn;exact absurd hv hn
 rename_i hz;exact zC.1 (qB2.1 hz)
def zP(v:Var):Nat:=2^v.width.toNat
def qF:List Var->List Int->List Int×Bool
 | v::vs,x::xs=>
  if(qF vs xs).2=false then(x::(qF vs xs).1,false)
  else if v.mode=0 then(x::(qF vs xs).1,true)
  else if x+1<(zP v:Nat) then((x+1)::(qF vs xs).1,false)
  else(0::(qF vs xs).1,true)
 |_,_=>([],true)
def qO(vs:List Var):List Int:=vs.map fun v=>if v.mode=0 then v.value else 0
def jM:List Var->List (List Int)
 |[]=>[[]]
 |v::vs=>if v.mode=0 then(jM vs).map (v.value::·) else(List.range (zP v)).flatMap fun n:Nat=>(jM vs).map ((n:Int)::·)
def wy:List Var->List Int->List (List Int)
 |v::vs,x::xs=>if v.mode=0 then(wy vs xs).map (x::·) else(wy vs xs).map (x::·)++(List.range' (x.toNat+1) (zP v-1-x.toNat)).flatMap fun n:Nat=>(jM vs).map ((n:Int)::·)
 |_,_=>[[]]
def WR{v vs}(h:v.mode=0):jM (v::vs)=(jM vs).map (v.value::·):=by rw[jM,if_pos h]
def WS{v vs}(h:¬v.mode=0):jM (v::vs)=(List.range (zP v)).flatMap fun n:Nat=>(jM vs).map ((n:Int)::·):=by rw[jM,if_neg h]
def YU{v vs x xs}(h:v.mode=0):wy (v::vs) (x::xs)=(wy vs xs).map (x::·):=by rw[wy,if_pos h]
def QQ{v vs x xs}(h:¬v.mode=0):wy (v::vs) (x::xs)=(wy vs xs).map (x::·)++(List.range' (x.toNat+1) (zP v-1-x.toNat)).flatMap fun n:Nat=>(jM vs).map ((n:Int)::·):=by rw[wy,if_neg h]
def okA:List Var->List Int->Prop
 |[],[]=>True
 |v::vs,x::xs=>(if v.mode=0 then x=v.value else 0<=x/\x<(zP v:Nat))/\okA vs xs
 |_,_=>False
def Kv(v):0<zP v:=qD2 _
def okA.len:∀{vs:List Var}{a:List Int},okA vs a->a.length=vs.length
 |[],[],_=>rfl
 |_::vs,_::xs,h=>by simp[okA.len h.2]
 |[],_::_,h=>h.elim
 |_::_,[],h=>h.elim
def Qi:∀(vs),okA vs (qO vs)
 |[]=>trivial
 | v::vs=>by
  have:=Kv v;show okA (v::vs) ((if v.mode=0 then v.value else 0)::qO vs);refine⟨?_,Qi vs⟩;by_cases h:v.mode=0
  . rw[if_pos h,if_pos h]
  rw[if_neg h,if_neg h];omega
def Z3:∀{vs:List Var}{a:List Int},okA vs a->okA vs (qF vs a).1
 |[],[],_=>trivial
 | v::vs,x::xs,h=>by
  have h1:=Z3 h.2;have h2:=h.1;have:=Kv v;unfold qF;split
  . exact⟨h2,h1⟩
  split
  . exact⟨h2,h1⟩
  rename_i hm;rw[if_neg hm]at h2;split
  . refine⟨?_,h1⟩;rw[if_neg hm];omega
  refine⟨?_,h1⟩;rw[if_neg hm];omega
 |[],_::_,h=>h.elim
 |_::_,[],h=>h.elim
def qca:∀{vs:List Var}{a:List Int},okA vs a->(qF vs a).2=true->(qF vs a).1=qO vs
 |[],[],_,_=>rfl
 | v::vs,x::xs,h,ho=>by
  have h2:=h.1;unfold qF at ho⊢;by_cases h1:(qF vs xs).2=false
  . rw[if_pos h1]at ho;cases ho
  have h1':(qF vs xs).2=true:=by simpa using h1
  have ih:=qca h.2 h1';rw[if_neg h1]at ho⊢;show _=(if v.mode=0 then v.value else 0)::qO vs;by_cases hm:v.mode=0
  . rw[if_pos hm]at h2⊢;rw[if_pos hm,ih,h2]
  rw[if_neg hm]at ho⊢;rw[if_neg hm];by_cases hx:x+1<(zP v:Nat)
  . rw[if_pos hx]at ho;cases ho
  rw[if_neg hx,ih]
 |[],_::_,h,_=>h.elim
 |_::_,[],h,_=>h.elim
def qhR{n}(h:0<n):List.range n=0::List.range' 1 (n-1):=by
 cases n with
 |zero=>omega
 |succ n=>rw[qCd,qCx];simp
def yA:∀(vs),wy vs (qO vs)=jM vs
 |[]=>rfl
 | v::vs=>by
  show wy (v::vs) ((if v.mode=0 then v.value else 0)::qO vs)=_;by_cases h:v.mode=0
  . rw[if_pos h,YU h,WR h,yA vs]
  rw[if_neg h,QQ h,WS h,yA vs,qhR (Kv v),qBC];rfl
def Qs:∀{vs:List Var}{a:List Int},okA vs a->wy vs a=a::if(qF vs a).2=true then [] else wy vs (qF vs a).1
 |[],[],_=>rfl
 | v::vs,x::xs,h=>by
  have ih:=Qs h.2;have h2:=h.1;by_cases h1:(qF vs xs).2=false
  . have e:qF (v::vs) (x::xs)=(x::(qF vs xs).1,false):=(by rw[qF,if_pos h1]);rw[h1,if_neg (by simp)]at ih;rw[e,if_neg (by simp)];by_cases hm:v.mode=0
    . rw[YU hm,YU hm,ih];rfl
    rw[QQ hm,QQ hm,ih];rfl
  have h1':(qF vs xs).2=true:=by simpa using h1
  rw[h1',if_pos rfl]at ih;by_cases hm:v.mode=0
  . have e:qF (v::vs) (x::xs)=(x::(qF vs xs).1,true):=(by rw[qF,if_neg h1,if_pos hm]);rw[e,if_pos rfl,YU hm,ih];rfl
  rw[if_neg hm]at h2;by_cases hx:x+1<(zP v:Nat)
  . have e:qF (v::vs) (x::xs)=((x+1)::(qF vs xs).1,false):=(by rw[qF,if_neg h1,if_neg hm,if_pos hx]);have e1:(x+1).toNat=x.toNat+1:=(by omega);have e2:zP v-1-x.toNat=(zP v-1-(x.toNat+1))+1:=(by omega);have e3:((x.toNat+1:Nat):Int)=x+1:=(by omega);rw[e,if_neg (by simp),QQ hm,ih,QQ hm,qca h.2 h1',yA,e1,e2,qCx,qBC,e3];rfl
  have e:qF (v::vs) (x::xs)=(0::(qF vs xs).1,true):=by rw[qF,if_neg h1,if_neg hm,if_neg hx]
  have e2:zP v-1-x.toNat=0:=by omega
  rw[e,if_pos rfl,QQ hm,ih,e2];rfl
 |[],_::_,h=>h.elim
 |_::_,[],h=>h.elim
def ZD:∀(vs),(jM vs).length=2^((vs.map fun v=>if v.mode=0 then 0 else v.width.toNat).sum)
 |[]=>rfl
 | v::vs=>by
  by_cases h:v.mode=0
  . rw[WR h,qBM,ZD vs];simp[h]
  rw[WS h];have:∀(l:List Nat),(l.flatMap fun n:Nat=>(jM vs).map ((n:Int)::·)).length=l.length*(jM vs).length:=by
   intro l
   induction l with
   |nil=>simp
   |cons a r ih=>rw[qBC,qBe,ih,qBM,qBr,qDB,qDi]
  rw[this,qEM,ZD vs];simp only[qBn,if_neg h,qDe,Nat.pow_add,zP]
def yV:∀{vs:List Var}{a:List Int},a∈jM vs↔okA vs a
 | [],a=>by
  cases a with
  |nil=>simp[jM,okA]
  |cons x xs=>simp[jM,okA]
 | v::vs,a=>by
  by_cases h:v.mode=0
  . rw[WR h,qBA];constructor
    . rintro⟨b,hb,rfl⟩;exact⟨by rw[if_pos h],yV.1 hb⟩
    intro hk
    cases a with
    |nil=>exact hk.elim
    | cons x xs=>
     have h1:=hk.1;rw[if_pos h]at h1;exact⟨xs,yV.2 hk.2,by rw[h1]⟩
  rw[WS h,qEY];constructor
  . rintro⟨n,hn,hb'⟩;obtain⟨b,hb,rfl⟩:=qBA.1 hb';have:=qB5.1 hn;exact⟨by rw[if_neg h];omega,yV.1 hb⟩
  intro hk
  cases a with
  |nil=>exact hk.elim
  | cons x xs=>
   have h1:=hk.1;rw[if_neg h]at h1;refine⟨x.toNat,qB5.2 (by omega),qBA.2 ⟨xs,yV.2 hk.2,?_⟩⟩;rw[Int.toNat_of_nonneg h1.1]
noncomputable def ku(vs:List Var)(l:List Ex)(a:List Int):Bool:=l.all fun e=>decide (jB (yp vs a) e≠0)
noncomputable def qdS(vs:List Var)(l:List Ex):Nat->List Int->Option (List Int)×Bool
 |0,_=>(none,false)
 |k+1,a=>if ku vs l a then(some a,(qF vs a).2) else if(qF vs a).2 then(none,true) else qdS vs l k (qF vs a).1
def qgB{vs l}:∀(k){a:List Int},okA vs a->(wy vs a).length<=k->(qdS vs l k a).1=(wy vs a).find? (ku vs l)/\((qdS vs l k a).1=none->(qdS vs l k a).2=true)
 |0,a,h,hk=>by rw[Qs h]at hk;simp at hk
 | k+1,a,h,hk=>by
  rw[Qs h]at hk⊢;unfold qdS;rw[qDI];by_cases hs:ku vs l a=true
  . rw[if_pos hs,hs];exact⟨rfl,fun e=>by cases e⟩
  rw[if_neg hs];have hs':ku vs l a=false:=by simpa using hs
  rw[hs'];by_cases ho:(qF vs a).2=true
  . rw[if_pos ho,if_pos ho];exact⟨rfl,fun _=>rfl⟩
  rw[if_neg ho,if_neg ho];rw[if_neg ho]at hk;exact qgB k (Z3 h) (by simp at hk;omega)
noncomputable def jK(vs:List Var)(l:List Ex):Bool:=(jM vs).any (ku vs l)
def qol{vs l k}(hk:(jM vs).length<=k):((qdS vs l k (qO vs)).1.isSome=jK vs l)/\((qdS vs l k (qO vs)).1=none->(qdS vs l k (qO vs)).2=true):=by
 have:=qgB (l:=l) k (Qi vs) (by rwa[yA]);rw[yA]at this;refine⟨?_,this.2⟩;rw[this.1,jK];generalize jM vs=L
 induction L with
 |nil=>rfl
 |cons a r ih=>rw[qDI,qDc];cases ku vs l a<;>simp[ih]
def zd(a:List Int):List AV:=a.map (AV.int .i64 ·)
@[simp]def qbg(p:Problem)(l:List Ex)(va:AV)(over:Bool)(n:Nat):List AV:=[.sl 4 (p.vars.map qG) .none,.sl 4 (p.hard.map qp) .none,.sl 4 (p.soft.map qp) .none,.sl 2 (p.dists.map zn) .none,.sl 1 (p.groups.map qA) .none,.sl 4 (l.map qp) .none,va,.bool over,.int .i64 n]
def Ju(A t:Nat)(a:List Int):AV:=if a=[] then .sl 1 [] (.chain t 0) else .ms A 0 a.length 1
structure FndR(F A t:Nat)(p:Problem)(l:List Ex)(a:List Int)(over:Bool)(n:Nat)(H:List Blk):Prop where
 f:H[F]?=some (.cells (qbg p l (Ju A t a) over n))
 r:a≠[]->H[A]?=some (.cells (zd a))
def FndR.ne{F A t p l a over n H}(h:FndR F A t p l a over n H)(ha:a≠[]):A≠F:=by
 rintro rfl;have h1:=h.f;rw[h.r ha]at h1;simp only[zd,qbg,qBu,Blk.cells.injEq]at h1
 cases a with
 |nil=>exact ha rfl
 |cons x xs=>simp at h1
def yN{a i x}:(zd a).set i (AV.int .i64 x)=zd (a.set i x):=by simp[zd,qD7]
def qbf{a:List Int}{i:Nat}:(zd a)[i]?=(a[i]?).map (AV.int .i64 ·):=by simp[zd]
def qQ{a}:(zd a).length=a.length:=by simp[zd]
def qef{vs:List Var}{a:List Int}(hl:a.length=vs.length){m v x}(hv:vs[m]?=some v)(hx:a[m]?=some x)(ho:(qF (vs.drop (m+1)) (a.drop (m+1))).2=true):
 qF (vs.drop m) (a.drop m)=if v.mode=0 then(x::(qF (vs.drop (m+1)) (a.drop (m+1))).1,true) else if x+1<(zP v:Nat) then((x+1)::(qF (vs.drop (m+1)) (a.drop (m+1))).1,false) else(0::(qF (vs.drop (m+1)) (a.drop (m+1))).1,true):=by
 obtain⟨h1,rfl⟩:=qBa.1 hv;obtain⟨h2,rfl⟩:=qBa.1 hx;rw[qBx h1,qBx h2]
 conv=>lhs;unfold qF
 rw[ho,if_neg (by simp)]
def YL:∀{vs:List Var}{a:List Int} (hl:a.length=vs.length) (m:Nat),(qF (vs.drop m) (a.drop m)).2=false->qF vs a=(a.take m++(qF (vs.drop m) (a.drop m)).1,false)
 | vs,a,_,0,h=>by
  simp only[qCq]at h⊢;rw[qEy,qBy,<- h]
 |[],[],_,m+1,h=>by simp[qF]at h
 | v::vs,x::xs,hl,m+1,h=>by
  have ih:=YL (vs:=vs) (a:=xs) (by simpa using hl) m (by simpa using h);simp only[qDZ]at h⊢
  conv=>lhs;unfold qF
  rw[ih,if_pos rfl,qC0,qBB]
 |[],_::_,hl,_,_=>by simp at hl
 |_::_,[],hl,_,_=>by simp at hl
def ZO:∀{vs:List Var}{a:List Int},a.length=vs.length->(qF vs a).1.length=a.length
 |[],[],_=>rfl
 | v::vs,x::xs,hl=>by
  have ih:=ZO (vs:=vs) (a:=xs) (by simpa using hl);unfold qF;split
  . simp[ih]
  split
  . simp[ih]
  split<;>simp[ih]
 |[],_::_,hl=>by simp at hl
 |_::_,[],hl=>by simp at hl
def FndR.look{F A t p l a over n H}(h:FndR F A t p l a over n H)(u):FndR F A t p l a over n (H++u):=⟨qd h.f u,fun ha=>qd (h.r ha) u⟩
def qgg:∀{vs:List Var}{a:List Int}{m:Nat}{v:Var}{x:Int},okA vs a->vs[m]?=some v->a[m]?=some x->if v.mode=0 then x=v.value else 0<=x/\x<(zP v:Nat)
 | v::vs,x::xs,0,w,y,h,hv,hx=>by
  simp at hv hx;subst hv hx;exact h.1
 |v::vs,x::xs,m+1,w,y,h,hv,hx=>qgg h.2 (by simpa using hv) (by simpa using hx)
 |[],[],_,_,_,_,hv,_=>by simp at hv
 |[],_::_,_,_,_,h,_,_=>h.elim
 |_::_,[],_,_,_,h,_,_=>h.elim
def qAx(F A t:Nat)(p:Problem)(l:List Ex)(a:List Int)(n:Nat)(H:List Blk)(T:List (Option Nat))(r:AV)(U':St):Prop :=
 r=.tup []/\U'.T=T/\FndR F A t p l (qF p.vars a).1 (qF p.vars a).2 n U'.H/\KpL [F,A] H U'.H
def qAy(F A t:Nat)(p:Problem)(l:List Ex)(a:List Int)(n:Nat)(H:List Blk)(T:List (Option Nat))(m:Nat)(ev:Env)(U:St):Prop :=
 ev 0=.ptr F 0/\ev 2=.int .i64 ((m:Int)-1)/\m<=a.length/\(qF (p.vars.drop m) (a.drop m)).2=true/\∃H',U=⟨H',T⟩/\KpL [F,A] H H'/\FndR F A t p l (a.take m++(qF (p.vars.drop m) (a.drop m)).1) false n H'
def qiI{F A t p l a n H}(T)(h:FndR F A t p l a false n H)(hl:a.length=p.vars.length)(hl2:a.length<=1000)(hok:okA p.vars a)(hw:∀v∈p.vars,0<=v.width/\v.width<=28):
 qj prog GG 302 [.ptr F 0] ⟨H,T⟩ (qAx F A t p l a n H T):=by
 refine okzA func302 rfl rfl ?_;have hF:=h.f;have hFl:=(qBa.1 hF).1;by_cases ha:a=[]
 . subst ha;have hv:=qBo hl.symm;have hs:qF p.vars []=([],true):=(by rw[hv];rfl);simp[hF,Ju];refine qFE (fun m ev U=>ev 0=.ptr F 0/\ev 2=.int .i64 (-1)/\U=⟨H,T⟩) 0 ⟨by simp,by simp;decide,rfl⟩ ?_;rintro m ev U R hR ⟨e0,e2,rfl⟩;simp[e0,e2,hF];refine⟨rfl,rfl,⟨?_,fun h=>?_⟩,?_⟩
   . rw[hs];simp[hFl,Ju]
   . rw[hs]at h;exact absurd rfl h
   exact qF8 (by simp)
 have hA:=h.r ha;have hne:=h.ne ha;have hrow:∀b:List Int,b.length=a.length->Ju A t b=.ms A 0 a.length 1:=fun b hb=>by
  unfold Ju;rw[if_neg (by rintro rfl;exact ha (qBo hb.symm)),hb]
 rw[qbg,hrow a rfl]at hF;simp[hF];refine qFE (fun m ev U=>qAy F A t p l a n H T m ev U) a.length ?_ ?_
 . refine⟨by simp,by simp;rw[wr (by omega) (by omega)],qBl _,?_,H,rfl,qF5,?_⟩
   . rw[hl,qCg,<- hl,qCg];rfl
   . rw[qCg,hl,qCg,<- hl,qCX];show FndR F A t p l (a++[]) false n H
     rwa[qBU]
 rintro m ev U R hR ⟨e0,e2,hm,ho,H',rfl,hk,hfr⟩;have hF':=hfr.f;have hF'l:=(qBa.1 hF').1;have hdl:(a.drop m).length=(p.vars.drop m).length:=by simp[hl]
 have hcl:(a.take m++(qF (p.vars.drop m) (a.drop m)).1).length=a.length:=by rw[qBe,ZO hdl];simp;omega
 rw[qbg,hrow _ hcl]at hF';have hcn:a.take m++(qF (p.vars.drop m) (a.drop m)).1≠[]:=fun e=>ha (qBo (by rw[<- hcl,e];rfl))
 have hA':=hfr.r hcn
 cases m with
 | zero=>
  simp[e0,e2,hF'];simp only[qCq,qEy,qBy]at ho hfr hcl hA';refine⟨rfl,rfl,⟨?_,fun _=>?_⟩,hk.trans (qF8 (by simp))⟩
  . rw[qBg hF'l,qbg,hrow _ hcl,ho]
  rw[qBd (Ne.symm hne)];exact hA'
 | succ m=>
  have hma:m<a.length:=by omega
  obtain⟨x,hx⟩:∃x,a[m]?=some x:=⟨_,qBc hma⟩;obtain⟨v,hv⟩:∃v,p.vars[m]?=some v:=⟨_,qBc (by omega)⟩;have hst:=qef hl hv hx ho;have hpre:=YL hl m;have hwv:=hw v (qBb hv);have hs1:=wN hwv.1 hwv.2;have e2':ev 2=.int .i64 (m:Int):=by rw[e2];congr 1;omega
  have hw1:=wr (n:=(m:Int)-1) (by omega) (by omega);have hokx:v.mode≠0->0<=x/\x<(zP v:Nat):=fun hm0=>by
   have:=qgg hok hv hx
   rwa[if_neg hm0]at this
  have hsz:zP v<=2^28:=qBL (by omega) (by omega);have htk:a.take (m+1)=a.take m++[x]:=by rw[qBG,hx];rfl
  have hdm:(a.drop m).length=(p.vars.drop m).length:=by simp[hl]
  have hS:(a.take m).length+((qF (p.vars.drop (m+1)) (a.drop (m+1))).1.length+1)=a.length:=by
   rw[htk]at hcl;simpa using hcl
  rw[htk]at hfr hcl hA';generalize (qF (p.vars.drop (m+1)) (a.drop (m+1))).1=S at *;have hpl:(a.take m).length=m:=by simp;omega
  generalize hP:a.take m=P at *;simp only[qBQ,qCW]at hfr hcl hA';have hen:∀y,zd (P++y::S)=zd P++.int .i64 y::zd S:=fun y=>by simp[zd]
  have hepl:(zd P).length=m:=by rw[qQ,hpl]
  have hg:∀y,(zd P++AV.int .i64 y::zd S)[m]?=some (.int .i64 y):=fun y=>by
   rw[qBm (by omega),hepl,qB9];rfl
  have hd:∀y,(zd P++AV.int .i64 y::zd S).drop m=.int .i64 y::zd S:=fun y=>by
   rw[qCT (by omega),qBS (by omega)];rfl
  have hst2:∀y z,(zd P++AV.int .i64 y::zd S).set m (.int .i64 z)=zd P++.int .i64 z::zd S:=fun y z=>by
   rw[qBY _ _ (by omega),hepl,qB9];rfl
  have hlen2:∀y,(zd P++AV.int .i64 y::zd S).length=a.length:=fun y=>by
   rwa[qBe,qBr,qQ,qQ]
  rw[hen]at hA';have hAl':=(qBa.1 hA').1;have hFset:∀y,(H'.set A y)[F]?=some (.cells (qbg p l (.ms A 0 a.length 1) false n)):=fun y=>by rwa[qBd hne]
  have hAset:∀y,(H'.set A y)[A]?=some y:=fun y=>qBg hAl'
  have hml:m<p.vars.length:=by omega
  have hma1:m+1<=a.length:=hma;simp only[qbg]at hF' hFset;by_cases hm0:v.mode=0
  . rw[if_pos hm0]at hst;simp[e0,e2',hF',hv,hm0,hw1];refine hR m _ _ (by omega) ⟨by simp[e0],by simp,by omega,by rw[hst],H',rfl,hk,?_⟩
    rwa[hst,hP]
  have hx0:=hokx hm0;have hwx:=wr (n:=x+1) (by omega) (by omega);rw[if_neg hm0]at hst;have hwn:¬v.width<0:=by omega
  have hszv:zP v=2^v.width.toNat:=rfl;rw[<- hszv]at hs1;by_cases hx1:x+1<(zP v:Nat)
  . rw[if_pos hx1]at hst;have hpr:=hpre (by rw[hst]);rw[hst]at hpr;simp only at hpr;simp[e0,e2',hF',hv,hm0,hw1,hA',hd,hst2,hlen2,hwx,hFset,hAset,hs1,hma,hma1,hwn,IntKind.bits,hx1];have hL:(P++(x+1)::S).length=a.length:=(by rw[<- qQ,hen];exact hlen2 _);refine⟨rfl,rfl,⟨?_,fun _=>?_⟩,hk.trans (qF8 (by simp))⟩
    . rw[hpr,qbg,hrow _ hL];exact hFset _
    rw[hpr,hen];exact hAset _
  rw[if_neg hx1]at hst;simp[e0,e2',hF',hv,hm0,hw1,hA',hd,hst2,hlen2,hwx,hFset,hAset,hs1,hma,hma1,hwn,IntKind.bits,hx1];have hL:(P++0::S).length=a.length:=by rw[<- qQ,hen];exact hlen2 _
  refine hR m _ _ (by omega) ⟨by simp[e0],by simp,by omega,by rw[hst],_,rfl,hk.trans (qF8 (by simp)),?_⟩;rw[hst,hP];refine⟨?_,fun _=>?_⟩
  . rwa[qbg,hrow _ hL,qBd hne]
  rw[hen];exact qBg hAl'
def wL(l:List Var)(a:List Int):List Signal:=(l.zip a).map fun q=>⟨q.1.name,q.2⟩
def Qx(l a):yp l a=if a.length=l.length then wL l a else []:=rfl
def vG{l:List Var}{a:List Int}{i:Nat}{v:Var}{x:Int}(h:l[i]?=some v)(h':a[i]?=some x):(wL l a)[i]?=some ⟨v.name,x⟩:=by
 unfold wL;rw[qBD,(qCS (z:=(v,x))).2 ⟨h,h'⟩];rfl
def yL{l a}(h:a.length=l.length):(wL l a).length=l.length:=by simp[wL,h]
def qbe{l a}:(yp l a).length<=l.length:=by
 rw[Qx];split
 . rename_i h;rw[yL h];exact qBl _
 simp
def qz2(p:Problem)(a:List Int)(H:List Blk)(T:List (Option Nat))(r:AV)(U':St):Prop :=
 U'.T=T/\KpL [] H U'.H/\∃b,jC b 2 qH U'.H r (yp p.vars a)/\H.length<=b
def qld{vs a i v x}(h:vs[i]?=some v)(h':a[i]?=some x):(wL vs a).take (i+1)=(wL vs a).take i++[⟨v.name,x⟩]:=by
 rw[qBG,vG h h'];rfl
def qf2:List (Nat×Sch×List Nat):=[(7,.step 0 [10,9] (.step 1 [10,9,8,7,2] (.step 2 [10,9,8,7] (.step 3 [10,9,8,7,6,5] (.step 4 [10,9,8,7,6,5] (.step 5 [10,9,8,7,6] (.step 6 [10,9,8,7] (.step 7 [10,9,8] (.step 8 [10,9] (.step 9 [10] (.step 10 [] (.done))))))))))),[])]
def qsX{A t}(p a)(hlen:a.length=p.vars.length)(hl:p.vars.length<=1000){H}(T)(hr:a≠[]->H[A]?=some (.cells (zd a))):
 qj prog GG 112 [.agg (qu p),Ju A t a] ⟨H,T⟩ (qz2 p a H T):=by
 refine qFy ⟨true,qf2,[],[]⟩ qX func112 rfl (by kernel_rfl) ?_;by_cases ha:a=[]
 . subst ha;have hv:=qBo hlen.symm;have hen:yp p.vars []=[]:=(by rw[hv];rfl);have hQ:∀u,qz2 p [] H T (.sl 0 [] .nil) ⟨H++u,T⟩:=fun u=>⟨rfl,qF7,H.length,.inl ⟨hen,rfl⟩,qBl _⟩
   simp[Ju,hv];refine qFE (fun n ev U=>ev 5=.sl 0 [] .nil/\ev 16=.int .i64 0/\ev 17=.int .i64 0/\∃u,U=⟨H++u,T⟩) 0 ⟨by simp,by simp,by simp,_,rfl⟩ ?_;rintro n ev U R hR ⟨e5,e16,e17,u,rfl⟩;simp[e5,e16,e17];exact hQ u
 have hrow:Ju A t a=.ms A 0 a.length 1:=if_neg ha;have hA:=hr ha;have hE:=yL hlen;have hen:yp p.vars a=wL p.vars a:=by rw[Qx,if_pos hlen]
 rw[hrow];simp[hlen];refine qFP p.vars (fun d ev U=>ev 1=.ms A 0 p.vars.length 1/\ev 15=.sl 4 (p.vars.map qG) .none/\ev 16=.int .i64 p.vars.length/\ev 17=.int .i64 d.length /\
  ∃H' b,U=⟨H',T⟩/\KpL [] H H'/\H.length<=b/\jC b 2 qH H' (ev 5) ((wL p.vars a).take d.length)) ?_ ?_ ?_
 . exact⟨by simp[],by simp,by simp,by simp,_,H.length,rfl,qF7,qBl _,.inl ⟨by simp,by simp⟩⟩
 . rintro d v rest ev U R hR hd hx hlt ⟨e1,e15,e16,e17,H',b,rfl,hk,hb,ho⟩;have hw:=wr (n:=(d.length:Int)+1) (by omega) (by omega);obtain⟨x,hxa⟩:∃x,a[d.length]?=some x:=⟨_,qBc (by omega)⟩;have hA':H'[A]?=some (.cells (zd a)):=hk.2 _ _ hA (by simp);have hdr:(zd a).drop d.length=.int .i64 x::(zd a).drop (d.length+1):=by
    obtain⟨h1,h2⟩:=qBa.1 (by rw[qbf,hxa];rfl);rw[qBx h1,h2]
   have hl1:d.length+1<=(zd a).length:=(by rw[qQ];omega);have hl2':d.length+1<=p.vars.length:=(by omega);have ho':jC b 2 qH (H'++[.cells (qG v)]) (ev 5) ((wL p.vars a).take d.length):=ho.keep fun y _ h=>qd h _
   obtain⟨v',b',H2,hY,ho2,hb2,hk2,hl2⟩:=ho'.appendK (P:=prog) (G:=zh GG) (o:=⟨true,qf2,[],[]⟩) (T:=T) (m:=[⟨v.name,x⟩]) (tok:=.tight) qAs rfl qAr rfl (by omega) rfl (by decide) (fun x=>rfl) (by simp;omega);have hkH2:KpL [] H H2:=⟨by have:=hk.1;simp at hl2;omega,fun k y hk1 _=>hk2 _ _ (qd (hk.2 k y hk1 (by simp)) _) (by
    have:=(qBa.1 hk1).1;right;omega)⟩
   simp only[qBn,qBN,qH,qG]at hY ho';generalize hv5:ev 5=v5 at *;simp[-getElem?_pos,e15,e16,e17,hlt,hx];rw[qP rfl];simp[-getElem?_pos,zc,hv5,hY,e1,e17,hlt,qd hA',hdr,hl1,zt,zX,qM,qe,ql,hw];refine hR _ _ ⟨by simp[e1],by simp[e15],by simp[e16],by simp,H2,b',rfl,hkH2,?_,?_⟩
   . rcases hb2 with rfl|rfl
     . exact hb
     . have:=hk.1;simp;omega
   have:=qld hx hxa;simp only[qBe,qBK];rw[this];simpa using ho2
 rintro ev U ⟨e1,e15,e16,e17,H',b,rfl,hk,hb,ho⟩;simp[e16,e17];rw[qBh (by rw[hE];exact qBl _)]at ho;exact⟨rfl,hk,b,by rw[hen];exact ho,hb⟩
def qg5(b:Nat)(H:List Blk)(v:AV)(a:List Int):Prop:=(a=[]/\∃sz tok,v=.sl sz [] tok)\/(a≠[]/\v=.ms b 0 a.length 1/\H[b]?=some (.cells (zd a)))
def qAt(a:List Int)(H:List Blk)(T:List (Option Nat))(r:AV)(U':St):Prop:=U'.T=T/\KpL [] H U'.H/\∃b,qg5 b U'.H r a/\H.length<=b
def qoY{A t}(a)(hl:a.length<=1000){H}(T)(hr:a≠[]->H[A]?=some (.cells (zd a))):
 qj prog GG 48 [Ju A t a] ⟨H,T⟩ (qAt a H T):=by
 refine qFy ⟨true,[],[],[]⟩ qX func48 rfl (by kernel_rfl) ?_;by_cases ha:a=[]
 . subst ha;simp[Ju,zr,zY,qr,qR,YM,qZ];exact⟨⟨rfl,qF5,H.length,.inl ⟨rfl,_,_,rfl⟩,qBl _⟩,⟨rfl,qF5,H.length,.inl ⟨rfl,_,_,rfl⟩,qBl _⟩⟩
 have hrow:Ju A t a=.ms A 0 a.length 1:=if_neg ha;have hA:=hr ha;have h1:(zd a).take a.length=zd a:=qBh (by rw[qQ];exact qBl _);rw[hrow];simp[hA,zr,zY,qR,YM,qQ,h1,show a.length<=549755813888 by omega,ha];exact⟨rfl,qF7,H.length,.inr ⟨ha,by simp⟩,qBl _⟩
def zj(e):(qp e).length=4:=by rw[qc];rfl
def jw(e):(qp e).all AV.atom=true:=by
 rw[qc];simp
def yP(e):qV (.agg (qp e))=some (qp e):=by rw[qc];simp[qV,AV.atom]
def qmd{cs}(h:cs.all AV.atom=true):qV (.agg cs)=some cs:=by simp only[qV,h,if_true]
def putAt_all:∀(c new),c.length=new.length->zx c 0 new=new:=by
 have gen:∀(new pre c:List AV),c.length=new.length->zx (pre++c) pre.length new=pre++new:=by
  intro new
  induction new with
  |nil=>intro pre c h;have:c=[]:=qEd.1 h;subst this;simp[zx]
  | cons v r ih=>
   intro pre c h
   cases c with
   |nil=>simp at h
   | cons x c=>
    have:=ih (pre++[v]) c (by simpa using h);simp only[qBQ,qCW,qBe,qBK]at this;rw[zx]
    rwa[show(pre++x::c).set pre.length v=pre++v::c by simp]
 intro c new h;simpa using gen new [] c h
structure Near(c:List AV)(Y):Prop where
 len:c.length=4
 atoms:c.all AV.atom=true
 leq:zm c (qp Y)
 nr:qx c=true
def Ql{a b r s}(h1:a=b\/(zm a b/\b.all AV.atom=true))(h2:yq r s):yq (a::r) (b::s):=by
 simp only[yq];exact⟨h1,h2⟩
def qgq:yq [] []:=by simp only[yq]
def Near.row{c Y}(h:Near c Y):c=qp Y\/(zm c (qp Y)/\(qp Y).all AV.atom=true):=.inr ⟨h.leq,jw Y⟩
def qnU(Y):Near (qp Y) Y:=⟨zj Y,jw Y,qFH _,qw0 Y⟩
def qse{o n:Int}{s:Str}{rows:List (List AV)}{args:List Ex}(h:yq rows (args.map qp))(hn:q9 rows=true):Near [.int .i64 o,.int .i64 n,.str s,.sl 4 rows .tight] (.mk o n s args):=by
 refine⟨rfl,rfl,?_,?_⟩
 . rw[qc];simp only[zm,Leq,and_true,true_and,qFu,Ex.n_mk,qFv,qFw];exact .inr ⟨h,.inl trivial⟩
 simp[hn]
def Near.four{c Y}(h:Near c Y):∃c0 c1 c2 c3,c=[c0,c1,c2,c3]:=by
 have:=h.len
 match c,this with
 |[c0,c1,c2,c3],_=>exact⟨c0,c1,c2,c3,rfl⟩
def Near.fin{c0 c1 c2 c3 Y}(h:Near [c0,c1,c2,c3] Y)(H):k0 H c0=c0/\k0 H c1=c1/\k0 H c2=c2/\k0 H c3=c3:=by
 have:=h.nr;simp only[qx,qBf,and_true]at this;exact⟨QT this.1,QT this.2.1,QT this.2.2.1,QT this.2.2.2⟩
def wru{n}(h0:0<=n)(h1:n<18446744073709551616):IntKind.u64.wrap n=n:=by
 simp[IntKind.wrap,IntKind.bits,IntKind.signed];omega
def qaE(n:Nat)(h:n<9223372036854775808):Pure prog GG 261 [.int .i64 n] (.int .u64 n):=by
 refine okzP func261 rfl rfl ?_;have h1:=wru (n:=n) (by omega) (by omega);simp[show ¬(n:Int)<0 by omega,yF,h1]
def qcf(n:Nat)(h:n<18446744073709551616):Pure prog GG 262 [.bool false,.int .u64 n] (if n<9223372036854775808 then .tup [.int .i64 n,.int .i64 0] else .tup [.int .i64 0,.int .i64 3]):=by
 refine okzP func262 rfl rfl ?_;by_cases hn:n<9223372036854775808
 . have h1:=wr (n:=n) (by omega) (by omega);have h2:(n:Int)<9223372036854775808:=(by omega);simp[hn,h2,yF,h1]
 have h2:¬(n:Int)<9223372036854775808:=by omega
 simp[hn,h2]
def qir:∀(b a:Nat),a<18446744073709551616->b<18446744073709551616->Pure prog GG 312 [.int .u64 a,.int .u64 b] (.int .u64 (Nat.gcd a b:Nat)):=by
 intro b a ha hb;refine okzP func312 rfl rfl ?_;simp;refine qFE (fun n ev U=>∃x y:Nat,n=y/\x<18446744073709551616/\y<18446744073709551616/\ev 0=.int .u64 x/\ev 1=.int .u64 y/\Nat.gcd x y=Nat.gcd a b) b ⟨a,b,rfl,ha,hb,by simp⟩ ?_;rintro y ev U R hR ⟨x,_,rfl,hx,hy,h0,h1,hg⟩;by_cases hz:y=0
 . subst hz;simp at hg;simp[h0,h1,hg]
 simp[h0,h1,hz];refine hR (x%y) _ _ (qDP _ (by omega)) ⟨y,x%y,rfl,hy,qCP (Nat.mod_le _ _) hx,by simp,by simp[qB4],?_⟩
 rwa[qD9 y,<- Nat.gcd_rec,qD9]
def qtp(n m:Nat)(h:n%4294967296=m):zA .and .u64 n 4294967295=some (.int .u64 m):=by
 have h1:((BitVec.ofInt 64 n &&& BitVec.ofInt 64 4294967295).toNat:Int)=m:=by
  rw[BitVec.toNat_and,BitVec.toNat_ofInt];rw[show(BitVec.ofInt 64 4294967295).toNat=2^32-1 by decide,qDK];omega
 show some (AV.int .u64 (IntKind.u64.wrap ((BitVec.ofInt 64 n &&& BitVec.ofInt 64 4294967295).toNat:Int)))=_;rw[h1,wru (by omega) (by omega)]
def qjB(n m:Nat)(h:n/4294967296=m):(n:Int).fdiv 4294967296=m:=by
 rw[qDv _ (by omega)];omega
def qwF(a b c:Nat)(h:a*b=c)(hc:c<18446744073709551616):zA .mul .u64 a b=some (.int .u64 c):=by
 show some (AV.int .u64 (IntKind.u64.wrap ((a:Int)*b)))=_;rw[<- Int.natCast_mul,h,wru (by omega) (by omega)]
def qwG(a b c:Nat)(h:a+b=c)(hc:c<18446744073709551616):zA .add .u64 a b=some (.int .u64 c):=by
 show some (AV.int .u64 (IntKind.u64.wrap ((a:Int)+b)))=_;rw[<- qEs,h,wru (by omega) (by omega)]
def qx8(a b c d:Nat)(h:a*b=18446744073709551616*d+c)(hc:c<18446744073709551616):zA .mul .u64 a b=some (.int .u64 c):=by
 show some (AV.int .u64 (IntKind.u64.wrap ((a:Int)*b)))=_;rw[<- Int.natCast_mul,h];simp only[IntKind.wrap,IntKind.bits,IntKind.signed];simp;omega
def qqd(x)(hx:x<18446744073709551616):∃a b:Nat,x%4294967296=a/\x/4294967296=b/\x=4294967296*b+a/\a<=4294967295/\b<=4294967295:=⟨_,_,rfl,rfl,by omega,by omega,by omega⟩
def qyj:((2:Int)^min 32 IntKind.u64.bits)=4294967296:=by decide
def qcN(x y hi lo:Nat)(hx:x<18446744073709551616)(hy:y<18446744073709551616)(hh:x*y=18446744073709551616*hi+lo)(hlo:lo<18446744073709551616):
 Pure prog GG 116 [.int .u64 x,.int .u64 y] (.tup [.int .u64 hi,.int .u64 lo]):=by
 have hlast:=qx8 x y lo hi hh hlo;have key:∃x0 x1 y0 y1 p00 p10 t t0 t1 q r p01 p11 u v w:Nat,zA .and .u64 x 4294967295=some (.int .u64 x0)/\(x:Int).fdiv 4294967296=x1/\zA .and .u64 y 4294967295=some (.int .u64 y0)/\(y:Int).fdiv 4294967296=y1 /\
  zA .mul .u64 x0 y0=some (.int .u64 p00)/\zA .mul .u64 x1 y0=some (.int .u64 p10)/\(p00:Int).fdiv 4294967296=q/\zA .add .u64 p10 q=some (.int .u64 t)/\zA .and .u64 t 4294967295=some (.int .u64 t0)/\(t:Int).fdiv 4294967296=t1 /\
  zA .mul .u64 x0 y1=some (.int .u64 p01)/\zA .add .u64 t0 p01=some (.int .u64 r)/\zA .mul .u64 x1 y1=some (.int .u64 p11)/\zA .add .u64 p11 t1=some (.int .u64 u)/\(r:Int).fdiv 4294967296=v/\zA .add .u64 u v=some (.int .u64 hi):=by
  obtain⟨x0,x1,a1,a2,a3,a4,a5⟩:=qqd x hx;obtain⟨y0,y1,b1,b2,b3,b4,b5⟩:=qqd y hy;have m11:=qDn a5 b5;have m10:=qDn a5 b4;have m01:=qDn a4 b5;have m00:=qDn a4 b4;have hp:x*y=18446744073709551616*(x1*y1)+4294967296*(x1*y0)+4294967296*(x0*y1)+x0*y0:=by
   rw[a3,b3,qCl,qE6,qE6,Nat.mul_mul_mul_comm,qDU 4294967296 x1 y0,Nat.mul_left_comm x0 4294967296 y1];omega
  rw[hh]at hp;obtain⟨p11,e11⟩:∃p,x1*y1=p:=⟨_,rfl⟩;obtain⟨p10,e10⟩:∃p,x1*y0=p:=⟨_,rfl⟩;obtain⟨p01,e01⟩:∃p,x0*y1=p:=⟨_,rfl⟩;obtain⟨p00,e00⟩:∃p,x0*y0=p:=⟨_,rfl⟩;rw[e11]at hp m11;rw[e10]at hp m10;rw[e01]at hp m01;rw[e00]at hp m00;obtain⟨q,eq⟩:∃p,p00/4294967296=p:=⟨_,rfl⟩;obtain⟨t,et⟩:∃p,p10+q=p:=⟨_,rfl⟩;obtain⟨t0,et0⟩:∃p,t%4294967296=p:=⟨_,rfl⟩;obtain⟨t1,et1⟩:∃p,t/4294967296=p:=⟨_,rfl⟩;obtain⟨r,er⟩:∃p,t0+p01=p:=⟨_,rfl⟩;obtain⟨u,eu⟩:∃p,p11+t1=p:=⟨_,rfl⟩;obtain⟨v,ev⟩:∃p,r/4294967296=p:=⟨_,rfl⟩;exact⟨x0,x1,y0,y1,p00,p10,t,t0,t1,q,r,p01,p11,u,v,0,qtp _ _ a1,qjB _ _ a2,qtp _ _ b1,qjB _ _ b2,qwF _ _ _ e00 (by omega),qwF _ _ _ e10 (by omega),qjB _ _ eq,qwG _ _ _ et (by omega),qtp _ _ et0,qjB _ _ et1,
   qwF _ _ _ e01 (by omega),qwG _ _ _ er (by omega),qwF _ _ _ e11 (by omega),qwG _ _ _ eu (by omega),qjB _ _ ev,qwG _ _ _ (by omega) (by omega)⟩
 obtain⟨x0,x1,y0,y1,p00,p10,t,t0,t1,q,r,p01,p11,u,v,_,k1,k2,k3,k4,k5,k6,k7,k8,k9,k10,k11,k12,k13,k14,k15,k16⟩:=key;refine okzP func116 rfl rfl ?_;simp[-zA,qyj,k1,k2,k3,k4,k5,k6,k7,k8,k9,k10,k11,k12,k13,k14,k15,k16,hlast]
def Yg(n:Nat):Int×Int:=if n<9223372036854775808 then(n,0) else(0,3)
def qkk(a b:Nat)(ha:a<9223372036854775808)(hb:b<9223372036854775808):Pure prog GG 187 [.int .i64 a,.int .i64 b] (.tup [.int .i64 (Yg (a*b)).1,.int .i64 (Yg (a*b)).2]):=by
 obtain⟨hi,lo,hh,hlo⟩:∃hi lo,a*b=18446744073709551616*hi+lo/\lo<18446744073709551616:=⟨_,_,(Nat.div_add_mod _ _).symm,qDP _ (by omega)⟩;have hm:=qcN a b hi lo (by omega) (by omega) hh hlo;have hs1:=qaE a ha;have hs2:=qaE b hb;have hsg:=qcf lo hlo;refine okzP func187 rfl rfl ?_;generalize hr:Yg (a*b)=r;have hm:=qcN a b hi lo (by omega) (by omega) hh hlo;simp;refine qFz hs1 rfl ?_;simp;refine qFz hs2 rfl ?_;simp;refine qFz hm rfl ?_;simp;refine⟨fun h0=>?_,fun h0=>?_⟩
 . have h0':¬a*b<9223372036854775808:=(by omega);simp[Yg,h0']at hr;subst hr;simp
 have:a*b=lo:=by omega
 simp[show ¬(a:Int)<0 by omega,show ¬(b:Int)<0 by omega];refine qFz hsg rfl ?_;rw[this]at hr;unfold Yg at hr;split at hr<;>subst hr<;>rename_i h<;>simp[h]
def qvo(a b:Nat)(ha:0<a)(hb:0<b)(ha1:a<9223372036854775808)(hb1:b<9223372036854775808):Pure prog GG 259 [.int .i64 a,.int .i64 b] (.tup [.int .i64 (Yg (Nat.lcm a b)).1,.int .i64 (Yg (Nat.lcm a b)).2]):=by
 have hg:=qE1 b ha;have hgl:=qDw ha (qDE a b);have hlcm:a/Nat.gcd a b*b=Nat.lcm a b:=by
  unfold Nat.lcm;exact qFa (qDE a b) b
 have hq:a/Nat.gcd a b<=a:=qCp _ _;obtain⟨g,hge⟩:∃g,Nat.gcd a b=g:=⟨_,rfl⟩;obtain⟨q,hqe⟩:∃q,a/g=q:=⟨_,rfl⟩;obtain⟨l,hle⟩:∃l,Nat.lcm a b=l:=⟨_,rfl⟩;have hd:=qir b a (by omega) (by omega);rw[hge]at hg hgl hlcm hq hd;rw[hqe]at hlcm hq;rw[hle]at hlcm⊢;obtain⟨hi,lo,hh,hlo⟩:∃hi lo,l=18446744073709551616*hi+lo/\lo<18446744073709551616:=⟨_,_,(Nat.div_add_mod _ _).symm,qDP _ (by omega)⟩;have hm:=qcN q b hi lo (by omega) (by omega) (by omega) hlo;have hs1:=qaE a ha1;have hs2:=qaE b hb1;have hsg:=qcf lo hlo;have hdiv:(a:Int).tdiv g=q:=by
  rw[qCG (by omega)];omega
 have hqu:=wru (n:=q) (by omega) (by omega);generalize hr:Yg l=r;refine okzP func259 rfl rfl ?_;simp[show ¬a=0 by omega,show ¬b=0 by omega];refine qFz hs1 rfl ?_;simp;refine qFz hs1 rfl ?_;simp;refine qFz hs2 rfl ?_;simp;refine qFz hd rfl ?_;simp[show ¬g=0 by omega,hdiv,hqu];refine qFz hs2 rfl ?_;simp;refine qFz hm rfl ?_;simp;refine⟨fun h0=>?_,fun h0=>?_⟩
 . have h0':¬l<9223372036854775808:=(by omega);simp[Yg,h0']at hr;subst hr;simp
 have:l=lo:=by omega
 refine qFz hsg rfl ?_;rw[this]at hr;unfold Yg at hr;split at hr<;>subst hr<;>rename_i h<;>simp[h]
