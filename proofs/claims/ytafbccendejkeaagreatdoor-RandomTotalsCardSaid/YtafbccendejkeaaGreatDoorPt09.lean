import Derived.Test.YtafbccendejkeaaGreatDoorPt07
import Derived.Test.YtafbccendejkeaaGreatDoorPt08
set_option maxRecDepth 100000
set_option maxHeartbeats 16000000
set_option linter.all false
set_option linter.defProp false
namespace Go.Proofs.YtafbccendejkeaaGreatDoor
open Go Go.Abs Tryz
@[simp]def qH(n:Nd):List AV:=[.int .i64 n.1,.int .i64 n.2.1,.int .i64 n.2.2]
@[simp]def qzN(l:List Nd):qZ (l.map qH)=true:=zp (fun x=>by simp) l
@[simp]def zF(d:List Nd):List AV:=[.sl 3 (d.map qH) .none]
def ndE(q:Nd×AV×Nat):AV×AV×Nat:=(.agg (qH q.1),q.2.1,q.2.2)
def qki(a b):QT (.agg (qH a)) (.agg (qH b))=some (decide (a=b)):=by
 obtain⟨a1,a2,a3⟩:=a;obtain⟨b1,b2,b3⟩:=b;simp only[QT,qH,jg,kQ,if_true];congr 1;rw[qBd];simp;omega
def qkI(n):zG (Dof prog) 150 (.agg (qH n))=true:=by
 simp[zG,K8,km,qQ,z7,qBF]
def Jo{n}:∀(E:List (Nd×AV×Nat)) (s),(∀q∈E,q.1≠n)->jP (.agg (qH n)) (E.map ndE) s=some none
 |[],_,_=>rfl
 | q::E,s,h=>by
  have h0:=h q (by simp);simp only[qAz,ndE,jP,qki];have:decide (n=q.1)=false:=by simpa using fun e=>h0 e.symm
  rw[this];exact Jo E (s+1) fun x hx=>h x (by simp[hx])
def qaD{n}:∀(E:List (Nd×AV×Nat)) (s),(E.map (·.1)).Nodup->∀q∈E,q.1=n->∃j,jP (.agg (qH n)) (E.map ndE) s=some (some (s+j,q.2.1))/\E[j]?=some q
 |[],_,_,q,hq,_=>by cases hq
 | e::E,s,hn,q,hq,hqn=>by
  simp only[qAz,qCi]at hn;simp only[qAz,ndE,jP,qki];by_cases h0:n=e.1
  . have:decide (n=e.1)=true:=by simpa using h0
    rw[this];rcases qAM.1 hq with rfl|hq
    . exact⟨0,by simp,by simp⟩
    exact absurd (qAN.2 ⟨q,hq,by rw[hqn,h0]⟩) hn.1
  have:decide (n=e.1)=false:=by simpa using h0
  rw[this];rcases qAM.1 hq with rfl|hq
  . exact absurd hqn.symm h0
  obtain⟨j,h1,h2⟩:=qaD E (s+1) hn.2 q hq hqn;exact⟨j+1,by simp only[h1];congr 3;omega,by simpa using h2⟩
def qpv:Pure prog GG 77 [] (.agg (zF [(20,0,0),(20,1,1)])):=by
 refine qEG qe func77 rfl (by kernel_rfl) ?_;simp[zs,zW,qM,qf,qm]
def qys(a b):qaX (Dof prog) 150 (qH a) (qH b)=some (decide (a=b)):=by
 have:=qki a b;simp only[QT]at this;simp[qaX,K8,km,qQ,z7,qBF];simpa using this
def qoa(l)(hl:Fits l):Pure prog GG 223 [.sl 3 (l.map qH) .none,.sl 3 (l.map qH) .none] (.bool true):=by
 refine qEG qe func223 rfl (by kernel_rfl) ?_;simp;refine qEZ l (fun d ev U=>ev 0=.sl 3 (l.map qH) .none/\ev 1=.sl 3 (l.map qH) .none/\ev 12=.int .i64 l.length/\ev 13=.int .i64 d.length) ?_ ?_ ?_
 . simp
 . rintro d n rest ev U R hR hd hx hlt ⟨e0,e1,e12,e13⟩;have he:=qys n n;simp only[qH]at he;simp[-getElem?_pos,e0,e1,e12,e13,hlt,hx,he,show IntKind.i64.wrap ((d.length:Int)+1)=(d.length+1:Nat) by rw[wr (by omega) (by omega)];omega];exact hR _ _ ⟨by simp[e0],by simp[e1],by simp[e12],by simp⟩
 rintro ev U ⟨e0,e1,e12,e13⟩;simp[e12,e13]
def qss(d)(h:DagOk d):Pure prog GG 145 [.sl 3 (d.map qH) .none] (.bool true):=by
 refine qEG qe func145 rfl (by kernel_rfl) ?_;have ht:d.take 2=[(20,0,0),(20,1,1)]:=by
  have a:=h.n0;have b:=h.n1
  match d,a,b with
  |[],a,_=>cases a
  |[_],_,b=>cases b
  |x::y::r,a,b=>simp at a b;subst a b;rfl
 have he:=qoa [(20,0,0),(20,1,1)] (by simp);simp[show(2:Int)<=d.length by have:=h.two;omega,show(d.length:Int)<=8192 by have:=h.most;omega,zj,zS,y8,zU,<- List.map_take,ht];refine qEJ qpv (by simp) ?_;simp;refine qEJ he (by simp) ?_;simp
def qjJ(d)(h:DagOk d)(i)(hi:2<=i)(hl:i<d.length):Pure prog GG 146 [.sl 3 (d.map qH) .none,.int .i64 i] (.bool true):=by
 obtain⟨n,hn⟩:∃n,d[i]?=some n:=⟨_,qAo hl⟩;obtain⟨g1,g2,g3,g4,g5,g6⟩:=h.node i n hi hn;obtain⟨x,hx⟩:∃x,d[n.2.1]?=some x:=⟨_,qAo (by omega)⟩;obtain⟨y,hy⟩:∃y,d[n.2.2]?=some y:=⟨_,qAo (by omega)⟩;rw[zQ hx]at g5;rw[zQ hy]at g6;refine qEG qe func146 rfl (by kernel_rfl) ?_;have q1:(n.1:Int)<20:=by omega
 have q2:(n.2.1:Int)<i:=by omega
 have q3:(n.2.2:Int)<i:=by omega
 have q4:¬(n.2.1:Int)=n.2.2:=by omega
 obtain⟨a,b,c⟩:=n;simp only at *;simp[hn,q1,q2,q3,q4,hx,hy,wQ];split<;>omega
def ZC(d:List Nd):List (Nd×AV×Nat):=(d.zipIdx).map fun q=>(q.1,.bool true,q.2)
def qhp(d n):ZC (d++[n])=ZC d++[(n,.bool true,d.length)]:=by
 simp[ZC,qDf]
def qjh(d):(ZC d).map (·.1)=d:=by simp[ZC,qBR,Function.comp_def]
def qjg{d n}(h:n∉d):∀q∈ZC d,q.1≠n:=fun q hq e=>h (by
 have:q.1∈(ZC d).map (·.1):=qAN.2 ⟨q,hq,rfl⟩;rw[qjh]at this;exact e▸this)
def Wj(d)(h:DagOk d):Pure prog GG 92 [.agg (zF d)] (.bool true):=by
 have hmost:=h.most;refine qEG qe func92 rfl (by kernel_rfl) ?_;simp;refine qEJ (qss d h) (by simp) ?_;simp;refine qEZ d (fun s ev U=>ev 1=.ptr 0 0/\ev 3=.map 1/\ev 12=.sl 3 (d.map qH) .none/\ev 13=.int .i64 d.length/\ev 14=.int .i64 s.length/\∃t,U=⟨.cells (zF d)::.map ((ZC s).map ndE) s.length::t,[]⟩) ?_ ?_ ?_
 . exact⟨by simp,by simp,by simp,by simp,by simp,[],by simp[ZC]⟩
 . rintro s n rest ev U R hR hd hx hlt ⟨e1,e3,e12,e13,e14,t,rfl⟩;have hdw:IntKind.i64.wrap ((s.length:Int)+1)=(s.length+1:Nat):=(by rw[wr (by omega) (by omega)];omega);have hns:n∉s:=by
    have:=h.nodup;rw[hd]at this;intro hm;exact(qBV.1 this).2.2 n hm n (by simp) rfl
   have hfind:=Jo (n:=n) (ZC s) 0 (qjg hns);have hfit:=qkI n;have hlk:∀(T:List (Option Nat)) (u:List Blk),zA (Dof prog) ⟨.cells (zF d)::.map ((ZC s).map ndE) s.length::u,T⟩ 197 (.map 1) (.agg (qH n)) false=some (.bool false):=by
    intro T u;simp only[zA,qzi,hfit,if_true];simp[-qH,hfind,qbs]
   have hup:∀(T:List (Option Nat)) (u:List Blk),zg (Dof prog) ⟨.cells (zF d)::.map ((ZC s).map ndE) s.length::u,T⟩ 197 (.map 1) (.agg (qH n)) (.bool true)=some ⟨.cells (zF d)::.map ((ZC (s++[n])).map ndE) (s.length+1)::u,T⟩:=by
    intro T u;simp only[zg,qzi,hfit,if_true];simp[-qH,hfind,qhp,ndE]
   simp only[qH]at hlk hup;have hgo:∀(ev':Env) (u:List Blk),ev' 1=.ptr 0 0->ev' 3=.map 1->ev' 12=.sl 3 (d.map qH) .none->ev' 13=.int .i64 d.length->ev' 14=.int .i64 (s.length+1:Nat)->R ev' ⟨.cells (zF d)::.map ((ZC (s++[n])).map ndE) (s.length+1)::u,[]⟩ :=
    fun ev' u a1 a2 a3 a4 a5=>hR _ _ ⟨a1,a2,a3,a4,by simpa using a5,u,by simp⟩
   simp only[zF]at hlk hup hgo;by_cases h2:2<=s.length
   . have h2':(2:Int)<=s.length:=(by omega);simp[-getElem?_pos,e1,e12,e13,e14,hlt,hx,h2'];refine qEJ (qjJ d h s.length h2 hlt) (by simp) ?_;simp[-getElem?_pos,e3,e14,hlk,hup,hdw];exact hgo _ _ (by simp[e1]) (by simp[e3]) (by simp[e12]) (by simp[e13]) (by simp)
   have h2':¬(2:Int)<=s.length:=(by omega);simp[-getElem?_pos,e3,e12,e13,e14,hlt,hx,h2',hup,hdw];exact hgo _ _ (by simp[e1]) (by simp[e3]) (by simp[e12]) (by simp[e13]) (by simp)
 rintro ev U ⟨e1,e3,e12,e13,e14,t,rfl⟩;simp[-getElem?_pos,e13,e14]
def qhZ(n):Pure prog GG 355 [.int .i64 n] (.bool (decide (0<=n)&&decide (n<20))):=by
 refine qEG qe func355 rfl (by kernel_rfl) ?_;by_cases h:0<=n<;>simp[h]
def qpH(d)(h:DagOk d)(l:List Nat)(hl:l.length<=100)(hi:∀i∈l,i<d.length)(tok:Tok):Pure prog GG 204 [.agg (zF d),.sl 1 (l.map fun i:Nat=>[.int .i64 i]) .none] (.bool true):=by
 refine qEG qe func204 rfl (by kernel_rfl) ?_;simp;refine qEJ (Wj d h) (by simp) ?_;simp;refine qEZ l (fun s ev U=>ev 1=.sl 1 (l.map fun i:Nat=>[.int .i64 i]) .none/\ev 2=.ptr 0 0/\ev 10=.sl 1 (l.map fun i:Nat=>[.int .i64 i]) .none/\ev 11=.int .i64 l.length/\ev 12=.int .i64 s.length/\U=⟨[.cells (zF d)],[]⟩) ?_ ?_ ?_
 . simp
 . rintro s i rest ev U R hR hd hx hlt ⟨e1,e2,e10,e11,e12,rfl⟩;have h1:=hi i (qAn hx);simp[-getElem?_pos,e2,e10,e11,e12,hlt,hx,h1,show IntKind.i64.wrap ((s.length:Int)+1)=(s.length+1:Nat) by rw[wr (by omega) (by omega)];omega];exact hR _ _ ⟨by simp[e1],by simp[e2],by simp[e10],by simp[e11],by simp,rfl⟩
 rintro ev U ⟨e1,e2,e10,e11,e12,rfl⟩;simp[e11,e12]
def qtp(d:List Nd)(full:Bool):AV:=.rptr [.sl 3 (d.map qH) .none,.any,.bool full]
def Jt(d:List Nd)(full one:Bool)(f L:Nat)(hf:f<d.length):Pure prog GG 277 [qtp d full,.int .i64 f,.int .i64 L,.bool one] (.int .i64 (yd d f L one:Nat)):=by
 obtain⟨n,hn⟩:∃n,d[f]?=some n:=⟨_,qAo hf⟩;refine qEG qe func277 rfl (by kernel_rfl) ?_;generalize hr:yd d f L one=r;unfold yd at hr;rw[hn]at hr;simp only at hr;by_cases hl:n.1=L
 . rw[if_pos hl]at hr;have hl':(n.1:Int)=L:=(by omega);cases one
   . simp at hr;subst hr;simp[qtp,hn,hl']
   simp at hr;subst hr;simp[qtp,hn,hl']
 rw[if_neg hl]at hr;subst hr;simp[qtp,hn,show ¬(n.1:Int)=L by omega]
def KpL(bs:List Nat)(H H':List Blk):Prop:=H.length<=H'.length/\∀(k) (x),H[k]?=some x->k∉bs->H'[k]?=some x
def KpL.refl{bs H}:KpL bs H H:=⟨qAy _,fun _ _ h _=>h⟩
def qFf:=@KpL.refl
def KpL.trans{bs H H' H''}(h:KpL bs H H')(h':KpL bs H' H''):KpL bs H H'':=⟨qBf h.1 h'.1,fun k x hk h1=>h'.2 k x (h.2 k x hk h1) h1⟩
def qFg:=@KpL.trans
def KpL.app{bs H t}:KpL bs H (H++t):=⟨by simp,fun k x hk _=>qd hk t⟩
def qFh:=@KpL.app
def KpL.set{bs H b y}(hb:b∈bs):KpL bs H (H.set b y):=⟨by simp,fun k x hk hn=>by
 rw[qAp (by rintro rfl;exact hn hb)];exact hk⟩
def qFi:=@KpL.set
def KpL.sub{bs cs H H'}(h:KpL bs H H')(hs:∀b∈bs,b∈cs):KpL cs H H':=⟨h.1,fun k x hk hn=>h.2 k x hk fun hb=>hn (hs k hb)⟩
def KpL.setF{bs H H' b y}(h:KpL bs H H')(hb:H.length<=b):KpL bs H (H'.set b y):=⟨by rw[qBK];exact h.1,fun k x hk hn=>by
 have:=(qAm.1 hk).1;rw[qAp (by omega)];exact h.2 k x hk hn⟩
def atE(d:List Nd):List (Nd×AV×Nat):=d.zipIdx.map fun q=>(q.1,.int .i64 q.2,q.2)
structure BR(B M t:Nat)(d:List Nd)(full:Bool)(U:St):Prop where
 b:U.H[B]?=some (.cells [.sl 3 (d.map qH) (.chain t d.length),.map M,.bool full])
 m:U.H[M]?=some (.map ((atE d).map ndE) d.length)
 t:U.T[t]?=some (some d.length)
def BR.ne{B M t d full U}(h:BR B M t d full U):B≠M:=by
 rintro rfl;have:=h.b;rw[h.m]at this;cases this
def qlz(d):(atE d).map (·.1)=d:=by simp[atE,qBR,Function.comp_def]
def qgJ(d n):atE (d++[n])=atE d++[(n,.int .i64 d.length,d.length)]:=by
 simp[atE,qDf]
def qly{d n}(h:n∉d):∀q∈atE d,q.1≠n:=fun q hq e=>h (by
 have:q.1∈(atE d).map (·.1):=qAN.2 ⟨q,hq,rfl⟩;rw[qlz]at this;exact e▸this)
def qsM{d:List Nd}{n:Nd}{i:Nat}(h:d[i]?=some n):(n,AV.int .i64 i,i)∈atE d:=by
 refine qAN.2 ⟨(n,i),?_,rfl⟩;exact List.mem_zipIdx_iff_getElem?.2 h
def qcn(w:Int):List Int:=(List.range (2^w.toNat)).map fun n:Nat=>(n:Int)
def qjR(w):(qcn w).length=2^w.toNat:=by simp[qcn]
def qjS{w d r v}(h:qcn w=d++v::r):v=d.length:=by
 have h1:(qcn w)[d.length]?=some v:=by rw[h];simp
 unfold qcn at h1;rw[qAR]at h1;obtain⟨m,hm,e⟩:=qAu.1 h1;obtain⟨_,hm⟩:=qAm.1 hm;simp at hm;omega
def wB{w:Int}(h0:0<=w)(h1:w<=28):IntKind.i64.wrap (2^(min w.toNat 64))=((2^w.toNat:Nat):Int):=by
 have hp:(2:Nat)^w.toNat<=2^28:=qAV (by omega) (by omega);rw[show min w.toNat 64=w.toNat by omega,show((2:Int)^w.toNat)=((2^w.toNat:Nat):Int) by simp];generalize 2^w.toNat=N at hp;exact wr (by omega) (by omega)
def qeH{α:Type}(p:α->Bool)(d:List α)(v:α):(d++[v]).filter p=if p v then d.filter p++[v] else d.filter p:=by
 rw[qDh];cases h:p v<;>simp[h]
@[simp]def qza(c:List (List Int)):List AV:=[.sl 1 (c.map qx) .none]
structure NodeR(B M t d full)(U:St)(d' full' i U'):Prop where
 br:BR B M t d' full' U'
 kp:KpL [B,M] U.H U'.H
 gr:za d d'
 ok:DagOk d'
 lt:i<d'.length
 mono:full=true->full'=true
 fl:full'=true->8192<=d'.length
def qyA(B M t:Nat)(d:List Nd)(full:Bool)(U:St)(lv lo hi:Nat)(r:AV)(U':St):Prop :=
 ∃d' full' i,r=.int .i64 (i:Nat)/\NodeR B M t d full U d' full' i U'/\(full'=false->lv<=lvD d' i/\∀b,evD d' b i=evD d' b (if b lv then hi else lo))
def qjV{B M t d full U}(h:BR B M t d full U)(hd:DagOk d){lv lo hi}(hlv:lv<20)(hlo:lo<d.length)(hhi:hi<d.length)(hfl:full=true->8192<=d.length)(h1:full=false->lv<lvD d lo)(h2:full=false->lv<lvD d hi) :
 qg prog GG 278 [.ptr B 0,.int .i64 lv,.int .i64 lo,.int .i64 hi] U (qyA B M t d full U lv lo hi):=by
 refine qEI qe func278 rfl (by kernel_rfl) ?_;obtain⟨H,T⟩:=U;have hB:=h.b;have hM:=h.m;have hT:=h.t;have hne:=h.ne;simp only at hB hM hT;by_cases hlh:lo=hi
 . subst hlh;simp;exact⟨d,full,lo,rfl,⟨h,qFf,qFe d,hd,hlo,id,hfl⟩,fun hf=>⟨by have:=h1 hf;omega,by simp⟩⟩
 have hlh':¬(lo:Int)=hi:=by omega
 have hfit:=qkI (lv,lo,hi);have hBl:=(qAm.1 hB).1;have hMl:=(qAm.1 hM).1;by_cases hin:(lv,lo,hi)∈d
 . obtain⟨i,hi1⟩:=qA5 hin;obtain⟨j,hf1,hf2⟩:=qaD (n:=(lv,lo,hi)) (atE d) 0 (by rw[qlz];exact hd.nodup) _ (qsM hi1) rfl;have hlk:∀(u:List Blk) (T:List (Option Nat)),zA (Dof prog) ⟨H++u,T⟩ 309 (.map M) (.agg (qH (lv,lo,hi))) true=some (.tup [.int .i64 i,.bool true]):=by
    intro u T;simp only[zA,qw6,hfit,if_true];simp[-qH,qd hM,hf1]
   simp only[qH]at hlk;simp[hlh',qd hB,hlk];refine⟨d,full,i,rfl,⟨⟨qd hB _,qd hM _,hT⟩,qFh,qFe d,hd,(qAm.1 hi1).1,id,hfl⟩,fun _=>⟨by rw[zQ hi1];exact qAy _,fun b=>?_⟩⟩;refine QJ hd b (n:=(lv,lo,hi)) ?_ hi1;apply Classical.byContradiction;intro hc;have:i=0\/i=1:=by omega
   rcases this with rfl|rfl
   . have e:=hd.n0;rw[hi1]at e;simp at e;omega
   have e:=hd.n1;rw[hi1]at e;simp at e;omega
 have hfind:=Jo (n:=(lv,lo,hi)) (atE d) 0 (qly hin);have hlk:∀(u:List Blk) (T:List (Option Nat)),zA (Dof prog) ⟨H++u,T⟩ 309 (.map M) (.agg (qH (lv,lo,hi))) true=some (.tup [.int .i64 0,.bool false]):=by
  intro u T;simp only[zA,qw6,hfit,if_true];simp[-qH,qd hM,hfind,qbs]
 simp only[qH]at hlk;by_cases hm:8192<=d.length
 . have hm':(8192:Int)<=d.length:=(by omega);simp[hlh',qd hB,hlk,hm',ku hB];refine⟨d,true,0,rfl,⟨⟨?_,?_,hT⟩,?_,qFe d,hd,by have:=hd.two;omega,fun _=>rfl,fun _=>hm⟩,fun e=>by cases e⟩
   . exact qd (by rw[qAt hBl]) _
   . exact qd (by rw[qAp hne];exact hM) _
   exact(qFi (by simp)).trans qFh
 have hm':¬(8192:Int)<=d.length:=by omega
 have hup:∀(u:List Blk) (T:List (Option Nat)),zg (Dof prog) ⟨H++u,T⟩ 309 (.map M) (.agg (qH (lv,lo,hi))) (.int .i64 d.length)=some ⟨H.set M (.map ((atE (d++[(lv,lo,hi)])).map ndE) (d++[(lv,lo,hi)]).length)++u,T⟩:=by
  intro u T;simp only[zg,qw6,hfit,if_true];simp[-qH,qd hM,hfind,ku hM,qgJ,ndE]
 have happ:∀(H':List Blk),qr (Dof prog) ⟨H',T⟩ 62 (.sl 3 (d.map qH) (.chain t d.length)) (.sl 3 [qH (lv,lo,hi)] .tight)=some (.sl 3 ((d++[(lv,lo,hi)]).map qH) (.chain t (d++[(lv,lo,hi)]).length),⟨H',T.set t (some (d++[(lv,lo,hi)]).length)⟩):=by
  intro H';have:d.length+1<=549755813888:=by omega
  simp[-qH,qr,qY,hT,this]
 simp only[qH]at hup happ;have hB2:∀y:Blk,(H.set M y)[B]?=some (.cells [.sl 3 (d.map qH) (.chain t d.length),.map M,.bool full]):=fun y=>by
  rw[qAp (Ne.symm hne)];exact hB
 have hdl:(d++[(lv,lo,hi)]).length=d.length+1:=by simp
 have hg:za d (d++[(lv,lo,hi)]):=⟨_,rfl⟩;have hff:full=false:=by cases full with|true=>exact absurd (hfl rfl) hm|false=>rfl
 have hnew:=qol hd (n:=(lv,lo,hi)) (by omega) hlv hlo hhi hlh (h1 hff) (h2 hff) hin;have hlast:(d++[(lv,lo,hi)])[d.length]?=some (lv,lo,hi):=by simp
 generalize hD:d++[(lv,lo,hi)]=D at *;generalize hY:Blk.map ((atE D).map ndE) D.length=Y at *;have hl2:=fun u=>qd (hB2 Y) u
 have hs2:=fun u z=>ku (hB2 Y) u z
 have hl3:∀(z:Blk) (u:List Blk),((H.set M Y).set B z++u)[B]?=some z:=fun z u=>qd (by rw[qAt (by rw[qBK];exact hBl)]) u
 have hl4:∀(x:Blk),(H.set M Y++[x])[H.length]?=some x:=fun x=>by rw[qAw (by simp)];simp
 simp[hlh',qd hB,hlk,hm',hup,hl2,hs2,happ,hl3,hl4,show IntKind.i64.wrap ((D.length:Int)-1)=(d.length:Nat) by rw[wr (by omega) (by omega)];omega];refine⟨D,full,d.length,rfl,⟨⟨hl3 _ _,?_,(qAt (qAm.1 hT).1)⟩,?_,hg,hnew,by omega,id,fun e=>by rw[hff]at e;cases e⟩,fun _=>⟨by rw[zQ hlast];exact qAy _,fun b=>QJ hnew b (n:=(lv,lo,hi)) hd.two hlast⟩⟩
 . rw[hY.symm];refine qd ?_ _;rw[qAp hne,qAt hMl]
 exact((qFi (by simp)).trans (qFi (by simp))).trans qFh
def qvM(d:List Nd)(H:List Blk)(T:List (Option Nat))(r:AV)(U':St):Prop:=r=.sl 3 (d.map qH) (.chain T.length d.length)/\U'=⟨H,T++[some d.length]⟩
def qot(d)(h0:d≠[])(hl:d.length<=100000)(H T):qg prog GG 276 [.sl 3 (d.map qH) .none] ⟨H,T⟩ (qvM d H T):=by
 obtain⟨x,r,rfl⟩:=qC4 h0;refine qEI qe func276 rfl (by kernel_rfl) ?_;simp[-qH,qr,qY,qf,qm,show r.length+1<=549755813888 by simp at hl;omega];exact⟨by simp,by simp⟩
def qvN(d:List Nd)(H:List Blk)(r:AV)(U':St):Prop:=∃B M t,r=.ptr B 0/\BR B M t d false U'/\KpL [] H U'.H/\H.length<=B/\H.length<=M
def qgG(d)(h:DagOk d)(H T):qg prog GG 205 [.agg (zF d)] ⟨H,T⟩ (qvN d H):=by
 refine qEI qe func205 rfl (by kernel_rfl) ?_;have h2:=h.two;have hmost:=h.most;have h0:d≠[]:=fun e=>by rw[e]at h2;simp at h2
 simp;refine qEM (qot d h0 (by omega) _ _) ?_;rintro v U' ⟨rfl,rfl⟩;simp[zs,zW,qM];refine qEZ d (fun s ev U=>ev 1=.ptr H.length 0/\ev 3=.ptr (H.length+1+1) 0/\ev 13=.sl 3 (d.map qH) .none/\ev 14=.int .i64 d.length/\ev 15=.int .i64 s.length /\
  ∃t,U=⟨H++(.cells (zF d)::.map ((atE s).map ndE) s.length::.cells [.sl 3 (d.map qH) (.chain T.length d.length),.map (H.length+1),.bool false]::t),T++[some d.length]⟩) ?_ ?_ ?_
 . exact⟨by simp,by simp,by simp,by simp,by simp,[],by simp[atE]⟩
 . rintro s n rest ev U R hR hd hx hlt ⟨e1,e3,e13,e14,e15,t,rfl⟩;have hns:n∉s:=by
    have:=h.nodup;rw[hd]at this;intro hm;exact(qBV.1 this).2.2 n hm n (by simp) rfl
   have hfind:=Jo (n:=n) (atE s) 0 (qly hns);have hfit:=qkI n;generalize hCB:Blk.cells [.sl 3 (d.map qH) (.chain T.length d.length),.map (H.length+1),.bool false]=CB at *;generalize hCD:Blk.cells (zF d)=CD at *;have hgo:∀(ev':Env) (u:List Blk),ev' 1=.ptr H.length 0->ev' 3=.ptr (H.length+1+1) 0->ev' 13=.sl 3 (d.map qH) .none->ev' 14=.int .i64 d.length->ev' 15=.int .i64 (s.length+1:Nat)->R ev' ⟨H++(CD::.map ((atE (s++[n])).map ndE) (s++[n]).length::CB::t)++u,T++[some d.length]⟩ :=
    fun ev' u a1 a2 a3 a4 a5=>hR _ _ ⟨a1,a2,a3,a4,by simpa using a5,t++u,by simp⟩
   obtain⟨W,hW⟩:∃W,H++(CD::Blk.map ((atE s).map ndE) s.length::CB::t)=W:=⟨_,rfl⟩;obtain⟨W',hW'⟩:∃W,H++(CD::Blk.map ((atE (s++[n])).map ndE) (s++[n]).length::CB::t)=W:=⟨_,rfl⟩;have hlb:W[H.length+1+1]?=some CB:=by
    rw[<- hW,qAw (by omega)];simp[show H.length+1+1-H.length=2 by omega]
   have hlm:W[H.length+1]?=some (.map ((atE s).map ndE) s.length):=by
    rw[<- hW,qAw (by omega)];simp
   have hset:W.set (H.length+1) (Blk.map ((atE (s++[n])).map ndE) (s++[n]).length)=W':=by
    rw[<- hW,<- hW',qBc _ _ (by omega)];simp
   have hup:∀(u:List Blk) (T:List (Option Nat)),zg (Dof prog) ⟨W++u,T⟩ 309 (.map (H.length+1)) (.agg (qH n)) (.int .i64 s.length)=some ⟨W'++u,T⟩:=by
    intro u T;simp only[zg,qw6,hfit,if_true];simp only[qd hlm,hfind,ku hlm,<- hset];simp[-qH,qgJ,ndE]
   simp only[qH]at hup;rw[hW']at hgo;rw[hW];subst hCB;simp[-getElem?_pos,e3,e13,e14,e15,hlt,hx,qd hlb,hup,show IntKind.i64.wrap ((s.length:Int)+1)=(s.length+1:Nat) by rw[wr (by omega) (by omega)];omega];exact hgo _ _ (by simp[e1]) (by simp[e3]) (by simp[e13]) (by simp[e14]) (by simp)
 rintro ev U ⟨e1,e3,e13,e14,e15,t,rfl⟩;simp[e3,e14,e15];refine⟨H.length+1+1,H.length+1,T.length,rfl,⟨?_,?_,?_⟩,qFh,by omega,by omega⟩
 . show(H++_)[_]?=_;rw[qAw (by omega)];simp[show H.length+1+1-H.length=2 by omega]
 . show(H++_)[_]?=_;rw[qAw (by omega)];simp
 simp
def qyD(t:Nat)(d:List Nd)(full:Bool)(f:Nat)(U:St)(r:AV)(U':St):Prop :=
 (r=if full=true then .tup [.agg [.sl 0 [] .nil],.int .i64 0,.int .i64 2] else .tup [.agg [.sl 3 (d.map qH) (.chain t d.length)],.int .i64 f,.int .i64 0])/\KpL [] U.H U'.H/\U'.T=U.T
def qkZ{B M t d full U}(h:BR B M t d full U)(f:Nat):qg prog GG 206 [.ptr B 0,.int .i64 f] U (qyD t d full f U):=by
 refine qEI qe func206 rfl (by kernel_rfl) ?_;obtain⟨H,T⟩:=U;have hB:=h.b;simp only at hB;cases full
 . simp[-getElem?_pos,qd hB,zs,zW,qM];exact⟨rfl,qFh,rfl⟩
 simp[-getElem?_pos,qd hB,zs,zW];exact⟨rfl,qFh,rfl⟩
def qvB(p q r):Pure prog GG 136 [.bool p,.bool q,.bool r] (.bool (p&&q)):=by
 refine qEG qe func136 rfl (by kernel_rfl) ?_;cases p<;>cases q<;>simp
def qxK(p q r):Pure prog GG 313 [.bool p,.bool q,.bool r] (.bool (p||q)):=by
 refine qEG qe func313 rfl (by kernel_rfl) ?_;cases p<;>cases q<;>simp
def quv(p q r):Pure prog GG 315 [.bool p,.bool q,.bool r] (.bool (!p)):=by
 refine qEG qe func315 rfl (by kernel_rfl) ?_;cases p<;>simp[unA]
def qtC(p q r):Pure prog GG 356 [.bool p,.bool q,.bool r] (.bool (p ^^ q)):=by
 refine qEG qe func356 rfl (by kernel_rfl) ?_;cases p<;>cases q<;>simp[qQ]
def qlh(p q r):Pure prog GG 316 [.bool p,.bool q,.bool r] (.bool (p&&q||!p&&r)):=by
 refine qEG qe func316 rfl (by kernel_rfl) ?_;cases p<;>cases q<;>cases r<;>simp[unA]
def qv(n:Int):Int:=n%65536
def qu(n):0<=qv n/\qv n<=65535:=by unfold qv;omega
def Qu{n}(h0:0<=n)(h1:n<=65535):qv n=n:=by unfold qv;omega
def b2i(b:Bool):Int:=if b=true then 1 else 0
def Wu(b):0<=b2i b/\b2i b<=65535:=by cases b<;>simp[b2i]
def jA(env:List Signal)(name:Str):Option Int:=(env.find? fun s=>s.name==name).map fun s=>qv s.value
def atV(env:List Signal)(a:Str)(i:Int):Int:=if 0<=i/\i<8 then(jA env (zT a i.toNat)).getD 0 else 0
def ql0(env:List Signal)(a:Str):Nat->Int
 |0=>0
 |i+1=>qv (ql0 env a i+atV env a i)
def yJ(a:Nat):Nat->Nat
 |0=>0
 |i+1=>yJ a i+(if a.testBit i=true then 1 else 0)
def unW(op a:Int):Int :=
 if op=4 then b2i (decide (a=0)) else if op=5 then 65535-qv a else if op=6 then qv (0-a) else(yJ (qv a).toNat 16:Int)
def jU(op a b:Int):Int :=
 if op=7 then qv (a+b) else if op=8 then qv (a-b) else if op=9 then qv (a*b)
 else if op=10 then((a.toNat &&& b.toNat:Nat):Int) else if op=11 then((a.toNat ||| b.toNat:Nat):Int) else if op=12 then((a.toNat ^^^ b.toNat:Nat):Int)
 else if op=13 then(if 0<=b/\b<16 then qv (a*2^b.toNat) else 0)
 else if op=14 then(if 0<=b/\b<16 then qv a/2^b.toNat else 0)
 else if op=15 then b2i (decide (a=b)) else if op=16 then b2i (!decide (a=b)) else if op=17 then b2i (decide (a<b)) else if op=18 then b2i (decide (a<=b))
 else if op=19 then b2i (!decide (a=0)&&!decide (b=0)) else if op=20 then b2i (!decide (a=0)||!decide (b=0))
 else b2i (decide (a=0)||!decide (b=0))
def je(a:Int):List Int->Bool
 |x::y::r=>(decide (x<=a)&&decide (a<=y))||je a r
 |_=>false
def opW(op:Int)(l:List Int):Int :=
 if op=22 then(if l.getD 0 0≠0 then l.getD 1 0 else l.getD 2 0)
 else if op=23 then b2i (je (l.getD 0 0) l.tail)
 else match l with
  |[]=>0
  |[a]=>unW op a
  |a::b::_=>jU op a b
def vl(env:List Signal)(op n:Int)(name:Str)(l:List Int):Int :=
 if op=1 then n else if op=2 then(jA env name).getD 0 else if op=3 then atV env name (l.getD 0 0) else if op=24 then ql0 env name 8 else opW op l
mutual
def yf(env:List Signal):Ex->Int
 |.mk op n name args=>vl env op n name (qiQ env args)
def qiQ(env:List Signal):List Ex->List Int
 |[]=>[]
 |e::r=>yf env e::qiQ env r
end
@[simp]def qml(env):∀l,qiQ env l=l.map (yf env)
 |[]=>by simp[qiQ]
 |e::r=>by simp[qiQ,qml env r]
def yO(env e):yf env e=vl env e.op e.n e.name (e.args.map (yf env)):=by cases e;simp[yf]
def qix(env:List Signal)(e:Ex):Bool :=
 if e.op=2 then(jA env e.name).isSome else if e.op=3\/e.op=24 then(jA env (zT e.name 0)).isSome else true
def jK(env:List Signal)(e:Ex):Bool:=(pre e).all (qix env)
def qcG(env e):jK env e=(qix env e&&e.args.all (jK env)):=by
 unfold jK;rw[jB,qBH];congr 1;generalize e.args=l
 induction l with
 |nil=>simp
 |cons a r ih=>simp[ih,qBX]
noncomputable def Qk(env:List Signal)(e:Ex):Int:=if zi e≠0 then 1 else if jK env e=true then 0 else 7
noncomputable def jw(env:List Signal)(e:Ex):Int:=if zi e=0/\jK env e=true then yf env e else 0
def yV(e:Ex):Prop:=∀x∈pre e,qs x=0
def yV.self{e}(h:yV e):qs e=0:=h e (by rw[jB];simp)
def yV.arg{e a}(h:yV e)(ha:a∈e.args):yV a:=fun x hx=>h x (by rw[jB];exact qBT _ (ZP.2 ⟨a,ha,hx⟩))
def vO{e}(h:zi e=0):yV e:=by
 unfold zi at h;split at h
 . cases h
 exact zC.1 h
def ji{e}(h:qs e=0):1<=e.op/\e.op<=25/\(e.op=1->0<=e.n/\e.n<=65535)/\(e.op≠1->e.n=0)/\ql e=true/\(e.op=2->k0 e.name=true)/\(e.op=3\/e.op=24->z6 e.name=true)/\(¬(e.op=2\/e.op=3\/e.op=24)->e.name=[]):=by
 unfold qs at h;split at h
 . cases h
 rename_i h1;split at h
 . cases h
 rename_i h2;split at h
 . cases h
 rename_i h3;split at h
 . cases h
 rename_i h4;refine⟨by omega,by omega,fun h=>?_,fun h=>?_,?_,fun h=>?_,fun h=>?_,fun h=>?_⟩
 . apply Classical.byContradiction;intro hn;exact h2 (.inl ⟨h,by omega⟩)
 . apply Classical.byContradiction;intro hn;exact h2 (.inr ⟨h,hn⟩)
 . cases ho:ql e with
   |true=>rfl
   |false=>exact absurd (.inr ho) h3
 . cases ho:k0 e.name with
   |true=>rfl
   |false=>exact absurd (.inl ⟨h,ho⟩) h4
 . cases ho:z6 e.name with
   |true=>rfl
   |false=>exact absurd (.inr ⟨h,ho⟩) h4
 apply Classical.byContradiction;intro hn;exact h3 (.inl ⟨h,hn⟩)
def vk{e}(h:ql e=true)(h23:e.op≠23):(e.args.length:Int)=zB e.op:=by
 unfold ql at h;rw[if_neg h23]at h;simpa using h
def Ze{e}(h:ql e=true)(h23:e.op=23):e.args.length%2=1/\3<=e.args.length/\e.args.length<=33:=by
 unfold ql at h;rw[if_pos h23]at h;simpa using h
def ZL(a):∀i,yJ a i<=i
 |0=>qAy _
 | i+1=>by
  have:=ZL a i;simp only[yJ];split<;>omega
def K9{env name v}(h:jA env name=some v):0<=v/\v<=65535:=by
 unfold jA at h;obtain⟨s,_,rfl⟩:=qAu.1 h;exact qu _
def Jv{o:Option Int}(h:∀v,o=some v->0<=v/\v<=65535):0<=o.getD 0/\o.getD 0<=65535:=by
 cases o with
 |none=>simp
 |some v=>exact h v rfl
def qlx(env a i):0<=atV env a i/\atV env a i<=65535:=by
 unfold atV;split
 . exact Jv fun v h=>K9 h
 omega
def qhk(env a):∀i,0<=ql0 env a i/\ql0 env a i<=65535
 |0=>by simp[ql0]
 |i+1=>qu _
def qiZ(op a):0<=unW op a/\unW op a<=65535:=by
 unfold unW;split
 . exact Wu _
 split
 . have:=qu a;omega
 split
 . exact qu _
 have:=ZL (qv a).toNat 16;omega
def Kc{a:Int}(n:Nat)(h0:0<=a)(h1:a<=65535):0<=a/2^n/\a/2^n<=65535:=by
 have hp:(0:Int)<2^n:=qEc (by omega);refine⟨Int.ediv_nonneg h0 (by omega),?_⟩;have:=Int.ediv_le_self (2^n) h0;omega
def InW(n:Int):Prop:=0<=n/\n<=65535
def InW.ite{c:Prop}[Decidable c]{a b}(ha:InW a)(hb:InW b):InW (if c then a else b):=by
 split
 . exact ha
 exact hb
def qil(op){a b}(ha0:0<=a)(ha1:a<=65535)(hb0:0<=b)(hb1:b<=65535):0<=jU op a b/\jU op a b<=65535:=by
 obtain⟨x,rfl⟩:=qAH ha0;obtain⟨y,rfl⟩:=qAH hb0;have hx:x<2^16:=by omega
 have hy:y<2^16:=by omega
 have o1:=qDM (n:=16) x hy;have o2:=qDT (n:=16) hx hy;have o3:=qDN (n:=16) hx hy;show InW (jU op x y);unfold jU;simp only[qAS]
 repeat' apply InW.ite
 all_goals first|exact qu _|exact Wu _|exact Kc _ (qu _).1 (qu _).2|(unfold InW;omega)
def W0(env):∀e,yV e->0<=yf env e/\yf env e<=65535:=by
 refine qE7 fun e ih hn=>?_
 have hm:∀x∈e.args.map (yf env),0<=x/\x<=65535:=by
  intro x hx;obtain⟨a,ha,rfl⟩:=qAN.1 hx;exact ih a ha (hn.arg ha)
 have hg:∀i,0<=(e.args.map (yf env)).getD i 0/\(e.args.map (yf env)).getD i 0<=65535:=by
  intro i;rw[qAx];exact Jv fun v h=>hm v (qAn h)
 obtain⟨h1,h2,h3,_⟩:=ji hn.self;rw[yO];unfold vl;split
 . rename_i h;exact h3 h
 split
 . exact Jv fun v h=>K9 h
 split
 . exact qlx _ _ _
 split
 . exact qhk _ _ _
 unfold opW;split
 . split
   . exact hg 1
   . exact hg 2
 split
 . exact Wu _
 split
 . omega
 . exact qiZ _ _
 rename_i a b r hl;rw[hl]at hm;exact qil _ (hm a (by simp)).1 (hm a (by simp)).2 (hm b (by simp)).1 (hm b (by simp)).2
def yg(l:List Var)(a:List Int):List Signal:=if a.length=l.length then(l.zip a).map fun q=>⟨q.1.name,q.2⟩ else []
def zD(q:Var×Int):Bool:=decide (0<=q.2)&&decide (q.2<2^q.1.width.toNat)&&(!decide (q.1.mode=0)||decide (q.2=q.1.value))
def qC(l:List Var)(a:List Int):Bool:=decide (a.length=l.length)&&(l.zip a).all zD
noncomputable def kc(p:Problem)(a:List Int)(e:Ex):Bool :=
 decide (qk p=0)&&qC p.vars a&&decide (Qk (yg p.vars a) e=0)&&!decide (jw (yg p.vars a) e=0)
def YY{p}(h:qk p=0):∀v∈p.vars,jW v=0:=by
 unfold qk at h;split at h
 . rename_i hn;exact absurd h hn
 rename_i hv;have hv:=qBt.1 hv;unfold jd at hv;split at hv
 . cases hv
 split at hv
 . rename_i hn;exact absurd hv hn
 rename_i hz;exact zC.1 (qBt.1 hz)
def zP(v:Var):Nat:=2^v.width.toNat
def qF:List Var->List Int->List Int×Bool
 | v::vs,x::xs=>
  if(qF vs xs).2=false then(x::(qF vs xs).1,false)
  else if v.mode=0 then(x::(qF vs xs).1,true)
  else if x+1<(zP v:Nat) then((x+1)::(qF vs xs).1,false)
  else(0::(qF vs xs).1,true)
 |_,_=>([],true)
def zz(vs:List Var):List Int:=vs.map fun v=>if v.mode=0 then v.value else 0
def jV:List Var->List (List Int)
 |[]=>[[]]
 |v::vs=>if v.mode=0 then(jV vs).map (v.value::·) else(List.range (zP v)).flatMap fun n:Nat=>(jV vs).map ((n:Int)::·)
def we:List Var->List Int->List (List Int)
 |v::vs,x::xs=>if v.mode=0 then(we vs xs).map (x::·) else(we vs xs).map (x::·)++(List.range' (x.toNat+1) (zP v-1-x.toNat)).flatMap fun n:Nat=>(jV vs).map ((n:Int)::·)
 |_,_=>[[]]
def Wx{v vs}(h:v.mode=0):jV (v::vs)=(jV vs).map (v.value::·):=by rw[jV,if_pos h]
def Wy{v vs}(h:¬v.mode=0):jV (v::vs)=(List.range (zP v)).flatMap fun n:Nat=>(jV vs).map ((n:Int)::·):=by rw[jV,if_neg h]
def YB{v vs x xs}(h:v.mode=0):we (v::vs) (x::xs)=(we vs xs).map (x::·):=by rw[we,if_pos h]
def QE{v vs x xs}(h:¬v.mode=0):we (v::vs) (x::xs)=(we vs xs).map (x::·)++(List.range' (x.toNat+1) (zP v-1-x.toNat)).flatMap fun n:Nat=>(jV vs).map ((n:Int)::·):=by rw[we,if_neg h]
def okA:List Var->List Int->Prop
 |[],[]=>True
 |v::vs,x::xs=>(if v.mode=0 then x=v.value else 0<=x/\x<(zP v:Nat))/\okA vs xs
 |_,_=>False
def Ka(v):0<zP v:=qDa _
def okA.len:∀{vs:List Var}{a:List Int},okA vs a->a.length=vs.length
 |[],[],_=>rfl
 |_::vs,_::xs,h=>by simp[okA.len h.2]
 |[],_::_,h=>h.elim
 |_::_,[],h=>h.elim
def vZ:∀(vs),okA vs (zz vs)
 |[]=>trivial
 | v::vs=>by
  have:=Ka v;show okA (v::vs) ((if v.mode=0 then v.value else 0)::zz vs);refine⟨?_,vZ vs⟩;by_cases h:v.mode=0
  . rw[if_pos h,if_pos h]
  rw[if_neg h,if_neg h];omega
def ZM:∀{vs:List Var}{a:List Int},okA vs a->okA vs (qF vs a).1
 |[],[],_=>trivial
 | v::vs,x::xs,h=>by
  have h1:=ZM h.2;have h2:=h.1;have:=Ka v;unfold qF;split
  . exact⟨h2,h1⟩
  split
  . exact⟨h2,h1⟩
  rename_i hm;rw[if_neg hm]at h2;split
  . refine⟨?_,h1⟩;rw[if_neg hm];omega
  refine⟨?_,h1⟩;rw[if_neg hm];omega
 |[],_::_,h=>h.elim
 |_::_,[],h=>h.elim
def qbU:∀{vs:List Var}{a:List Int},okA vs a->(qF vs a).2=true->(qF vs a).1=zz vs
 |[],[],_,_=>rfl
 | v::vs,x::xs,h,ho=>by
  have h2:=h.1;unfold qF at ho⊢;by_cases h1:(qF vs xs).2=false
  . rw[if_pos h1]at ho;cases ho
  have h1':(qF vs xs).2=true:=by simpa using h1
  have ih:=qbU h.2 h1';rw[if_neg h1]at ho⊢;show _=(if v.mode=0 then v.value else 0)::zz vs;by_cases hm:v.mode=0
  . rw[if_pos hm]at h2⊢;rw[if_pos hm,ih,h2]
  rw[if_neg hm]at ho⊢;rw[if_neg hm];by_cases hx:x+1<(zP v:Nat)
  . rw[if_pos hx]at ho;cases ho
  rw[if_neg hx,ih]
 |[],_::_,h,_=>h.elim
 |_::_,[],h,_=>h.elim
def qhB{n}(h:0<n):List.range n=0::List.range' 1 (n-1):=by
 cases n with
 |zero=>omega
 |succ n=>rw[qBI,qB6];simp
def yq:∀(vs),we vs (zz vs)=jV vs
 |[]=>rfl
 | v::vs=>by
  show we (v::vs) ((if v.mode=0 then v.value else 0)::zz vs)=_;by_cases h:v.mode=0
  . rw[if_pos h,YB h,Wx h,yq vs]
  rw[if_neg h,QE h,Wy h,yq vs,qhB (Ka v),qAO];rfl
def Qg:∀{vs:List Var}{a:List Int},okA vs a->we vs a=a::if(qF vs a).2=true then [] else we vs (qF vs a).1
 |[],[],_=>rfl
 | v::vs,x::xs,h=>by
  have ih:=Qg h.2;have h2:=h.1;by_cases h1:(qF vs xs).2=false
  . have e:qF (v::vs) (x::xs)=(x::(qF vs xs).1,false):=(by rw[qF,if_pos h1]);rw[h1,if_neg (by simp)]at ih;rw[e,if_neg (by simp)];by_cases hm:v.mode=0
    . rw[YB hm,YB hm,ih];rfl
    rw[QE hm,QE hm,ih];rfl
  have h1':(qF vs xs).2=true:=by simpa using h1
  rw[h1',if_pos rfl]at ih;by_cases hm:v.mode=0
  . have e:qF (v::vs) (x::xs)=(x::(qF vs xs).1,true):=(by rw[qF,if_neg h1,if_pos hm]);rw[e,if_pos rfl,YB hm,ih];rfl
  rw[if_neg hm]at h2;by_cases hx:x+1<(zP v:Nat)
  . have e:qF (v::vs) (x::xs)=((x+1)::(qF vs xs).1,false):=(by rw[qF,if_neg h1,if_neg hm,if_pos hx]);have e1:(x+1).toNat=x.toNat+1:=(by omega);have e2:zP v-1-x.toNat=(zP v-1-(x.toNat+1))+1:=(by omega);have e3:((x.toNat+1:Nat):Int)=x+1:=(by omega);rw[e,if_neg (by simp),QE hm,ih,QE hm,qbU h.2 h1',yq,e1,e2,qB6,qAO,e3];rfl
  have e:qF (v::vs) (x::xs)=(0::(qF vs xs).1,true):=by rw[qF,if_neg h1,if_neg hm,if_neg hx]
  have e2:zP v-1-x.toNat=0:=by omega
  rw[e,if_pos rfl,QE hm,ih,e2];rfl
 |[],_::_,h=>h.elim
 |_::_,[],h=>h.elim
def Zq:∀(vs),(jV vs).length=2^((vs.map fun v=>if v.mode=0 then 0 else v.width.toNat).sum)
 |[]=>rfl
 | v::vs=>by
  by_cases h:v.mode=0
  . rw[Wx h,qAY,Zq vs];simp[h]
  rw[Wy h];have:∀(l:List Nat),(l.flatMap fun n:Nat=>(jV vs).map ((n:Int)::·)).length=l.length*(jV vs).length:=by
   intro l
   induction l with
   |nil=>simp
   |cons a r ih=>rw[qAO,qAq,ih,qAY,qAD,qCL,qCs]
  rw[this,qDW,Zq vs];simp only[qAz,if_neg h,qCp,Nat.pow_add,zP]
def ko:∀{vs:List Var}{a:List Int},a∈jV vs↔okA vs a
 | [],a=>by
  cases a with
  |nil=>simp[jV,okA]
  |cons x xs=>simp[jV,okA]
 | v::vs,a=>by
  by_cases h:v.mode=0
  . rw[Wx h,qAN];constructor
    . rintro⟨b,hb,rfl⟩;exact⟨by rw[if_pos h],ko.1 hb⟩
    intro hk
    cases a with
    |nil=>exact hk.elim
    | cons x xs=>
     have h1:=hk.1;rw[if_pos h]at h1;exact⟨xs,ko.2 hk.2,by rw[h1]⟩
  rw[Wy h,qD6];constructor
  . rintro⟨n,hn,hb'⟩;obtain⟨b,hb,rfl⟩:=qAN.1 hb';have:=qBq.1 hn;exact⟨by rw[if_neg h];omega,ko.1 hb⟩
  intro hk
  cases a with
  |nil=>exact hk.elim
  | cons x xs=>
   have h1:=hk.1;rw[if_neg h]at h1;refine⟨x.toNat,qBq.2 (by omega),qAN.2 ⟨xs,ko.2 hk.2,?_⟩⟩;rw[Int.toNat_of_nonneg h1.1]
noncomputable def kN(vs:List Var)(l:List Ex)(a:List Int):Bool:=l.all fun e=>decide (jw (yg vs a) e≠0)
noncomputable def qdB(vs:List Var)(l:List Ex):Nat->List Int->Option (List Int)×Bool
 |0,_=>(none,false)
 |k+1,a=>if kN vs l a then(some a,(qF vs a).2) else if(qF vs a).2 then(none,true) else qdB vs l k (qF vs a).1
def qgl{vs l}:∀(k){a:List Int},okA vs a->(we vs a).length<=k->(qdB vs l k a).1=(we vs a).find? (kN vs l)/\((qdB vs l k a).1=none->(qdB vs l k a).2=true)
 |0,a,h,hk=>by rw[Qg h]at hk;simp at hk
 | k+1,a,h,hk=>by
  rw[Qg h]at hk⊢;unfold qdB;rw[qCU];by_cases hs:kN vs l a=true
  . rw[if_pos hs,hs];exact⟨rfl,fun e=>by cases e⟩
  rw[if_neg hs];have hs':kN vs l a=false:=by simpa using hs
  rw[hs'];by_cases ho:(qF vs a).2=true
  . rw[if_pos ho,if_pos ho];exact⟨rfl,fun _=>rfl⟩
  rw[if_neg ho,if_neg ho];rw[if_neg ho]at hk;exact qgl k (ZM h) (by simp at hk;omega)
noncomputable def jO(vs:List Var)(l:List Ex):Bool:=(jV vs).any (kN vs l)
def qnT{vs l k}(hk:(jV vs).length<=k):((qdB vs l k (zz vs)).1.isSome=jO vs l)/\((qdB vs l k (zz vs)).1=none->(qdB vs l k (zz vs)).2=true):=by
 have:=qgl (l:=l) k (vZ vs) (by rw[yq];exact hk);rw[yq]at this;refine⟨?_,this.2⟩;rw[this.1,jO];generalize jV vs=L
 induction L with
 |nil=>rfl
 |cons a r ih=>rw[qCU,qCn];cases kN vs l a<;>simp[ih]
def zc(a:List Int):List AV:=a.map (AV.int .i64 ·)
@[simp]def qa0(p:Problem)(l:List Ex)(va:AV)(over:Bool)(n:Nat):List AV:=[.sl 4 (p.vars.map qJ) .none,.sl 4 (p.hard.map qp) .none,.sl 4 (p.soft.map qp) .none,.sl 2 (p.dists.map zl) .none,.sl 1 (p.groups.map qx) .none,.sl 4 (l.map qp) .none,va,.bool over,.int .i64 n]
def Jd(A t:Nat)(a:List Int):AV:=if a=[] then .sl 1 [] (.chain t 0) else .ms A 0 a.length 1
structure FndR(F A t:Nat)(p:Problem)(l:List Ex)(a:List Int)(over:Bool)(n:Nat)(H:List Blk):Prop where
 f:H[F]?=some (.cells (qa0 p l (Jd A t a) over n))
 r:a≠[]->H[A]?=some (.cells (zc a))
def FndR.ne{F A t p l a over n H}(h:FndR F A t p l a over n H)(ha:a≠[]):A≠F:=by
 rintro rfl;have h1:=h.f;rw[h.r ha]at h1;simp only[zc,qa0,qAG,Blk.cells.injEq]at h1
 cases a with
 |nil=>exact ha rfl
 |cons x xs=>simp at h1
def kD{a i x}:(zc a).set i (AV.int .i64 x)=zc (a.set i x):=by simp[zc,qDg]
def qaZ{a:List Int}{i:Nat}:(zc a)[i]?=(a[i]?).map (AV.int .i64 ·):=by simp[zc]
def qS{a}:(zc a).length=a.length:=by simp[zc]
def qdZ{vs:List Var}{a:List Int}(hl:a.length=vs.length){m v x}(hv:vs[m]?=some v)(hx:a[m]?=some x)(ho:(qF (vs.drop (m+1)) (a.drop (m+1))).2=true) :
 qF (vs.drop m) (a.drop m)=if v.mode=0 then(x::(qF (vs.drop (m+1)) (a.drop (m+1))).1,true) else if x+1<(zP v:Nat) then((x+1)::(qF (vs.drop (m+1)) (a.drop (m+1))).1,false) else(0::(qF (vs.drop (m+1)) (a.drop (m+1))).1,true):=by
 obtain⟨h1,rfl⟩:=qAm.1 hv;obtain⟨h2,rfl⟩:=qAm.1 hx;rw[qAJ h1,qAJ h2]
 conv=>lhs;unfold qF
 rw[ho,if_neg (by simp)]
def Yu:∀{vs:List Var}{a:List Int} (hl:a.length=vs.length) (m:Nat),(qF (vs.drop m) (a.drop m)).2=false->qF vs a=(a.take m++(qF (vs.drop m) (a.drop m)).1,false)
 | vs,a,_,0,h=>by
  simp only[qBz]at h⊢;rw[qDG,qAK,<- h]
 |[],[],_,m+1,h=>by simp[qF]at h
 | v::vs,x::xs,hl,m+1,h=>by
  have ih:=Yu (vs:=vs) (a:=xs) (by simpa using hl) m (by simpa using h);simp only[qC8]at h⊢
  conv=>lhs;unfold qF
  rw[ih,if_pos rfl,qB9,qAL]
 |[],_::_,hl,_,_=>by simp at hl
 |_::_,[],hl,_,_=>by simp at hl
def Zz:∀{vs:List Var}{a:List Int},a.length=vs.length->(qF vs a).1.length=a.length
 |[],[],_=>rfl
 | v::vs,x::xs,hl=>by
  have ih:=Zz (vs:=vs) (a:=xs) (by simpa using hl);unfold qF;split
  . simp[ih]
  split
  . simp[ih]
  split<;>simp[ih]
 |[],_::_,hl=>by simp at hl
 |_::_,[],hl=>by simp at hl
def FndR.look{F A t p l a over n H}(h:FndR F A t p l a over n H)(u):FndR F A t p l a over n (H++u):=⟨qd h.f u,fun ha=>qd (h.r ha) u⟩
def qf0:∀{vs:List Var}{a:List Int}{m:Nat}{v:Var}{x:Int},okA vs a->vs[m]?=some v->a[m]?=some x->if v.mode=0 then x=v.value else 0<=x/\x<(zP v:Nat)
 | v::vs,x::xs,0,w,y,h,hv,hx=>by
  simp at hv hx;subst hv hx;exact h.1
 |v::vs,x::xs,m+1,w,y,h,hv,hx=>qf0 h.2 (by simpa using hv) (by simpa using hx)
 |[],[],_,_,_,_,hv,_=>by simp at hv
 |[],_::_,_,_,_,h,_,_=>h.elim
 |_::_,[],_,_,_,h,_,_=>h.elim
def qzK(F A t:Nat)(p:Problem)(l:List Ex)(a:List Int)(n:Nat)(H:List Blk)(T:List (Option Nat))(r:AV)(U':St):Prop :=
 r=.tup []/\U'.T=T/\FndR F A t p l (qF p.vars a).1 (qF p.vars a).2 n U'.H/\KpL [F,A] H U'.H
def qzL(F A t:Nat)(p:Problem)(l:List Ex)(a:List Int)(n:Nat)(H:List Blk)(T:List (Option Nat))(m:Nat)(ev:Env)(U:St):Prop :=
 ev 0=.ptr F 0/\ev 2=.int .i64 ((m:Int)-1)/\m<=a.length/\(qF (p.vars.drop m) (a.drop m)).2=true/\∃H',U=⟨H',T⟩/\KpL [F,A] H H'/\FndR F A t p l (a.take m++(qF (p.vars.drop m) (a.drop m)).1) false n H'
def qir{F A t p l a n H}(T)(h:FndR F A t p l a false n H)(hl:a.length=p.vars.length)(hl2:a.length<=1000)(hok:okA p.vars a)(hw:∀v∈p.vars,0<=v.width/\v.width<=28) :
 qg prog GG 302 [.ptr F 0] ⟨H,T⟩ (qzK F A t p l a n H T):=by
 refine qEI qe func302 rfl (by kernel_rfl) ?_;have hF:=h.f;have hFl:=(qAm.1 hF).1;by_cases ha:a=[]
 . subst ha;have hv:=qAA hl.symm;have hs:qF p.vars []=([],true):=(by rw[hv];rfl);simp[hF,Jd];refine qEO (fun m ev U=>ev 0=.ptr F 0/\ev 2=.int .i64 (-1)/\U=⟨H,T⟩) 0 ⟨by simp,by simp;decide,rfl⟩ ?_;rintro m ev U R hR ⟨e0,e2,rfl⟩;simp[e0,e2,hF];refine⟨rfl,rfl,⟨?_,fun h=>?_⟩,?_⟩
   . rw[hs];simp[hFl,Jd]
   . rw[hs]at h;exact absurd rfl h
   exact qFi (by simp)
 have hA:=h.r ha;have hne:=h.ne ha;have hrow:∀b:List Int,b.length=a.length->Jd A t b=.ms A 0 a.length 1:=fun b hb=>by
  unfold Jd;rw[if_neg (by rintro rfl;exact ha (qAA hb.symm)),hb]
 rw[qa0,hrow a rfl]at hF;simp[hF];refine qEO (fun m ev U=>qzL F A t p l a n H T m ev U) a.length ?_ ?_
 . refine⟨by simp,by simp;rw[wr (by omega) (by omega)],qAy _,?_,H,rfl,qFf,?_⟩
   . rw[hl,qBk,<- hl,qBk];rfl
   . rw[qBk,hl,qBk,<- hl,qB7];show FndR F A t p l (a++[]) false n H;rw[qA6];exact h
 rintro m ev U R hR ⟨e0,e2,hm,ho,H',rfl,hk,hfr⟩;have hF':=hfr.f;have hF'l:=(qAm.1 hF').1;have hdl:(a.drop m).length=(p.vars.drop m).length:=by simp[hl]
 have hcl:(a.take m++(qF (p.vars.drop m) (a.drop m)).1).length=a.length:=by rw[qAq,Zz hdl];simp;omega
 rw[qa0,hrow _ hcl]at hF';have hcn:a.take m++(qF (p.vars.drop m) (a.drop m)).1≠[]:=fun e=>ha (qAA (by rw[<- hcl,e];rfl))
 have hA':=hfr.r hcn
 cases m with
 | zero=>
  simp[e0,e2,hF'];simp only[qBz,qDG,qAK]at ho hfr hcl hA';refine⟨rfl,rfl,⟨?_,fun _=>?_⟩,hk.trans (qFi (by simp))⟩
  . rw[qAt hF'l,qa0,hrow _ hcl,ho]
  rw[qAp (Ne.symm hne)];exact hA'
 | succ m=>
  have hma:m<a.length:=by omega
  obtain⟨x,hx⟩:∃x,a[m]?=some x:=⟨_,qAo hma⟩;obtain⟨v,hv⟩:∃v,p.vars[m]?=some v:=⟨_,qAo (by omega)⟩;have hst:=qdZ hl hv hx ho;have hpre:=Yu hl m;have hwv:=hw v (qAn hv);have hs1:=wB hwv.1 hwv.2;have e2':ev 2=.int .i64 (m:Int):=by rw[e2];congr 1;omega
  have hw1:=wr (n:=(m:Int)-1) (by omega) (by omega);have hokx:v.mode≠0->0<=x/\x<(zP v:Nat):=fun hm0=>by
   have:=qf0 hok hv hx
   rwa[if_neg hm0]at this
  have hsz:zP v<=2^28:=qAV (by omega) (by omega);have htk:a.take (m+1)=a.take m++[x]:=by rw[qAT,hx];rfl
  have hdm:(a.drop m).length=(p.vars.drop m).length:=by simp[hl]
  have hS:(a.take m).length+((qF (p.vars.drop (m+1)) (a.drop (m+1))).1.length+1)=a.length:=by
   rw[htk]at hcl;simpa using hcl
  rw[htk]at hfr hcl hA';generalize (qF (p.vars.drop (m+1)) (a.drop (m+1))).1=S at *;have hpl:(a.take m).length=m:=by simp;omega
  generalize hP:a.take m=P at *;simp only[qA4,qB5]at hfr hcl hA';have hen:∀y,zc (P++y::S)=zc P++.int .i64 y::zc S:=fun y=>by simp[zc]
  have hepl:(zc P).length=m:=by rw[qS,hpl]
  have hg:∀y,(zc P++AV.int .i64 y::zc S)[m]?=some (.int .i64 y):=fun y=>by
   rw[qAw (by omega),hepl,qBm];rfl
  have hd:∀y,(zc P++AV.int .i64 y::zc S).drop m=.int .i64 y::zc S:=fun y=>by
   rw[qB3 (by omega),qA3 (by omega)];rfl
  have hst2:∀y z,(zc P++AV.int .i64 y::zc S).set m (.int .i64 z)=zc P++.int .i64 z::zc S:=fun y z=>by
   rw[qBc _ _ (by omega),hepl,qBm];rfl
  have hlen2:∀y,(zc P++AV.int .i64 y::zc S).length=a.length:=fun y=>by
   rw[qAq,qAD,qS,qS];exact hS
  rw[hen]at hA';have hAl':=(qAm.1 hA').1;have hFset:∀y,(H'.set A y)[F]?=some (.cells (qa0 p l (.ms A 0 a.length 1) false n)):=fun y=>by rw[qAp hne];exact hF'
  have hAset:∀y,(H'.set A y)[A]?=some y:=fun y=>qAt hAl'
  have hml:m<p.vars.length:=by omega
  have hma1:m+1<=a.length:=hma;simp only[qa0]at hF' hFset;by_cases hm0:v.mode=0
  . rw[if_pos hm0]at hst;simp[e0,e2',hF',hv,hm0,hw1];refine hR m _ _ (by omega) ⟨by simp[e0],by simp,by omega,by rw[hst],H',rfl,hk,?_⟩;rw[hst,hP];exact hfr
  have hx0:=hokx hm0;have hwx:=wr (n:=x+1) (by omega) (by omega);rw[if_neg hm0]at hst;have hwn:¬v.width<0:=by omega
  have hszv:zP v=2^v.width.toNat:=rfl;rw[<- hszv]at hs1;by_cases hx1:x+1<(zP v:Nat)
  . rw[if_pos hx1]at hst;have hpr:=hpre (by rw[hst]);rw[hst]at hpr;simp only at hpr;simp[e0,e2',hF',hv,hm0,hw1,hA',hd,hst2,hlen2,hwx,hFset,hAset,hs1,hma,hma1,hwn,IntKind.bits,hx1];have hL:(P++(x+1)::S).length=a.length:=(by rw[<- qS,hen];exact hlen2 _);refine⟨rfl,rfl,⟨?_,fun _=>?_⟩,hk.trans (qFi (by simp))⟩
    . rw[hpr,qa0,hrow _ hL];exact hFset _
    rw[hpr,hen];exact hAset _
  rw[if_neg hx1]at hst;simp[e0,e2',hF',hv,hm0,hw1,hA',hd,hst2,hlen2,hwx,hFset,hAset,hs1,hma,hma1,hwn,IntKind.bits,hx1];have hL:(P++0::S).length=a.length:=by rw[<- qS,hen];exact hlen2 _
  refine hR m _ _ (by omega) ⟨by simp[e0],by simp,by omega,by rw[hst],_,rfl,hk.trans (qFi (by simp)),?_⟩;rw[hst,hP];refine⟨?_,fun _=>?_⟩
  . rw[qa0,hrow _ hL,qAp hne];exact hF'
  rw[hen];exact qAt hAl'
def wA(l:List Var)(a:List Int):List Signal:=(l.zip a).map fun q=>⟨q.1.name,q.2⟩
def Ql(l a):yg l a=if a.length=l.length then wA l a else []:=rfl
def vu{l:List Var}{a:List Int}{i:Nat}{v:Var}{x:Int}(h:l[i]?=some v)(h':a[i]?=some x):(wA l a)[i]?=some ⟨v.name,x⟩:=by
 unfold wA;rw[qAR,(qB2 (z:=(v,x))).2 ⟨h,h'⟩];rfl
def yB{l a}(h:a.length=l.length):(wA l a).length=l.length:=by simp[wA,h]
def qaY{l a}:(yg l a).length<=l.length:=by
 rw[Ql];split
 . rename_i h;rw[yB h];exact qAy _
 simp
def qzf(p:Problem)(a:List Int)(H:List Blk)(T:List (Option Nat))(r:AV)(U':St):Prop :=
 U'.T=T/\KpL [] H U'.H/\∃b,jx b 2 qG U'.H r (yg p.vars a)/\H.length<=b
def qkQ{vs a i v x}(h:vs[i]?=some v)(h':a[i]?=some x):(wA vs a).take (i+1)=(wA vs a).take i++[⟨v.name,x⟩]:=by
 rw[qAT,vu h h'];rfl
def qfN:List (Nat×Sch×List Nat):=[(7,.step 0 [10,9] (.step 1 [10,9,8,7,2] (.step 2 [10,9,8,7] (.step 3 [10,9,8,7,6,5] (.step 4 [10,9,8,7,6,5] (.step 5 [10,9,8,7,6] (.step 6 [10,9,8,7] (.step 7 [10,9,8] (.step 8 [10,9] (.step 9 [10] (.step 10 [] (.done))))))))))),[])]
def qsr{A t}(p a)(hlen:a.length=p.vars.length)(hl:p.vars.length<=1000){H}(T)(hr:a≠[]->H[A]?=some (.cells (zc a))) :
 qg prog GG 112 [.agg (qt p),Jd A t a] ⟨H,T⟩ (qzf p a H T):=by
 refine qEH ⟨true,qfN,[],[]⟩ qe func112 rfl (by kernel_rfl) ?_;by_cases ha:a=[]
 . subst ha;have hv:=qAA hlen.symm;have hen:yg p.vars []=[]:=(by rw[hv];rfl);have hQ:∀u,qzf p [] H T (.sl 0 [] .nil) ⟨H++u,T⟩:=fun u=>⟨rfl,qFh,H.length,.inl ⟨hen,rfl⟩,qAy _⟩
   simp[Jd,hv];refine qEO (fun n ev U=>ev 5=.sl 0 [] .nil/\ev 16=.int .i64 0/\ev 17=.int .i64 0/\∃u,U=⟨H++u,T⟩) 0 ⟨by simp,by simp,by simp,_,rfl⟩ ?_;rintro n ev U R hR ⟨e5,e16,e17,u,rfl⟩;simp[e5,e16,e17];exact hQ u
 have hrow:Jd A t a=.ms A 0 a.length 1:=if_neg ha;have hA:=hr ha;have hE:=yB hlen;have hen:yg p.vars a=wA p.vars a:=by rw[Ql,if_pos hlen]
 rw[hrow];simp[hlen];refine qEZ p.vars (fun d ev U=>ev 1=.ms A 0 p.vars.length 1/\ev 15=.sl 4 (p.vars.map qJ) .none/\ev 16=.int .i64 p.vars.length/\ev 17=.int .i64 d.length /\
  ∃H' b,U=⟨H',T⟩/\KpL [] H H'/\H.length<=b/\jx b 2 qG H' (ev 5) ((wA p.vars a).take d.length)) ?_ ?_ ?_
 . exact⟨by simp[],by simp,by simp,by simp,_,H.length,rfl,qFh,qAy _,.inl ⟨by simp,by simp⟩⟩
 . rintro d v rest ev U R hR hd hx hlt ⟨e1,e15,e16,e17,H',b,rfl,hk,hb,ho⟩;have hw:=wr (n:=(d.length:Int)+1) (by omega) (by omega);obtain⟨x,hxa⟩:∃x,a[d.length]?=some x:=⟨_,qAo (by omega)⟩;have hA':H'[A]?=some (.cells (zc a)):=hk.2 _ _ hA (by simp);have hdr:(zc a).drop d.length=.int .i64 x::(zc a).drop (d.length+1):=by
    obtain⟨h1,h2⟩:=qAm.1 (by rw[qaZ,hxa];rfl);rw[qAJ h1,h2]
   have hl1:d.length+1<=(zc a).length:=(by rw[qS];omega);have hl2':d.length+1<=p.vars.length:=(by omega);have ho':jx b 2 qG (H'++[.cells (qJ v)]) (ev 5) ((wA p.vars a).take d.length):=ho.keep fun y _ h=>qd h _
   obtain⟨v',b',H2,hY,ho2,hb2,hk2,hl2⟩:=ho'.appendK (P:=prog) (G:=zk GG) (o:=⟨true,qfN,[],[]⟩) (T:=T) (m:=[⟨v.name,x⟩]) (tok:=.tight) qzF rfl qzE rfl (by omega) rfl (by decide) (fun x=>rfl) (by simp;omega);have hkH2:KpL [] H H2:=⟨by have:=hk.1;simp at hl2;omega,fun k y hk1 _=>hk2 _ _ (qd (hk.2 k y hk1 (by simp)) _) (by
    have:=(qAm.1 hk1).1;right;omega)⟩
   simp only[qAz,qAZ,qG,qJ]at hY ho';generalize hv5:ev 5=v5 at *;simp[-getElem?_pos,e15,e16,e17,hlt,hx];rw[qR rfl];simp[-getElem?_pos,ze,hv5,hY,e1,e17,hlt,qd hA',hdr,hl1,zs,zW,qM,qf,qm,hw];refine hR _ _ ⟨by simp[e1],by simp[e15],by simp[e16],by simp,H2,b',rfl,hkH2,?_,?_⟩
   . rcases hb2 with rfl|rfl
     . exact hb
     . have:=hk.1;simp;omega
   have:=qkQ hx hxa;simp only[qAq,qAQ];rw[this];simpa using ho2
 rintro ev U ⟨e1,e15,e16,e17,H',b,rfl,hk,hb,ho⟩;simp[e16,e17];rw[qAs (by rw[hE];exact qAy _)]at ho;exact⟨rfl,hk,b,by rw[hen];exact ho,hb⟩
def qit(b:Nat)(H:List Blk)(v:AV)(a:List Int):Prop:=(a=[]/\∃sz tok,v=.sl sz [] tok)\/(a≠[]/\v=.ms b 0 a.length 1/\H[b]?=some (.cells (zc a)))
def qzG(a:List Int)(H:List Blk)(T:List (Option Nat))(r:AV)(U':St):Prop:=U'.T=T/\KpL [] H U'.H/\∃b,qit b U'.H r a/\H.length<=b
def qou{A t}(a)(hl:a.length<=1000){H}(T)(hr:a≠[]->H[A]?=some (.cells (zc a))) :
 qg prog GG 48 [Jd A t a] ⟨H,T⟩ (qzG a H T):=by
 refine qEH ⟨true,[],[],[]⟩ qe func48 rfl (by kernel_rfl) ?_;by_cases ha:a=[]
 . subst ha;simp[Jd,zq,zX,qr,qQ,Yv,qY];exact⟨⟨rfl,qFf,H.length,.inl ⟨rfl,_,_,rfl⟩,qAy _⟩,⟨rfl,qFf,H.length,.inl ⟨rfl,_,_,rfl⟩,qAy _⟩⟩
 have hrow:Jd A t a=.ms A 0 a.length 1:=if_neg ha;have hA:=hr ha;have h1:(zc a).take a.length=zc a:=qAs (by rw[qS];exact qAy _);rw[hrow];simp[hA,zq,zX,qQ,Yv,qS,h1,show a.length<=549755813888 by omega,ha];exact⟨rfl,qFh,H.length,.inr ⟨ha,rfl,by simp⟩,qAy _⟩
def zh(e):(qp e).length=4:=by rw[qc];rfl
def jr(e):(qp e).all AV.atom=true:=by
 rw[qc];simp
def yF(e):qV (.agg (qp e))=some (qp e):=by rw[qc];simp[qV,AV.atom]
def qlQ{cs}(h:cs.all AV.atom=true):qV (.agg cs)=some cs:=by simp only[qV,h,if_true]
def putAt_all:∀(c new),c.length=new.length->zx c 0 new=new:=by
 have gen:∀(new pre c:List AV),c.length=new.length->zx (pre++c) pre.length new=pre++new:=by
  intro new
  induction new with
  |nil=>intro pre c h;have:c=[]:=qDl.1 h;subst this;simp[zx]
  | cons v r ih=>
   intro pre c h
   cases c with
   |nil=>simp at h
   | cons x c=>
    have h':c.length=r.length:=(by simpa using h);have:=ih (pre++[v]) c h';simp only[qA4,qB5,qAq,qAQ]at this;rw[zx];have e:(pre++x::c).set pre.length v=pre++v::c:=(by simp);rw[e];exact this
 intro c new h;simpa using gen new [] c h
structure Near(c:List AV)(Y):Prop where
 len:c.length=4
 atoms:c.all AV.atom=true
 leq:zn c (qp Y)
 nr:qz c=true
def v9{a b r s}(h1:a=b\/(zn a b/\b.all AV.atom=true))(h2:yh r s):yh (a::r) (b::s):=by
 simp only[yh];exact⟨h1,h2⟩
def qga:yh [] []:=by simp only[yh]
def Near.row{c Y}(h:Near c Y):c=qp Y\/(zn c (qp Y)/\(qp Y).all AV.atom=true):=.inr ⟨h.leq,jr Y⟩
def qns(Y):Near (qp Y) Y:=⟨zh Y,jr Y,qER _,qwg Y⟩
def qrJ{o n:Int}{s:Str}{rows:List (List AV)}{args:List Ex}(h:yh rows (args.map qp))(hn:qZ rows=true):Near [.int .i64 o,.int .i64 n,.str s,.sl 4 rows .tight] (.mk o n s args):=by
 refine⟨rfl,rfl,?_,?_⟩
 . rw[qc];simp only[zn,Leq,and_true,true_and,qEC,Ex.n_mk,qED,qEE];exact .inr ⟨h,.inl trivial⟩
 simp[hn]
def Near.four{c Y}(h:Near c Y):∃c0 c1 c2 c3,c=[c0,c1,c2,c3]:=by
 have:=h.len
 match c,this with
 |[c0,c1,c2,c3],_=>exact⟨c0,c1,c2,c3,rfl⟩
def Near.fin{c0 c1 c2 c3 Y}(h:Near [c0,c1,c2,c3] Y)(H):ky H c0=c0/\ky H c1=c1/\ky H c2=c2/\ky H c3=c3:=by
 have:=h.nr;simp only[qz,qAr,and_true]at this;exact⟨QH this.1,QH this.2.1,QH this.2.2.1,QH this.2.2.2⟩
