import Derived.Test.YtfmdnopgncbmoaaGreatDoorPs09
import Derived.Test.YtfmdnopgncbmoaaGreatDoorPs10
set_option maxRecDepth 100000
set_option maxHeartbeats 16000000
set_option linter.all false
set_option linter.defProp false
namespace Go.Proofs.YtfmdnopgncbmoaaGreatDoor
open Go Go.Abs Tryz
@[simp]def qw(n:Nd):List AV:=[.int .i64 n.1,.int .i64 n.2.1,.int .i64 n.2.2]
@[simp]def qx6(l:List Nd):zk (l.map qw)=true:=zx (fun x=>by simp) l
@[simp]def zs(d:List Nd):List AV:=[.sl 3 (d.map qw) .none]
def ndE(q:Nd×AV×Nat):AV×AV×Nat:=(.agg (qw q.1),q.2.1,q.2.2)
def qin(a b):Qj (.agg (qw a)) (.agg (qw b))=some (decide (a=b)):=by
 obtain⟨a1,a2,a3⟩:=a;obtain⟨b1,b2,b3⟩:=b;simp only[Qj,qw,zY,kc,if_true];congr 1;rw[qzz];simp;omega
def qiU(n):zt (Dof prog) 139 (.agg (qw n))=true:=by
 simp[zt,Y1,yM,qP,zR,qAc]
def ZC{n}:∀(E:List (Nd×AV×Nat)) (s),(∀q∈E,q.1≠n)->jz (.agg (qw n)) (E.map ndE) s=some none
 |[],_,_=>rfl
 | q::E,s,h=>by
  have h0:=h q (by simp);simp only[qyR,ndE,jz,qin];have:decide (n=q.1)=false:=by simpa using fun e=>h0 e.symm
  rw[this];exact ZC E (s+1) fun x hx=>h x (by simp[hx])
def Vi{n}:∀(E:List (Nd×AV×Nat)) (s),(E.map (·.1)).Nodup->∀q∈E,q.1=n->∃j,jz (.agg (qw n)) (E.map ndE) s=some (some (s+j,q.2.1))/\E[j]?=some q
 |[],_,_,q,hq,_=>by cases hq
 | e::E,s,hn,q,hq,hqn=>by
  simp only[qyR,qBg]at hn;simp only[qyR,ndE,jz,qin];by_cases h0:n=e.1
  . have:decide (n=e.1)=true:=by simpa using h0
    rw[this];rcases qy9.1 hq with rfl|hq
    . exact⟨0,by simp,by simp⟩
    exact absurd (qza.2 ⟨q,hq,by rw[hqn,h0]⟩) hn.1
  have:decide (n=e.1)=false:=by simpa using h0
  rw[this];rcases qy9.1 hq with rfl|hq
  . exact absurd hqn.symm h0
  obtain⟨j,h1,h2⟩:=Vi E (s+1) hn.2 q hq hqn;exact⟨j+1,by simp only[h1];congr 3;omega,by simpa using h2⟩
def qnI:Pure prog GG 78 [] (.agg (zs [(20,0,0),(20,1,1)])):=by
 refine qCL qe func78 rfl (by kernel_rfl) ?_;simp[zp,zS,qG,qj,qs]
def qwH(a b):VC (Dof prog) 139 (qw a) (qw b)=some (decide (a=b)):=by
 have:=qin a b;simp only[Qj]at this;simp[VC,Y1,yM,qP,zR,qAc];simpa using this
def qmo(l)(hl:Fits l):Pure prog GG 195 [.sl 3 (l.map qw) .none,.sl 3 (l.map qw) .none] (.bool true):=by
 refine qCL qe func195 rfl (by kernel_rfl) ?_;simp;refine qC2 l (fun d ev U=>ev 0=.sl 3 (l.map qw) .none/\ev 1=.sl 3 (l.map qw) .none/\ev 12=.int .i64 l.length/\ev 13=.int .i64 d.length) ?_ ?_ ?_
 . simp
 . rintro d n rest ev U R hR hd hx hlt ⟨e0,e1,e12,e13⟩;have he:=qwH n n;simp only[qw]at he;simp[-getElem?_pos,e0,e1,e12,e13,hlt,hx,he,show IntKind.i64.wrap ((d.length:Int)+1)=(d.length+1:Nat) by rw[wr (by omega) (by omega)];omega];exact hR _ _ ⟨by simp[e0],by simp[e1],by simp[e12],by simp⟩
 rintro ev U ⟨e0,e1,e12,e13⟩;simp[e12,e13]
def qqn(d)(h:DagOk d):Pure prog GG 130 [.sl 3 (d.map qw) .none] (.bool true):=by
 refine qCL qe func130 rfl (by kernel_rfl) ?_;have ht:d.take 2=[(20,0,0),(20,1,1)]:=by
  have a:=h.n0;have b:=h.n1
  match d,a,b with
  |[],a,_=>cases a
  |[_],_,b=>cases b
  |x::y::r,a,b=>simp at a b;subst a b;rfl
 have he:=qmo [(20,0,0),(20,1,1)] (by simp);simp[show(2:Int)<=d.length by have:=h.two;omega,show(d.length:Int)<=8192 by have:=h.most;omega,zo,zU,kI,z0,<- List.map_take,ht];refine qCO qnI rfl ?_;simp;refine qCO he rfl ?_;simp
def qhP(d)(h:DagOk d)(i)(hi:2<=i)(hl:i<d.length):Pure prog GG 131 [.sl 3 (d.map qw) .none,.int .i64 i] (.bool true):=by
 obtain⟨n,hn⟩:∃n,d[i]?=some n:=⟨_,qyH hl⟩;obtain⟨g1,g2,g3,g4,g5,g6⟩:=h.node i n hi hn;obtain⟨x,hx⟩:∃x,d[n.2.1]?=some x:=⟨_,qyH (by omega)⟩;obtain⟨y,hy⟩:∃y,d[n.2.2]?=some y:=⟨_,qyH (by omega)⟩;rw[zL hx]at g5;rw[zL hy]at g6;refine qCL qe func131 rfl (by kernel_rfl) ?_;have q1:(n.1:Int)<20:=by omega
 have q2:(n.2.1:Int)<i:=by omega
 have q3:(n.2.2:Int)<i:=by omega
 have q4:¬(n.2.1:Int)=n.2.2:=by omega
 obtain⟨a,b,c⟩:=n;simp only at *;simp[hn,q1,q2,q3,q4,hx,hy,vd];split<;>omega
def QS(d:List Nd):List (Nd×AV×Nat):=(d.zipIdx).map fun q=>(q.1,.bool true,q.2)
def qfB(d n):QS (d++[n])=QS d++[(n,.bool true,d.length)]:=by
 simp[QS,qBB]
def qhx(d):(QS d).map (·.1)=d:=by simp[QS,qz0,Function.comp_def]
def qhw{d n}(h:n∉d):∀q∈QS d,q.1≠n:=fun q hq e=>h (by
 have:q.1∈(QS d).map (·.1):=qza.2 ⟨q,hq,rfl⟩;rw[qhx]at this;exact e▸this)
def Kd(d)(h:DagOk d):Pure prog GG 81 [.agg (zs d)] (.bool true):=by
 have hmost:=h.most;refine qCL qe func81 rfl (by kernel_rfl) ?_;simp;refine qCO (qqn d h) (by simp) ?_;simp;refine qC2 d (fun s ev U=>ev 1=.ptr 0 0/\ev 3=.map 1/\ev 12=.sl 3 (d.map qw) .none/\ev 13=.int .i64 d.length/\ev 14=.int .i64 s.length/\∃t,U=⟨.cells (zs d)::.map ((QS s).map ndE) s.length::t,[]⟩) ?_ ?_ ?_
 . exact⟨by simp,by simp,by simp,by simp,by simp,[],by simp[QS]⟩
 . rintro s n rest ev U R hR hd hx hlt ⟨e1,e3,e12,e13,e14,t,rfl⟩;have hdw:IntKind.i64.wrap ((s.length:Int)+1)=(s.length+1:Nat):=(by rw[wr (by omega) (by omega)];omega);have hns:n∉s:=by
    have:=h.nodup;rw[hd]at this;intro hm;exact(qz3.1 this).2.2 n hm n (by simp) rfl
   have hfind:=ZC (n:=n) (QS s) 0 (qhw hns);have hfit:=qiU n;have hlk:∀(T:List (Option Nat)) (u:List Blk),zl (Dof prog) ⟨.cells (zs d)::.map ((QS s).map ndE) s.length::u,T⟩ 192 (.map 1) (.agg (qw n)) false=some (.bool false):=by
    intro T u;simp only[zl,qxz,hfit,if_true];simp[-qw,hfind,qad]
   have hup:∀(T:List (Option Nat)) (u:List Blk),q9 (Dof prog) ⟨.cells (zs d)::.map ((QS s).map ndE) s.length::u,T⟩ 192 (.map 1) (.agg (qw n)) (.bool true)=some ⟨.cells (zs d)::.map ((QS (s++[n])).map ndE) (s.length+1)::u,T⟩:=by
    intro T u;simp only[q9,qxz,hfit,if_true];simp[-qw,hfind,qfB,ndE]
   simp only[qw]at hlk hup;have hgo:∀(ev':Env) (u:List Blk),ev' 1=.ptr 0 0->ev' 3=.map 1->ev' 12=.sl 3 (d.map qw) .none->ev' 13=.int .i64 d.length->ev' 14=.int .i64 (s.length+1:Nat)->R ev' ⟨.cells (zs d)::.map ((QS (s++[n])).map ndE) (s.length+1)::u,[]⟩ :=
    fun ev' u a1 a2 a3 a4 a5=>hR _ _ ⟨a1,a2,a3,a4,by simpa using a5,u,by simp⟩
   simp only[zs]at hlk hup hgo;by_cases h2:2<=s.length
   . have h2':(2:Int)<=s.length:=(by omega);simp[-getElem?_pos,e1,e12,e13,e14,hlt,hx,h2'];refine qCO (qhP d h s.length h2 hlt) (by simp) ?_;simp[-getElem?_pos,e3,e14,hlk,hup,hdw];exact hgo _ _ (by simp[e1]) (by simp[e3]) (by simp[e12]) (by simp[e13]) (by simp)
   have h2':¬(2:Int)<=s.length:=(by omega);simp[-getElem?_pos,e3,e12,e13,e14,hlt,hx,h2',hup,hdw];exact hgo _ _ (by simp[e1]) (by simp[e3]) (by simp[e12]) (by simp[e13]) (by simp)
 rintro ev U ⟨e1,e3,e12,e13,e14,t,rfl⟩;simp[e13,e14]
def qf6(n):Pure prog GG 322 [.int .i64 n] (.bool (decide (0<=n)&&decide (n<20))):=by
 refine qCL qe func322 rfl (by kernel_rfl) ?_;by_cases h:0<=n<;>simp[h]
def qnU(d)(h:DagOk d)(l:List Nat)(hl:l.length<=100)(hi:∀i∈l,i<d.length)(tok:Tok):Pure prog GG 191 [.agg (zs d),.sl 1 (l.map fun i:Nat=>[.int .i64 i]) .none] (.bool true):=by
 refine qCL qe func191 rfl (by kernel_rfl) ?_;simp;refine qCO (Kd d h) (by simp) ?_;simp;refine qC2 l (fun s ev U=>ev 1=.sl 1 (l.map fun i:Nat=>[.int .i64 i]) .none/\ev 2=.ptr 0 0/\ev 10=.sl 1 (l.map fun i:Nat=>[.int .i64 i]) .none/\ev 11=.int .i64 l.length/\ev 12=.int .i64 s.length/\U=⟨[.cells (zs d)],[]⟩) ?_ ?_ ?_
 . simp
 . rintro s i rest ev U R hR hd hx hlt ⟨e1,e2,e10,e11,e12,rfl⟩;have h1:=hi i (qyG hx);simp[-getElem?_pos,e2,e10,e11,e12,hlt,hx,h1,show IntKind.i64.wrap ((s.length:Int)+1)=(s.length+1:Nat) by rw[wr (by omega) (by omega)];omega];exact hR _ _ ⟨by simp[e1],by simp[e2],by simp[e10],by simp[e11],by simp⟩
 rintro ev U ⟨e1,e2,e10,e11,e12,rfl⟩;simp[e11,e12]
def qrp(d:List Nd)(full:Bool):AV:=.rptr [.sl 3 (d.map qw) .none,.any,.bool full]
def ZH(d:List Nd)(full one:Bool)(f L:Nat)(hf:f<d.length):Pure prog GG 258 [qrp d full,.int .i64 f,.int .i64 L,.bool one] (.int .i64 (jU d f L one:Nat)):=by
 obtain⟨n,hn⟩:∃n,d[f]?=some n:=⟨_,qyH hf⟩;refine qCL qe func258 rfl (by kernel_rfl) ?_;generalize hr:jU d f L one=r;unfold jU at hr;rw[hn]at hr;simp only at hr;by_cases hl:n.1=L
 . rw[if_pos hl]at hr;have hl':(n.1:Int)=L:=(by omega);cases one
   . simp at hr;subst hr;simp[qrp,hn,hl']
   simp at hr;subst hr;simp[qrp,hn,hl']
 rw[if_neg hl]at hr;subst hr;simp[qrp,hn,show ¬(n.1:Int)=L by omega]
def KpL(bs:List Nat)(H H':List Blk):Prop:=H.length<=H'.length/\∀(k) (x),H[k]?=some x->k∉bs->H'[k]?=some x
def KpL.refl{bs H}:KpL bs H H:=⟨qyQ _,fun _ _ h _=>h⟩
def qDh:=@KpL.refl
def KpL.trans{bs H H' H''}(h:KpL bs H H')(h':KpL bs H' H''):KpL bs H H'':=⟨qzs h.1 h'.1,fun k x hk h1=>h'.2 k x (h.2 k x hk h1) h1⟩
def qDi:=@KpL.trans
def KpL.app{bs H t}:KpL bs H (H++t):=⟨by simp,fun k x hk _=>qa hk t⟩
def qDj:=@KpL.app
def KpL.set{bs H b y}(hb:b∈bs):KpL bs H (H.set b y):=⟨by simp,fun k x hk hn=>by
 rw[qyI (by rintro rfl;exact hn hb)];exact hk⟩
def qDk:=@KpL.set
def KpL.sub{bs cs H H'}(h:KpL bs H H')(hs:∀b∈bs,b∈cs):KpL cs H H':=⟨h.1,fun k x hk hn=>h.2 k x hk fun hb=>hn (hs k hb)⟩
def KpL.setF{bs H H' b y}(h:KpL bs H H')(hb:H.length<=b):KpL bs H (H'.set b y):=⟨by rw[qzZ];exact h.1,fun k x hk hn=>by
 have:=(qyF.1 hk).1;rw[qyI (by omega)];exact h.2 k x hk hn⟩
def atE(d:List Nd):List (Nd×AV×Nat):=d.zipIdx.map fun q=>(q.1,.int .i64 q.2,q.2)
structure BR(B M t:Nat)(d:List Nd)(full:Bool)(U:St):Prop where
 b:U.H[B]?=some (.cells [.sl 3 (d.map qw) (.chain t d.length),.map M,.bool full])
 m:U.H[M]?=some (.map ((atE d).map ndE) d.length)
 t:U.T[t]?=some (some d.length)
def BR.ne{B M t d full U}(h:BR B M t d full U):B≠M:=by
 rintro rfl;have:=h.b;rw[h.m]at this;cases this
def qjM(d):(atE d).map (·.1)=d:=by simp[atE,qz0,Function.comp_def]
def qeW(d n):atE (d++[n])=atE d++[(n,.int .i64 d.length,d.length)]:=by
 simp[atE,qBB]
def qjL{d n}(h:n∉d):∀q∈atE d,q.1≠n:=fun q hq e=>h (by
 have:q.1∈(atE d).map (·.1):=qza.2 ⟨q,hq,rfl⟩;rw[qjM]at this;exact e▸this)
def qqK{d:List Nd}{n:Nd}{i:Nat}(h:d[i]?=some n):(n,AV.int .i64 i,i)∈atE d:=by
 refine qza.2 ⟨(n,i),?_,rfl⟩;exact List.mem_zipIdx_iff_getElem?.2 h
def qa6(w:Int):List Int:=(List.range (2^w.toNat)).map fun n:Nat=>(n:Int)
def qhW(w):(qa6 w).length=2^w.toNat:=by simp[qa6]
def qhX{w d r v}(h:qa6 w=d++v::r):v=d.length:=by
 have h1:(qa6 w)[d.length]?=some v:=by rw[h];simp
 unfold qa6 at h1;rw[qy7]at h1;obtain⟨m,hm,e⟩:=qyM.1 h1;obtain⟨_,hm⟩:=qyF.1 hm;simp at hm;omega
def vy{w:Int}(h0:0<=w)(h1:w<=28):IntKind.i64.wrap (2^(min w.toNat 64))=((2^w.toNat:Nat):Int):=by
 have hp:(2:Nat)^w.toNat<=2^28:=qzc (by omega) (by omega);rw[show min w.toNat 64=w.toNat by omega,show((2:Int)^w.toNat)=((2^w.toNat:Nat):Int) by simp];generalize 2^w.toNat=N at hp;exact wr (by omega) (by omega)
def qc5{α:Type}(p:α->Bool)(d:List α)(v:α):(d++[v]).filter p=if p v then d.filter p++[v] else d.filter p:=by
 rw[List.filter_append];cases h:p v<;>simp[h]
structure NodeR(B M t d full)(U:St)(d' full' i U'):Prop where
 br:BR B M t d' full' U'
 kp:KpL [B,M] U.H U'.H
 gr:qU d d'
 ok:DagOk d'
 lt:i<d'.length
 mono:full=true->full'=true
 fl:full'=true->8192<=d'.length
def qwR(B M t:Nat)(d:List Nd)(full:Bool)(U:St)(lv lo hi:Nat)(r:AV)(U':St):Prop :=
 ∃d' full' i,r=.int .i64 (i:Nat)/\NodeR B M t d full U d' full' i U'/\(full'=false->lv<=lvD d' i/\∀b,evD d' b i=evD d' b (if b lv then hi else lo))
def qh1{B M t d full U}(h:BR B M t d full U)(hd:DagOk d){lv lo hi}(hlv:lv<20)(hlo:lo<d.length)(hhi:hi<d.length)(hfl:full=true->8192<=d.length)(h1:full=false->lv<lvD d lo)(h2:full=false->lv<lvD d hi):
 qf prog GG 259 [.ptr B 0,.int .i64 lv,.int .i64 lo,.int .i64 hi] U (qwR B M t d full U lv lo hi):=by
 refine qCN qe func259 rfl (by kernel_rfl) ?_;obtain⟨H,T⟩:=U;have hB:=h.b;have hM:=h.m;have hT:=h.t;have hne:=h.ne;simp only at hB hM hT;by_cases hlh:lo=hi
 . subst hlh;simp;exact⟨d,full,lo,rfl,⟨h,qDh,qDg d,hd,hlo,id,hfl⟩,fun hf=>⟨by have:=h1 hf;omega,by simp⟩⟩
 have hlh':¬(lo:Int)=hi:=by omega
 have hfit:=qiU (lv,lo,hi);have hBl:=(qyF.1 hB).1;have hMl:=(qyF.1 hM).1;by_cases hin:(lv,lo,hi)∈d
 . obtain⟨i,hi1⟩:=qzq hin;obtain⟨j,hf1,hf2⟩:=Vi (n:=(lv,lo,hi)) (atE d) 0 (by rw[qjM];exact hd.nodup) _ (qqK hi1) rfl;have hlk:∀(u:List Blk) (T:List (Option Nat)),zl (Dof prog) ⟨H++u,T⟩ 293 (.map M) (.agg (qw (lv,lo,hi))) true=some (.tup [.int .i64 i,.bool true]):=by
    intro u T;simp only[zl,qu3,hfit,if_true];simp[-qw,qa hM,hf1]
   simp only[qw]at hlk;simp[hlh',qa hB,hlk];refine⟨d,full,i,rfl,⟨⟨qa hB _,qa hM _,hT⟩,qDj,qDg d,hd,(qyF.1 hi1).1,id,hfl⟩,fun _=>⟨by rw[zL hi1];exact qyQ _,fun b=>?_⟩⟩;refine Qb hd b (n:=(lv,lo,hi)) ?_ hi1;apply Classical.byContradiction;intro hc;have:i=0\/i=1:=by omega
   rcases this with rfl|rfl
   . have e:=hd.n0;rw[hi1]at e;simp at e;omega
   have e:=hd.n1;rw[hi1]at e;simp at e;omega
 have hfind:=ZC (n:=(lv,lo,hi)) (atE d) 0 (qjL hin);have hlk:∀(u:List Blk) (T:List (Option Nat)),zl (Dof prog) ⟨H++u,T⟩ 293 (.map M) (.agg (qw (lv,lo,hi))) true=some (.tup [.int .i64 0,.bool false]):=by
  intro u T;simp only[zl,qu3,hfit,if_true];simp[-qw,qa hM,hfind,qad]
 simp only[qw]at hlk;by_cases hm:8192<=d.length
 . have hm':(8192:Int)<=d.length:=(by omega);simp[hlh',qa hB,hlk,hm',yO hB];refine⟨d,true,0,rfl,⟨⟨?_,?_,hT⟩,?_,qDg d,hd,by have:=hd.two;omega,fun _=>rfl,fun _=>hm⟩,fun e=>by cases e⟩
   . exact qa (by rw[qyL hBl]) _
   . exact qa (by rwa[qyI hne]) _
   exact(qDk (by simp)).trans qDj
 have hm':¬(8192:Int)<=d.length:=by omega
 have hup:∀(u:List Blk) (T:List (Option Nat)),q9 (Dof prog) ⟨H++u,T⟩ 293 (.map M) (.agg (qw (lv,lo,hi))) (.int .i64 d.length)=some ⟨H.set M (.map ((atE (d++[(lv,lo,hi)])).map ndE) (d++[(lv,lo,hi)]).length)++u,T⟩:=by
  intro u T;simp only[q9,qu3,hfit,if_true];simp[-qw,qa hM,hfind,yO hM,qeW,ndE]
 have happ:∀(H':List Blk),qL (Dof prog) ⟨H',T⟩ 52 (.sl 3 (d.map qw) (.chain t d.length)) (.sl 3 [qw (lv,lo,hi)] .tight)=some (.sl 3 ((d++[(lv,lo,hi)]).map qw) (.chain t (d++[(lv,lo,hi)]).length),⟨H',T.set t (some (d++[(lv,lo,hi)]).length)⟩):=by
  intro H';have:d.length+1<=549755813888:=by omega
  simp[-qw,qL,zK,hT,this]
 simp only[qw]at hup happ;have hB2:∀y:Blk,(H.set M y)[B]?=some (.cells [.sl 3 (d.map qw) (.chain t d.length),.map M,.bool full]):=fun y=>by
  rw[qyI (Ne.symm hne)];exact hB
 have hdl:(d++[(lv,lo,hi)]).length=d.length+1:=by simp
 have hg:qU d (d++[(lv,lo,hi)]):=⟨_,rfl⟩;have hff:full=false:=by cases full with|true=>exact absurd (hfl rfl) hm|false=>rfl
 have hnew:=qmC hd (n:=(lv,lo,hi)) (by omega) hlv hlo hhi hlh (h1 hff) (h2 hff) hin;have hlast:(d++[(lv,lo,hi)])[d.length]?=some (lv,lo,hi):=by simp
 generalize hD:d++[(lv,lo,hi)]=D at *;generalize hY:Blk.map ((atE D).map ndE) D.length=Y at *;have hl2:=fun u=>qa (hB2 Y) u
 have hs2:=fun u z=>yO (hB2 Y) u z
 have hl3:∀(z:Blk) (u:List Blk),((H.set M Y).set B z++u)[B]?=some z:=fun z u=>qa (by rw[qyL (by rwa[qzZ])]) u
 have hl4:∀(x:Blk),(H.set M Y++[x])[H.length]?=some x:=fun x=>by rw[qyO (by simp)];simp
 simp[hlh',qa hB,hlk,hm',hup,hl2,hs2,happ,hl3,hl4,show IntKind.i64.wrap ((D.length:Int)-1)=(d.length:Nat) by rw[wr (by omega) (by omega)];omega];refine⟨D,full,d.length,rfl,⟨⟨hl3 _ _,?_,(qyL (qyF.1 hT).1)⟩,?_,hg,hnew,by omega,id,fun e=>by rw[hff]at e;cases e⟩,fun _=>⟨by rw[zL hlast];exact qyQ _,fun b=>Qb hnew b (n:=(lv,lo,hi)) hd.two hlast⟩⟩
 . rw[hY.symm];refine qa ?_ _;rw[qyI hne,qyL hMl]
 exact((qDk (by simp)).trans (qDk (by simp))).trans qDj
def qtM(d:List Nd)(H:List Blk)(T:List (Option Nat))(r:AV)(U':St):Prop:=r=.sl 3 (d.map qw) (.chain T.length d.length)/\U'=⟨H,T++[some d.length]⟩
def qmK(d)(h0:d≠[])(hl:d.length<=100000)(H T):qf prog GG 257 [.sl 3 (d.map qw) .none] ⟨H,T⟩ (qtM d H T):=by
 obtain⟨x,r,rfl⟩:=qBn h0;refine qCN qe func257 rfl (by kernel_rfl) ?_;simp[-qw,qL,zK,qj,qs,show r.length+1<=549755813888 by simp at hl;omega];exact⟨by simp,by simp⟩
def qtN(d:List Nd)(H:List Blk)(r:AV)(U':St):Prop:=∃B M t,r=.ptr B 0/\BR B M t d false U'/\KpL [] H U'.H/\H.length<=B/\H.length<=M
def qeU(d)(h:DagOk d)(H T):qf prog GG 192 [.agg (zs d)] ⟨H,T⟩ (qtN d H):=by
 refine qCN qe func192 rfl (by kernel_rfl) ?_;have h2:=h.two;have hmost:=h.most;have h0:d≠[]:=fun e=>by rw[e]at h2;simp at h2
 simp;refine qCQ (qmK d h0 (by omega) _ _) ?_;rintro v U' ⟨rfl,rfl⟩;simp[zp,zS,qG];refine qC2 d (fun s ev U=>ev 1=.ptr H.length 0/\ev 3=.ptr (H.length+1+1) 0/\ev 13=.sl 3 (d.map qw) .none/\ev 14=.int .i64 d.length/\ev 15=.int .i64 s.length /\
  ∃t,U=⟨H++(.cells (zs d)::.map ((atE s).map ndE) s.length::.cells [.sl 3 (d.map qw) (.chain T.length d.length),.map (H.length+1),.bool false]::t),T++[some d.length]⟩) ?_ ?_ ?_
 . exact⟨by simp,by simp,by simp,by simp,by simp,[],by simp[atE]⟩
 . rintro s n rest ev U R hR hd hx hlt ⟨e1,e3,e13,e14,e15,t,rfl⟩;have hns:n∉s:=by
    have:=h.nodup;rw[hd]at this;intro hm;exact(qz3.1 this).2.2 n hm n (by simp) rfl
   have hfind:=ZC (n:=n) (atE s) 0 (qjL hns);have hfit:=qiU n;generalize hCB:Blk.cells [.sl 3 (d.map qw) (.chain T.length d.length),.map (H.length+1),.bool false]=CB at *;generalize hCD:Blk.cells (zs d)=CD at *;have hgo:∀(ev':Env) (u:List Blk),ev' 1=.ptr H.length 0->ev' 3=.ptr (H.length+1+1) 0->ev' 13=.sl 3 (d.map qw) .none->ev' 14=.int .i64 d.length->ev' 15=.int .i64 (s.length+1:Nat)->R ev' ⟨H++(CD::.map ((atE (s++[n])).map ndE) (s++[n]).length::CB::t)++u,T++[some d.length]⟩ :=
    fun ev' u a1 a2 a3 a4 a5=>hR _ _ ⟨a1,a2,a3,a4,by simpa using a5,t++u,by simp⟩
   obtain⟨W,hW⟩:∃W,H++(CD::Blk.map ((atE s).map ndE) s.length::CB::t)=W:=⟨_,rfl⟩;obtain⟨W',hW'⟩:∃W,H++(CD::Blk.map ((atE (s++[n])).map ndE) (s++[n]).length::CB::t)=W:=⟨_,rfl⟩;have hlb:W[H.length+1+1]?=some CB:=by
    rw[<- hW,qyO (by omega)];simp[show H.length+1+1-H.length=2 by omega]
   have hlm:W[H.length+1]?=some (.map ((atE s).map ndE) s.length):=by
    rw[<- hW,qyO (by omega)];simp
   have hset:W.set (H.length+1) (Blk.map ((atE (s++[n])).map ndE) (s++[n]).length)=W':=by
    rw[<- hW,<- hW',qzO _ _ (by omega)];simp
   have hup:∀(u:List Blk) (T:List (Option Nat)),q9 (Dof prog) ⟨W++u,T⟩ 293 (.map (H.length+1)) (.agg (qw n)) (.int .i64 s.length)=some ⟨W'++u,T⟩:=by
    intro u T;simp only[q9,qu3,hfit,if_true];simp only[qa hlm,hfind,yO hlm,<- hset];simp[-qw,qeW,ndE]
   simp only[qw]at hup;rw[hW']at hgo;rw[hW];subst hCB;simp[-getElem?_pos,e3,e13,e14,e15,hlt,hx,qa hlb,hup,show IntKind.i64.wrap ((s.length:Int)+1)=(s.length+1:Nat) by rw[wr (by omega) (by omega)];omega];exact hgo _ _ (by simp[e1]) (by simp[e3]) (by simp[e13]) (by simp[e14]) (by simp)
 rintro ev U ⟨e1,e3,e13,e14,e15,t,rfl⟩;simp[e3,e14,e15];refine⟨H.length+1+1,H.length+1,T.length,rfl,⟨?_,?_,?_⟩,qDj,by omega,by omega⟩
 . show(H++_)[_]?=_;rw[qyO (by omega)];simp[show H.length+1+1-H.length=2 by omega]
 . show(H++_)[_]?=_;rw[qyO (by omega)];simp
 simp
def qwT(t:Nat)(d:List Nd)(full:Bool)(f:Nat)(U:St)(r:AV)(U':St):Prop :=
 (r=if full=true then .tup [.agg [.sl 0 [] .nil],.int .i64 0,.int .i64 2] else .tup [.agg [.sl 3 (d.map qw) (.chain t d.length)],.int .i64 f,.int .i64 0])/\KpL [] U.H U'.H/\U'.T=U.T
def qjd{B M t d full U}(h:BR B M t d full U)(f:Nat):qf prog GG 193 [.ptr B 0,.int .i64 f] U (qwT t d full f U):=by
 refine qCN qe func193 rfl (by kernel_rfl) ?_;obtain⟨H,T⟩:=U;have hB:=h.b;simp only at hB;cases full
 . simp[qa hB,zp,zS,qG];exact⟨rfl,qDj,rfl⟩
 simp[qa hB,zp,zS];exact⟨rfl,qDj,rfl⟩
def qtE(p q r):Pure prog GG 129 [.bool p,.bool q,.bool r] (.bool (p&&q)):=by
 refine qCL qe func129 rfl (by kernel_rfl) ?_;cases p<;>cases q<;>simp
def qvS(p q r):Pure prog GG 298 [.bool p,.bool q,.bool r] (.bool (p||q)):=by
 refine qCL qe func298 rfl (by kernel_rfl) ?_;cases p<;>cases q<;>simp
def qsu(p q r):Pure prog GG 300 [.bool p,.bool q,.bool r] (.bool (!p)):=by
 refine qCL qe func300 rfl (by kernel_rfl) ?_;cases p<;>simp[unA]
def qrD(p q r):Pure prog GG 323 [.bool p,.bool q,.bool r] (.bool (p ^^ q)):=by
 refine qCL qe func323 rfl (by kernel_rfl) ?_;cases p<;>cases q<;>simp[qP]
def qju(p q r):Pure prog GG 301 [.bool p,.bool q,.bool r] (.bool (p&&q||!p&&r)):=by
 refine qCL qe func301 rfl (by kernel_rfl) ?_;cases p<;>cases q<;>cases r<;>simp[unA]
def zh(e):(qt e).length=4:=by rw[qd];rfl
def yA(e):(qt e).all AV.atom=true:=by
 rw[qd];simp
def wb(e):qW (.agg (qt e))=some (qt e):=by rw[qd];simp[qW,AV.atom]
def qqQ{cs}(h:cs.all AV.atom=true):qW (.agg cs)=some cs:=by simp only[qW,h,if_true]
def putAt_all:∀(c new),c.length=new.length->zj c 0 new=new:=by
 have gen:∀(new pre c:List AV),c.length=new.length->zj (pre++c) pre.length new=pre++new:=by
  intro new
  induction new with
  |nil=>intro pre c h;have:c=[]:=qBF.1 h;subst this;simp[zj]
  | cons v r ih=>
   intro pre c h
   cases c with
   |nil=>simp at h
   | cons x c=>
    have:=ih (pre++[v]) c (by simpa using h);simp only[qze,qAq,qyK,qzd]at this;rw[zj]
    rwa[show(pre++x::c).set pre.length v=pre++v::c by simp]
 intro c new h;simpa using gen new [] c h
structure Near(c:List AV)(Y):Prop where
 len:c.length=4
 atoms:c.all AV.atom=true
 leq:zq c (qt Y)
 nr:qx c=true
def qbj{a b r s}(h1:a=b\/(zq a b/\b.all AV.atom=true))(h2:yj r s):yj (a::r) (b::s):=by
 simp only[yj];exact⟨h1,h2⟩
def qlO:yj [] []:=by simp only[yj]
def Near.row{c Y}(h:Near c Y):c=qt Y\/(zq c (qt Y)/\(qt Y).all AV.atom=true):=.inr ⟨h.leq,yA Y⟩
def qlD(Y):Near (qt Y) Y:=⟨zh Y,yA Y,qCU _,qvY Y⟩
def qpI{o n:Int}{s:Str}{rows:List (List AV)}{args:List Ex}(h:yj rows (args.map qt))(hn:zk rows=true):Near [.int .i64 o,.int .i64 n,.str s,.sl 4 rows .tight] (.mk o n s args):=by
 refine⟨rfl,rfl,?_,?_⟩
 . rw[qd];simp only[zq,Leq,and_true,true_and,qCH,Ex.n_mk,qCI,qCJ];exact .inr ⟨h,.inl trivial⟩
 simp[hn]
def Near.four{c Y}(h:Near c Y):∃c0 c1 c2 c3,c=[c0,c1,c2,c3]:=by
 have:=h.len
 match c,this with
 |[c0,c1,c2,c3],_=>exact⟨c0,c1,c2,c3,rfl⟩
def Near.fin{c0 c1 c2 c3 Y}(h:Near [c0,c1,c2,c3] Y)(H):kZ H c0=c0/\kZ H c1=c1/\kZ H c2=c2/\kZ H c3=c3:=by
 have:=h.nr;simp only[qx,qyJ,and_true]at this;exact⟨v9 this.1,v9 this.2.1,v9 this.2.2.1,v9 this.2.2.2⟩
