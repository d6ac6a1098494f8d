import Derived.Test.YtimecmegnocamaaGreatDoorPq11
import Derived.Test.YtimecmegnocamaaGreatDoorPq12
set_option maxRecDepth 100000
set_option maxHeartbeats 16000000
set_option linter.all false
set_option linter.defProp false
namespace Go.Proofs.YtimecmegnocamaaGreatDoor
open Go Go.Abs Tryz
@[simp]def qN(n:Nd):List AV:=[.int .i64 n.1,.int .i64 n.2.1,.int .i64 n.2.2]
@[simp]def qAl(l:List Nd):qX (l.map qN)=true:=zn (fun x=>by simp) l
@[simp]def zO(d:List Nd):List AV:=[.sl 3 (d.map qN) .none]
def ndE(q:Nd×AV×Nat):AV×AV×Nat:=(.agg (qN q.1),q.2.1,q.2.2)
def qkz(a b):Q4 (.agg (qN a)) (.agg (qN b))=some (decide (a=b)):=by
 obtain⟨a1,a2,a3⟩:=a;obtain⟨b1,b2,b3⟩:=b;simp only[Q4,qN,jj,kV,if_true];congr 1;rw[qBP];simp;omega
def qk1(n):zI (Dof prog) 159 (.agg (qN n))=true:=by
 simp[zI,Wg,kv,qV,z9,qCk]
def Jr{n}:∀(E:List (Nd×AV×Nat)) (s),(∀q∈E,q.1≠n)->jS (.agg (qN n)) (E.map ndE) s=some none
 |[],_,_=>rfl
 | q::E,s,h=>by
  have h0:=h q (by simp);simp only[qA7,ndE,jS,qkz];have:decide (n=q.1)=false:=by simpa using fun e=>h0 e.symm
  rw[this];exact Jr E (s+1) fun x hx=>h x (by simp[hx])
def qaG{n}:∀(E:List (Nd×AV×Nat)) (s),(E.map (·.1)).Nodup->∀q∈E,q.1=n->∃j,jS (.agg (qN n)) (E.map ndE) s=some (some (s+j,q.2.1))/\E[j]?=some q
 |[],_,_,q,hq,_=>by cases hq
 | e::E,s,hn,q,hq,hqn=>by
  simp only[qA7,qDA]at hn;simp only[qA7,ndE,jS,qkz];by_cases h0:n=e.1
  . have:decide (n=e.1)=true:=by simpa using h0
    rw[this];rcases qBt.1 hq with rfl|hq
    . exact⟨0,by simp,by simp⟩
    exact absurd (qBj.2 ⟨q,hq,by rw[hqn,h0]⟩) hn.1
  have:decide (n=e.1)=false:=by simpa using h0
  rw[this];rcases qBt.1 hq with rfl|hq
  . exact absurd hqn.symm h0
  obtain⟨j,h1,h2⟩:=qaG E (s+1) hn.2 q hq hqn;exact⟨j+1,by simp only[h1];congr 3;omega,by simpa using h2⟩
def qpP:Pure prog GG 72 [] (.agg (zO [(20,0,0),(20,1,1)])):=by
 refine qFm qg func72 rfl (by kernel_rfl) ?_;simp[zu,zZ,qP,qi,qp]
def qy2(a b):qa2 (Dof prog) 159 (qN a) (qN b)=some (decide (a=b)):=by
 have:=qkz a b;simp only[Q4]at this;simp[qa2,Wg,kv,qV,z9,qCk];simpa using this
def qow(l)(hl:Fits l):Pure prog GG 232 [.sl 3 (l.map qN) .none,.sl 3 (l.map qN) .none] (.bool true):=by
 refine qFm qg func232 rfl (by kernel_rfl) ?_;simp;refine qFF l (fun d ev U=>ev 0=.sl 3 (l.map qN) .none/\ev 1=.sl 3 (l.map qN) .none/\ev 12=.int .i64 l.length/\ev 13=.int .i64 d.length) ?_ ?_ ?_
 . simp
 . rintro d n rest ev U R hR hd hx hlt ⟨e0,e1,e12,e13⟩;have he:=qy2 n n;simp only[qN]at he;simp[-getElem?_pos,e0,e1,e12,e13,hlt,hx,he,show IntKind.i64.wrap ((d.length:Int)+1)=(d.length+1:Nat) by rw[wr (by omega) (by omega)];omega];exact hR _ _ ⟨by simp[e0],by simp[e1],by simp[e12],by simp⟩
 rintro ev U ⟨e0,e1,e12,e13⟩;simp[e12,e13]
def qsM(d)(h:DagOk d):Pure prog GG 159 [.sl 3 (d.map qN) .none] (.bool true):=by
 refine qFm qg func159 rfl (by kernel_rfl) ?_;have ht:d.take 2=[(20,0,0),(20,1,1)]:=by
  have a:=h.n0;have b:=h.n1
  match d,a,b with
  |[],a,_=>cases a
  |[_],_,b=>cases b
  |x::y::r,a,b=>simp at a b;subst a b;rfl
 have he:=qow [(20,0,0),(20,1,1)] (by simp);simp[show(2:Int)<=d.length by have:=h.two;omega,show(d.length:Int)<=8192 by have:=h.most;omega,zk,zR,yT,zT,<- List.map_take,ht];refine qFp qpP rfl ?_;simp;refine qFp he rfl ?_;simp
def qjZ(d)(h:DagOk d)(i)(hi:2<=i)(hl:i<d.length):Pure prog GG 160 [.sl 3 (d.map qN) .none,.int .i64 i] (.bool true):=by
 obtain⟨n,hn⟩:∃n,d[i]?=some n:=⟨_,qAW hl⟩;obtain⟨g1,g2,g3,g4,g5,g6⟩:=h.node i n hi hn;obtain⟨x,hx⟩:∃x,d[n.2.1]?=some x:=⟨_,qAW (by omega)⟩;obtain⟨y,hy⟩:∃y,d[n.2.2]?=some y:=⟨_,qAW (by omega)⟩;rw[zV hx]at g5;rw[zV hy]at g6;refine qFm qg func160 rfl (by kernel_rfl) ?_;have q1:(n.1:Int)<20:=by omega
 have q2:(n.2.1:Int)<i:=by omega
 have q3:(n.2.2:Int)<i:=by omega
 have q4:¬(n.2.1:Int)=n.2.2:=by omega
 obtain⟨a,b,c⟩:=n;simp only at *;simp[hn,q1,q2,q3,q4,hx,hy,wV];split<;>omega
def ZG(d:List Nd):List (Nd×AV×Nat):=(d.zipIdx).map fun q=>(q.1,.bool true,q.2)
def qht(d n):ZG (d++[n])=ZG d++[(n,.bool true,d.length)]:=by
 simp[ZG,qDX]
def qjw(d):(ZG d).map (·.1)=d:=by simp[ZG,qCo,Function.comp_def]
def qjv{d n}(h:n∉d):∀q∈ZG d,q.1≠n:=fun q hq e=>h (by
 have:q.1∈(ZG d).map (·.1):=qBj.2 ⟨q,hq,rfl⟩;rw[qjw]at this;exact e▸this)
def Wt(d)(h:DagOk d):Pure prog GG 107 [.agg (zO d)] (.bool true):=by
 have hmost:=h.most;refine qFm qg func107 rfl (by kernel_rfl) ?_;simp;refine qFp (qsM d h) (by simp) ?_;simp;refine qFF d (fun s ev U=>ev 1=.ptr 0 0/\ev 3=.map 1/\ev 12=.sl 3 (d.map qN) .none/\ev 13=.int .i64 d.length/\ev 14=.int .i64 s.length/\∃t,U=⟨.cells (zO d)::.map ((ZG s).map ndE) s.length::t,[]⟩) ?_ ?_ ?_
 . exact⟨by simp,by simp,by simp,by simp,by simp,[],by simp[ZG]⟩
 . rintro s n rest ev U R hR hd hx hlt ⟨e1,e3,e12,e13,e14,t,rfl⟩;have hdw:IntKind.i64.wrap ((s.length:Int)+1)=(s.length+1:Nat):=(by rw[wr (by omega) (by omega)];omega);have hns:n∉s:=by
    have:=h.nodup;rw[hd]at this;intro hm;exact(qCu.1 this).2.2 n hm n (by simp) rfl
   have hfind:=Jr (n:=n) (ZG s) 0 (qjv hns);have hfit:=qk1 n;have hlk:∀(T:List (Option Nat)) (u:List Blk),zD (Dof prog) ⟨.cells (zO d)::.map ((ZG s).map ndE) s.length::u,T⟩ 205 (.map 1) (.agg (qN n)) false=some (.bool false):=by
    intro T u;simp only[zD,qzQ,hfit,if_true];simp[-qN,hfind,qbx]
   have hup:∀(T:List (Option Nat)) (u:List Blk),zj (Dof prog) ⟨.cells (zO d)::.map ((ZG s).map ndE) s.length::u,T⟩ 205 (.map 1) (.agg (qN n)) (.bool true)=some ⟨.cells (zO d)::.map ((ZG (s++[n])).map ndE) (s.length+1)::u,T⟩:=by
    intro T u;simp only[zj,qzQ,hfit,if_true];simp[-qN,hfind,qht,ndE]
   simp only[qN]at hlk hup;have hgo:∀(ev':Env) (u:List Blk),ev' 1=.ptr 0 0->ev' 3=.map 1->ev' 12=.sl 3 (d.map qN) .none->ev' 13=.int .i64 d.length->ev' 14=.int .i64 (s.length+1:Nat)->R ev' ⟨.cells (zO d)::.map ((ZG (s++[n])).map ndE) (s.length+1)::u,[]⟩ :=
    fun ev' u a1 a2 a3 a4 a5=>hR _ _ ⟨a1,a2,a3,a4,by simpa using a5,u,by simp⟩
   simp only[zO]at hlk hup hgo;by_cases h2:2<=s.length
   . have h2':(2:Int)<=s.length:=(by omega);simp[-getElem?_pos,e1,e12,e13,e14,hlt,hx,h2'];refine qFp (qjZ d h s.length h2 hlt) (by simp) ?_;simp[-getElem?_pos,e3,e14,hlk,hup,hdw];exact hgo _ _ (by simp[e1]) (by simp[e3]) (by simp[e12]) (by simp[e13]) (by simp)
   have h2':¬(2:Int)<=s.length:=(by omega);simp[-getElem?_pos,e3,e12,e13,e14,hlt,hx,h2',hup,hdw];exact hgo _ _ (by simp[e1]) (by simp[e3]) (by simp[e12]) (by simp[e13]) (by simp)
 rintro ev U ⟨e1,e3,e12,e13,e14,t,rfl⟩;simp[e13,e14]
def qh6(n):Pure prog GG 355 [.int .i64 n] (.bool (decide (0<=n)&&decide (n<20))):=by
 refine qFm qg func355 rfl (by kernel_rfl) ?_;by_cases h:0<=n<;>simp[h]
def qp1(d)(h:DagOk d)(l:List Nat)(hl:l.length<=100)(hi:∀i∈l,i<d.length)(tok:Tok):Pure prog GG 204 [.agg (zO d),.sl 1 (l.map fun i:Nat=>[.int .i64 i]) .none] (.bool true):=by
 refine qFm qg func204 rfl (by kernel_rfl) ?_;simp;refine qFp (Wt d h) (by simp) ?_;simp;refine qFF l (fun s ev U=>ev 1=.sl 1 (l.map fun i:Nat=>[.int .i64 i]) .none/\ev 2=.ptr 0 0/\ev 10=.sl 1 (l.map fun i:Nat=>[.int .i64 i]) .none/\ev 11=.int .i64 l.length/\ev 12=.int .i64 s.length/\U=⟨[.cells (zO d)],[]⟩) ?_ ?_ ?_
 . simp
 . rintro s i rest ev U R hR hd hx hlt ⟨e1,e2,e10,e11,e12,rfl⟩;have h1:=hi i (qAV hx);simp[-getElem?_pos,e2,e10,e11,e12,hlt,hx,h1,show IntKind.i64.wrap ((s.length:Int)+1)=(s.length+1:Nat) by rw[wr (by omega) (by omega)];omega];exact hR _ _ ⟨by simp[e1],by simp[e2],by simp[e10],by simp[e11],by simp⟩
 rintro ev U ⟨e1,e2,e10,e11,e12,rfl⟩;simp[e11,e12]
def qtO(d:List Nd)(full:Bool):AV:=.rptr [.sl 3 (d.map qN) .none,.any,.bool full]
def Jw(d:List Nd)(full one:Bool)(f L:Nat)(hf:f<d.length):Pure prog GG 280 [qtO d full,.int .i64 f,.int .i64 L,.bool one] (.int .i64 (yl d f L one:Nat)):=by
 obtain⟨n,hn⟩:∃n,d[f]?=some n:=⟨_,qAW hf⟩;refine qFm qg func280 rfl (by kernel_rfl) ?_;generalize hr:yl d f L one=r;unfold yl at hr;rw[hn]at hr;simp only at hr;by_cases hl:n.1=L
 . rw[if_pos hl]at hr;have hl':(n.1:Int)=L:=(by omega);cases one
   . simp at hr;subst hr;simp[qtO,hn,hl']
   simp at hr;subst hr;simp[qtO,hn,hl']
 rw[if_neg hl]at hr;subst hr;simp[qtO,hn,show ¬(n.1:Int)=L by omega]
def KpL(bs:List Nat)(H H':List Blk):Prop:=H.length<=H'.length/\∀(k) (x),H[k]?=some x->k∉bs->H'[k]?=some x
def KpL.refl{bs H}:KpL bs H H:=⟨qA5 _,fun _ _ h _=>h⟩
def qFV:=@KpL.refl
def KpL.trans{bs H H' H''}(h:KpL bs H H')(h':KpL bs H' H''):KpL bs H H'':=⟨qBN h.1 h'.1,fun k x hk h1=>h'.2 k x (h.2 k x hk h1) h1⟩
def qFW:=@KpL.trans
def KpL.app{bs H t}:KpL bs H (H++t):=⟨by simp,fun k x hk _=>qf hk t⟩
def qFX:=@KpL.app
def KpL.set{bs H b y}(hb:b∈bs):KpL bs H (H.set b y):=⟨by simp,fun k x hk hn=>by
 rw[qAX (by rintro rfl;exact hn hb)];exact hk⟩
def qFY:=@KpL.set
def KpL.sub{bs cs H H'}(h:KpL bs H H')(hs:∀b∈bs,b∈cs):KpL cs H H':=⟨h.1,fun k x hk hn=>h.2 k x hk fun hb=>hn (hs k hb)⟩
def KpL.setF{bs H H' b y}(h:KpL bs H H')(hb:H.length<=b):KpL bs H (H'.set b y):=⟨by rw[qCj];exact h.1,fun k x hk hn=>by
 have:=(qAU.1 hk).1;rw[qAX (by omega)];exact h.2 k x hk hn⟩
def atE(d:List Nd):List (Nd×AV×Nat):=d.zipIdx.map fun q=>(q.1,.int .i64 q.2,q.2)
structure BR(B M t:Nat)(d:List Nd)(full:Bool)(U:St):Prop where
 b:U.H[B]?=some (.cells [.sl 3 (d.map qN) (.chain t d.length),.map M,.bool full])
 m:U.H[M]?=some (.map ((atE d).map ndE) d.length)
 t:U.T[t]?=some (some d.length)
def BR.ne{B M t d full U}(h:BR B M t d full U):B≠M:=by
 rintro rfl;have:=h.b;rw[h.m]at this;cases this
def qlT(d):(atE d).map (·.1)=d:=by simp[atE,qCo,Function.comp_def]
def qgO(d n):atE (d++[n])=atE d++[(n,.int .i64 d.length,d.length)]:=by
 simp[atE,qDX]
def qlS{d n}(h:n∉d):∀q∈atE d,q.1≠n:=fun q hq e=>h (by
 have:q.1∈(atE d).map (·.1):=qBj.2 ⟨q,hq,rfl⟩;rw[qlT]at this;exact e▸this)
def qs8{d:List Nd}{n:Nd}{i:Nat}(h:d[i]?=some n):(n,AV.int .i64 i,i)∈atE d:=by
 refine qBj.2 ⟨(n,i),?_,rfl⟩;exact List.mem_zipIdx_iff_getElem?.2 h
def qcs(w:Int):List Int:=(List.range (2^w.toNat)).map fun n:Nat=>(n:Int)
def qj8(w):(qcs w).length=2^w.toNat:=by simp[qcs]
def qj9{w d r v}(h:qcs w=d++v::r):v=d.length:=by
 have h1:(qcs w)[d.length]?=some v:=by rw[h];simp
 unfold qcs at h1;rw[qBp]at h1;obtain⟨m,hm,e⟩:=qA2.1 h1;obtain⟨_,hm⟩:=qAU.1 hm;simp at hm;omega
def wG{w:Int}(h0:0<=w)(h1:w<=28):IntKind.i64.wrap (2^(min w.toNat 64))=((2^w.toNat:Nat):Int):=by
 have hp:(2:Nat)^w.toNat<=2^28:=qBn (by omega) (by omega);rw[show min w.toNat 64=w.toNat by omega,show((2:Int)^w.toNat)=((2^w.toNat:Nat):Int) by simp];generalize 2^w.toNat=N at hp;exact wr (by omega) (by omega)
def qeI{α:Type}(p:α->Bool)(d:List α)(v:α):(d++[v]).filter p=if p v then d.filter p++[v] else d.filter p:=by
 rw[qDY];cases h:p v<;>simp[h]
@[simp]def qzI(c:List (List Int)):List AV:=[.sl 1 (c.map qD) .none]
structure NodeR(B M t d full)(U:St)(d' full' i U'):Prop where
 br:BR B M t d' full' U'
 kp:KpL [B,M] U.H U'.H
 gr:ze d d'
 ok:DagOk d'
 lt:i<d'.length
 mono:full=true->full'=true
 fl:full'=true->8192<=d'.length
def qza(B M t:Nat)(d:List Nd)(full:Bool)(U:St)(lv lo hi:Nat)(r:AV)(U':St):Prop :=
 ∃d' full' i,r=.int .i64 (i:Nat)/\NodeR B M t d full U d' full' i U'/\(full'=false->lv<=lvD d' i/\∀b,evD d' b i=evD d' b (if b lv then hi else lo))
def qkc{B M t d full U}(h:BR B M t d full U)(hd:DagOk d){lv lo hi}(hlv:lv<20)(hlo:lo<d.length)(hhi:hi<d.length)(hfl:full=true->8192<=d.length)(h1:full=false->lv<lvD d lo)(h2:full=false->lv<lvD d hi):
 qj prog GG 281 [.ptr B 0,.int .i64 lv,.int .i64 lo,.int .i64 hi] U (qza B M t d full U lv lo hi):=by
 refine qFo qg func281 rfl (by kernel_rfl) ?_;obtain⟨H,T⟩:=U;have hB:=h.b;have hM:=h.m;have hT:=h.t;have hne:=h.ne;simp only at hB hM hT;by_cases hlh:lo=hi
 . subst hlh;simp;exact⟨d,full,lo,rfl,⟨h,qFV,qFU d,hd,hlo,id,hfl⟩,fun hf=>⟨by have:=h1 hf;omega,by simp⟩⟩
 have hlh':¬(lo:Int)=hi:=by omega
 have hfit:=qk1 (lv,lo,hi);have hBl:=(qAU.1 hB).1;have hMl:=(qAU.1 hM).1;by_cases hin:(lv,lo,hi)∈d
 . obtain⟨i,hi1⟩:=qBB hin;obtain⟨j,hf1,hf2⟩:=qaG (n:=(lv,lo,hi)) (atE d) 0 (by rw[qlT];exact hd.nodup) _ (qs8 hi1) rfl;have hlk:∀(u:List Blk) (T:List (Option Nat)),zD (Dof prog) ⟨H++u,T⟩ 303 (.map M) (.agg (qN (lv,lo,hi))) true=some (.tup [.int .i64 i,.bool true]):=by
    intro u T;simp only[zD,qxE,hfit,if_true];simp[-qN,qf hM,hf1]
   simp only[qN]at hlk;simp[hlh',qf hB,hlk];refine⟨d,full,i,rfl,⟨⟨qf hB _,qf hM _,hT⟩,qFX,qFU d,hd,(qAU.1 hi1).1,id,hfl⟩,fun _=>⟨by rw[zV hi1];exact qA5 _,fun b=>?_⟩⟩;refine QS hd b (n:=(lv,lo,hi)) ?_ hi1;apply Classical.byContradiction;intro hc;have:i=0\/i=1:=by omega
   rcases this with rfl|rfl
   . have e:=hd.n0;rw[hi1]at e;simp at e;omega
   have e:=hd.n1;rw[hi1]at e;simp at e;omega
 have hfind:=Jr (n:=(lv,lo,hi)) (atE d) 0 (qlS hin);have hlk:∀(u:List Blk) (T:List (Option Nat)),zD (Dof prog) ⟨H++u,T⟩ 303 (.map M) (.agg (qN (lv,lo,hi))) true=some (.tup [.int .i64 0,.bool false]):=by
  intro u T;simp only[zD,qxE,hfit,if_true];simp[-qN,qf hM,hfind,qbx]
 simp only[qN]at hlk;by_cases hm:8192<=d.length
 . have hm':(8192:Int)<=d.length:=(by omega);simp[hlh',qf hB,hlk,hm',ky hB];refine⟨d,true,0,rfl,⟨⟨?_,?_,hT⟩,?_,qFU d,hd,by have:=hd.two;omega,fun _=>rfl,fun _=>hm⟩,fun e=>by cases e⟩
   . exact qf (by rw[qA0 hBl]) _
   . exact qf (by rwa[qAX hne]) _
   exact(qFY (by simp)).trans qFX
 have hm':¬(8192:Int)<=d.length:=by omega
 have hup:∀(u:List Blk) (T:List (Option Nat)),zj (Dof prog) ⟨H++u,T⟩ 303 (.map M) (.agg (qN (lv,lo,hi))) (.int .i64 d.length)=some ⟨H.set M (.map ((atE (d++[(lv,lo,hi)])).map ndE) (d++[(lv,lo,hi)]).length)++u,T⟩:=by
  intro u T;simp only[zj,qxE,hfit,if_true];simp[-qN,qf hM,hfind,ky hM,qgO,ndE]
 have happ:∀(H':List Blk),qq (Dof prog) ⟨H',T⟩ 68 (.sl 3 (d.map qN) (.chain t d.length)) (.sl 3 [qN (lv,lo,hi)] .tight)=some (.sl 3 ((d++[(lv,lo,hi)]).map qN) (.chain t (d++[(lv,lo,hi)]).length),⟨H',T.set t (some (d++[(lv,lo,hi)]).length)⟩):=by
  intro H';have:d.length+1<=549755813888:=by omega
  simp[-qN,qq,za,hT,this]
 simp only[qN]at hup happ;have hB2:∀y:Blk,(H.set M y)[B]?=some (.cells [.sl 3 (d.map qN) (.chain t d.length),.map M,.bool full]):=fun y=>by
  rw[qAX (Ne.symm hne)];exact hB
 have hdl:(d++[(lv,lo,hi)]).length=d.length+1:=by simp
 have hg:ze d (d++[(lv,lo,hi)]):=⟨_,rfl⟩;have hff:full=false:=by cases full with|true=>exact absurd (hfl rfl) hm|false=>rfl
 have hnew:=qoI hd (n:=(lv,lo,hi)) (by omega) hlv hlo hhi hlh (h1 hff) (h2 hff) hin;have hlast:(d++[(lv,lo,hi)])[d.length]?=some (lv,lo,hi):=by simp
 generalize hD:d++[(lv,lo,hi)]=D at *;generalize hY:Blk.map ((atE D).map ndE) D.length=Y at *;have hl2:=fun u=>qf (hB2 Y) u
 have hs2:=fun u z=>ky (hB2 Y) u z
 have hl3:∀(z:Blk) (u:List Blk),((H.set M Y).set B z++u)[B]?=some z:=fun z u=>qf (by rw[qA0 (by rwa[qCj])]) u
 have hl4:∀(x:Blk),(H.set M Y++[x])[H.length]?=some x:=fun x=>by rw[qA4 (by simp)];simp
 simp[hlh',qf hB,hlk,hm',hup,hl2,hs2,happ,hl3,hl4,show IntKind.i64.wrap ((D.length:Int)-1)=(d.length:Nat) by rw[wr (by omega) (by omega)];omega];refine⟨D,full,d.length,rfl,⟨⟨hl3 _ _,?_,(qA0 (qAU.1 hT).1)⟩,?_,hg,hnew,by omega,id,fun e=>by rw[hff]at e;cases e⟩,fun _=>⟨by rw[zV hlast];exact qA5 _,fun b=>QS hnew b (n:=(lv,lo,hi)) hd.two hlast⟩⟩
 . rw[hY.symm];refine qf ?_ _;rw[qAX hne,qA0 hMl]
 exact((qFY (by simp)).trans (qFY (by simp))).trans qFX
def qwk(d:List Nd)(H:List Blk)(T:List (Option Nat))(r:AV)(U':St):Prop:=r=.sl 3 (d.map qN) (.chain T.length d.length)/\U'=⟨H,T++[some d.length]⟩
def qoQ(d)(h0:d≠[])(hl:d.length<=100000)(H T):qj prog GG 279 [.sl 3 (d.map qN) .none] ⟨H,T⟩ (qwk d H T):=by
 obtain⟨x,r,rfl⟩:=qDN h0;refine qFo qg func279 rfl (by kernel_rfl) ?_;simp[-qN,qq,za,qi,qp,show r.length+1<=549755813888 by simp at hl;omega];exact⟨by simp,by simp⟩
def qwl(d:List Nd)(H:List Blk)(r:AV)(U':St):Prop:=∃B M t,r=.ptr B 0/\BR B M t d false U'/\KpL [] H U'.H/\H.length<=B/\H.length<=M
def qgL(d)(h:DagOk d)(H T):qj prog GG 205 [.agg (zO d)] ⟨H,T⟩ (qwl d H):=by
 refine qFo qg func205 rfl (by kernel_rfl) ?_;have h2:=h.two;have hmost:=h.most;have h0:d≠[]:=fun e=>by rw[e]at h2;simp at h2
 simp;refine qFs (qoQ d h0 (by omega) _ _) ?_;rintro v U' ⟨rfl,rfl⟩;simp[zu,zZ,qP];refine qFF d (fun s ev U=>ev 1=.ptr H.length 0/\ev 3=.ptr (H.length+1+1) 0/\ev 13=.sl 3 (d.map qN) .none/\ev 14=.int .i64 d.length/\ev 15=.int .i64 s.length /\
  ∃t,U=⟨H++(.cells (zO d)::.map ((atE s).map ndE) s.length::.cells [.sl 3 (d.map qN) (.chain T.length d.length),.map (H.length+1),.bool false]::t),T++[some d.length]⟩) ?_ ?_ ?_
 . exact⟨by simp,by simp,by simp,by simp,by simp,[],by simp[atE]⟩
 . rintro s n rest ev U R hR hd hx hlt ⟨e1,e3,e13,e14,e15,t,rfl⟩;have hns:n∉s:=by
    have:=h.nodup;rw[hd]at this;intro hm;exact(qCu.1 this).2.2 n hm n (by simp) rfl
   have hfind:=Jr (n:=n) (atE s) 0 (qlS hns);have hfit:=qk1 n;generalize hCB:Blk.cells [.sl 3 (d.map qN) (.chain T.length d.length),.map (H.length+1),.bool false]=CB at *;generalize hCD:Blk.cells (zO d)=CD at *;have hgo:∀(ev':Env) (u:List Blk),ev' 1=.ptr H.length 0->ev' 3=.ptr (H.length+1+1) 0->ev' 13=.sl 3 (d.map qN) .none->ev' 14=.int .i64 d.length->ev' 15=.int .i64 (s.length+1:Nat)->R ev' ⟨H++(CD::.map ((atE (s++[n])).map ndE) (s++[n]).length::CB::t)++u,T++[some d.length]⟩ :=
    fun ev' u a1 a2 a3 a4 a5=>hR _ _ ⟨a1,a2,a3,a4,by simpa using a5,t++u,by simp⟩
   obtain⟨W,hW⟩:∃W,H++(CD::Blk.map ((atE s).map ndE) s.length::CB::t)=W:=⟨_,rfl⟩;obtain⟨W',hW'⟩:∃W,H++(CD::Blk.map ((atE (s++[n])).map ndE) (s++[n]).length::CB::t)=W:=⟨_,rfl⟩;have hlb:W[H.length+1+1]?=some CB:=by
    rw[<- hW,qA4 (by omega)];simp[show H.length+1+1-H.length=2 by omega]
   have hlm:W[H.length+1]?=some (.map ((atE s).map ndE) s.length):=by
    rw[<- hW,qA4 (by omega)];simp
   have hset:W.set (H.length+1) (Blk.map ((atE (s++[n])).map ndE) (s++[n]).length)=W':=by
    rw[<- hW,<- hW',qBK _ _ (by omega)];simp
   have hup:∀(u:List Blk) (T:List (Option Nat)),zj (Dof prog) ⟨W++u,T⟩ 303 (.map (H.length+1)) (.agg (qN n)) (.int .i64 s.length)=some ⟨W'++u,T⟩:=by
    intro u T;simp only[zj,qxE,hfit,if_true];simp only[qf hlm,hfind,ky hlm,<- hset];simp[-qN,qgO,ndE]
   simp only[qN]at hup;rw[hW']at hgo;rw[hW];subst hCB;simp[-getElem?_pos,e3,e13,e14,e15,hlt,hx,qf hlb,hup,show IntKind.i64.wrap ((s.length:Int)+1)=(s.length+1:Nat) by rw[wr (by omega) (by omega)];omega];exact hgo _ _ (by simp[e1]) (by simp[e3]) (by simp[e13]) (by simp[e14]) (by simp)
 rintro ev U ⟨e1,e3,e13,e14,e15,t,rfl⟩;simp[e3,e14,e15];refine⟨H.length+1+1,H.length+1,T.length,rfl,⟨?_,?_,?_⟩,qFX,by omega,by omega⟩
 . show(H++_)[_]?=_;rw[qA4 (by omega)];simp[show H.length+1+1-H.length=2 by omega]
 . show(H++_)[_]?=_;rw[qA4 (by omega)];simp
 simp
def qzc(t:Nat)(d:List Nd)(full:Bool)(f:Nat)(U:St)(r:AV)(U':St):Prop :=
 (r=if full=true then .tup [.agg [.sl 0 [] .nil],.int .i64 0,.int .i64 2] else .tup [.agg [.sl 3 (d.map qN) (.chain t d.length)],.int .i64 f,.int .i64 0])/\KpL [] U.H U'.H/\U'.T=U.T
def qlj{B M t d full U}(h:BR B M t d full U)(f:Nat):qj prog GG 206 [.ptr B 0,.int .i64 f] U (qzc t d full f U):=by
 refine qFo qg func206 rfl (by kernel_rfl) ?_;obtain⟨H,T⟩:=U;have hB:=h.b;simp only at hB;cases full
 . simp[qf hB,zu,zZ,qP];exact⟨rfl,qFX,rfl⟩
 simp[qf hB,zu,zZ];exact⟨rfl,qFX,rfl⟩
def qv8(p q r):Pure prog GG 135 [.bool p,.bool q,.bool r] (.bool (p&&q)):=by
 refine qFm qg func135 rfl (by kernel_rfl) ?_;cases p<;>cases q<;>simp
def qyj(p q r):Pure prog GG 315 [.bool p,.bool q,.bool r] (.bool (p||q)):=by
 refine qFm qg func315 rfl (by kernel_rfl) ?_;cases p<;>cases q<;>simp
def quV(p q r):Pure prog GG 317 [.bool p,.bool q,.bool r] (.bool (!p)):=by
 refine qFm qg func317 rfl (by kernel_rfl) ?_;cases p<;>simp[unA]
def qt1(p q r):Pure prog GG 356 [.bool p,.bool q,.bool r] (.bool (p ^^ q)):=by
 refine qFm qg func356 rfl (by kernel_rfl) ?_;cases p<;>cases q<;>simp[qV]
def qlB(p q r):Pure prog GG 318 [.bool p,.bool q,.bool r] (.bool (p&&q||!p&&r)):=by
 refine qFm qg func318 rfl (by kernel_rfl) ?_;cases p<;>cases q<;>cases r<;>simp[unA]
