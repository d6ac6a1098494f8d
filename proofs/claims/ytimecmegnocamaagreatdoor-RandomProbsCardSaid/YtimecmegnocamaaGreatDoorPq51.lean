import Derived.Test.YtimecmegnocamaaGreatDoorPq50
import Derived.Test.YtimecmegnocamaaGreatDoorRows
import Derived.ProofKit
import Derived.Stop.Joined
import Derived.SevenTiedAt
set_option maxHeartbeats 16000000
set_option maxRecDepth 100000
set_option linter.all false
set_option linter.defProp false
namespace Go.Proofs.YtimecmegnocamaaGreatDoor
open Go Go.Abs Proofs.Tryz Go.ChangeShapes Go.WideShapes Go.ChangeAt Go.RowKit
def qqo(x y:Int):Int:=IntKind.i64.wrap ((BitVec.ofInt IntKind.i64.bits x &&& BitVec.ofInt IntKind.i64.bits y).toNat:Int)
def qj6(x y):zz .and .i64 x y=some (.int .i64 (qqo x y)):=rfl
def qtc(n):0<=qqo n 15:=by
 have e:((BitVec.ofInt 64 n &&& 15#64).toNat:Int)=n%16:=by
  rw[BitVec.toNat_and,BitVec.toNat_ofInt];have e:(15#64).toNat=2^4-1:=by decide
  rw[e,qDb];omega
 have h:qqo n 15=IntKind.i64.wrap ((BitVec.ofInt 64 n &&& 15#64).toNat:Int):=rfl;rw[h,e,wr (by omega) (by omega)];omega
def qp3(v:Var)(n:Int):Int:=if v.mode=0 then v.value else qqo n (IntKind.i64.wrap (IntKind.i64.wrap (1*2^(min (qqo v.width 15).toNat IntKind.i64.bits))-1))
def WO:List Var->List Int->List Int
 |[],_=>[]
 |v::r,[]=>qp3 v 0::WO r []
 |v::r,x::xs=>qp3 v x::WO r xs
def YH:∀(l) (xs),(WO l xs).length=l.length
 |[],_=>by simp[WO]
 |v::r,[]=>by simp[WO,YH r []]
 |v::r,x::xs=>by simp[WO,YH r xs]
def qaV:∀{l:List Var}{xs:List Int}{i:Nat}{v:Var},l[i]?=some v->(WO l xs)[i]?=some (qp3 v ((xs[i]?).getD 0))
 |v::r,[],0,w,h=>by simp at h;simp[WO,h]
 |v::r,x::xs,0,w,h=>by simp at h;simp[WO,h]
 | v::r,[],i+1,w,h=>by
  have:=qaV (l:=r) (xs:=[]) (i:=i) (v:=w) (by simpa using h);simpa[WO] using this
 | v::r,x::xs,i+1,w,h=>by
  have:=qaV (l:=r) (xs:=xs) (i:=i) (v:=w) (by simpa using h);simpa[WO] using this
def qk2(p xs){i v}(h:p[i]?=some v):(WO p xs).take (i+1)=(WO p xs).take i++[qp3 v ((xs[i]?).getD 0)]:=by
 rw[qBi,qaV h];rfl
def qyR(p xs)(hl:p.vars.length<=1000)(ha:Fits xs):Pure prog GG 6 [.agg (qA p),.sl 1 (xs.map qh) .none] (.sl 1 ((WO p.vars xs).map qh) .none):=by
 refine qFm qg func6 rfl (by kernel_rfl) ?_;have hlen:=YH p.vars xs;simp;refine qFt p.vars (fun d ev U=>ev 1=.sl 1 (xs.map qh) .none/\ev 2=.ptr 0 0/\ev 5=ww 1 qh 0 ((WO p.vars xs).take d.length)/\ev 6=.int .i64 d.length/\∃u,U=⟨.cells (qA p)::u,jY [] ((WO p.vars xs).take d.length)⟩) ?_ ?_ ?_
 . simp[qA]
 . rintro d v rest ev U hd hx hlt ⟨e1,e2,e5,e6,u,rfl⟩;have hlt':(d.length:Int)<p.vars.length:=(by omega);have hw:=wr (n:=(d.length:Int)+1) (by omega) (by omega);have hsn:=qk2 p.vars xs hx;have htl:((WO p.vars xs).take d.length).length<2^30:=(by simp;omega);have h15:=qtc v.width;have h15':¬qqo v.width 15<0:=(by omega);have happ:∀(H:List Blk) (s:List Int),s.length<2^30->∀n,qq (Dof prog) ⟨H,jY [] s⟩ 28 (ww 1 qh 0 s) (.sl 1 [[.int .i64 n]] .tight)=some (ww 1 qh 0 (s++[n]),⟨H,jY [] (s++[n])⟩):=fun H s hs n=>
    ya (D:=Dof prog) (sz:=1) (T:=[]) (H:=H) (m:=[n]) (en:=qh) D28 rfl D3 rfl (by decide) rfl (by decide) (by simp;omega) 1 (.inl rfl)
   generalize (WO p.vars xs).take d.length=S at *;rw[qAY,qBo,hsn];generalize hX:(xs[d.length]?).getD 0=X at *;have hm1:¬v.mode=0->qqo X (IntKind.i64.wrap (IntKind.i64.wrap (2^(min (qqo v.width 15).toNat IntKind.i64.bits))-1))=qp3 v X:=fun h=>by unfold qp3;rw[if_neg h,Int.one_mul]
   have hm0:v.mode=0->v.value=qp3 v X:=fun h=>by unfold qp3;rw[if_pos h]
   by_cases hxl:d.length<xs.length
   . have hgx:xs[d.length]?=some X:=by
      rw[qAW hxl]at hX⊢;simpa using hX
     have hxl':(d.length:Int)<xs.length:=(by omega);by_cases hm:v.mode=0
     . simp[e1,e2,e5,e6,hlt',hx,hxl',hgx,hm,qi,qp,happ _ _ htl,hw,qA];rw[hm0 hm];exact⟨rfl,rfl⟩
     simp[-zz,qj6,KE,J2,VB,VC,e1,e2,e5,e6,hlt',hx,hxl',hgx,hm,qi,qp,happ _ _ htl,hw,qA,h15'];rw[hm1 hm];exact⟨rfl,rfl⟩
   have hxl':¬(d.length:Int)<xs.length:=(by omega);have hX0:X=0:=by
    rw[qBs (by omega)]at hX;exact hX.symm
   subst hX0;by_cases hm:v.mode=0
   . simp[e1,e2,e5,e6,hlt',hx,hxl',hm,qi,qp,happ _ _ htl,hw,qA];rw[hm0 hm];exact⟨rfl,rfl⟩
   simp[-zz,qj6,KE,J2,VB,VC,e1,e2,e5,e6,hlt',hx,hxl',hm,qi,qp,happ _ _ htl,hw,qA,h15'];rw[hm1 hm];exact⟨rfl,rfl⟩
 rintro ev U ⟨e1,e2,e5,e6,u,rfl⟩;rw[qAZ (by omega)]at e5;simp[*,-fin,-yb,-yP]
def JP{p}(hv:qo p=0){a}(ha:a∈jH p.vars){i}(hi:i∈(NG p).flatten):∃x:Nat,a[i]?=some (x:Int)/\x<2^jO p i/\aN a i=x:=by
 obtain⟨v,hvi,hm⟩:=kE hv hi;obtain⟨x,h1,h2⟩:=wy (wc.1 ha) hvi;rw[if_neg hm]at h2;obtain⟨n,rfl⟩:=qBe h2.1;refine⟨n,h1,?_,by unfold aN;rw[qA8,h1];simp⟩;rw[(qqL hv hvi).1];unfold zU at h2;omega
def Qz{vs a}(h:qL vs a=true):a∈jH vs:=by
 unfold qL at h;simp only[qA1,decide_eq_true_eq,qA3]at h;refine wc.2 (qj7 h.1 fun i v hvi=>?_);have hi:=(qAU.1 hvi).1;obtain⟨x,hx⟩:∃x,a[i]?=some x:=⟨_,qAW (by omega)⟩;have h1:=h.2 (v,x) (qAV (qCA.2 ⟨hvi,hx⟩));unfold zG at h1;simp only[qA1,decide_eq_true_eq,qC7,qCn,decide_eq_false_iff_not]at h1;refine⟨x,hx,?_⟩;by_cases hm:v.mode=0
 . rw[if_pos hm];exact h1.2.resolve_left fun h=>h hm
 rw[if_neg hm];have:((2^v.width.toNat:Nat):Int)=(2:Int)^v.width.toNat:=by simp
 unfold zU;exact⟨h1.1.1,by omega⟩
noncomputable def qd1(p:Problem)(a:List Int)(g:Nat):Nat:=wj p (qC p).1 (fun _=>none) ((NG p).getD g []) (Yl p a g)
def qnK{p R a}(ha:a∈jH p.vars)(hs:yD p.vars R a=true)(hv:qo p=0){l:List Nat}(hl:∀i∈l,i∈(NG p).flatten):okC p R (l.map fun i=>(i,aN a i))=true:=by
 unfold okC;refine qBr.2 ⟨a,ha,?_⟩;rw[qA1];refine⟨hs,qA3.2 fun q hq=>?_⟩;obtain⟨i,hi,rfl⟩:=qBj.1 hq;obtain⟨x,h1,h2,h3⟩:=JP hv ha (hl i hi);simp[*]
def qum{p}(hv:qo p=0){a}(ha:a∈jH p.vars)(hs:yD p.vars (qC p).1 a=true){g}(hg:g<(NG p).length):jR p (aN a) ((NG p).getD g [])<=qd1 p a g:=by
 have hin:∀i∈(NG p).getD g [],i∈(NG p).flatten:=fun i hi=>by
  rw[qA8,qAW hg]at hi;exact qBv.2 ⟨_,qDh hg,hi⟩
 have h:=qfm (p:=p) (R:=(qC p).1) (val:=aN a) ((NG p).getD g []) (Yl p a g) fun i hi=>by
  obtain⟨x,h1,h2,h3⟩:=JP hv ha (hin i hi)
  rwa[h3]
 have hok:okC p (qC p).1 (Yl p a g++((NG p).getD g []).map fun i=>(i,aN a i))=true:=by
  unfold Yl;rw[<- qBV];refine qnK ha hs hv fun i hi=>?_
  rcases qBb.1 hi with hi|hi
  . obtain⟨l,h1,h2⟩:=qBv.1 hi;exact qBv.2 ⟨l,qBH h1,h2⟩
  exact hin i hi
 rwa[hok,if_pos rfl,qEZ]at h
def qjA{p}(hv:qo p=0){a}(ha:a∈jH p.vars){R}(hs:yD p.vars R a=true):R.all (yi p a)=true:=by
 unfold yD at hs;rw[qA3]at hs⊢;exact fun e he=>qaY hv (by simpa using hs e he) (WG hv ha)
def QT{p}(h:qo p=0){k d}(hk:p.dists[k]?=some d):yO p.vars d.var=true/\∀y∈p.dists.take k,y.var≠d.var:=by
 have hd:yB p.vars p.dists=0:=by
  unfold qo at h;split at h
  . exact absurd h (by assumption)
  split at h
  . rename_i h1;exact absurd h h1
  split at h
  . rename_i h1;exact absurd h h1
  rename_i h1;exact qB1.1 h1
 have hkl:=(qAU.1 hk).1;unfold yB at hd;have:=zF.1 hd k (by simp;omega);unfold jT at this;rw[hk]at this;simp only at this;split at this
 . cases this
 rename_i hr;split at this
 . cases this
 rename_i ht;refine⟨by simpa using hr,fun y hy e=>ht (qBr.2 ⟨y,hy,by simp[e]⟩)⟩
def qcH{p}(h:qo p=0){d}(hd:d∈p.dists):∃i:Nat,d.var=i/\i<p.vars.length/\i∈(NG p).flatten/\(jc p.vars.length p.dists)[i]?=some (some d.weights):=by
 obtain⟨k,hk⟩:=qBB hd;obtain⟨h1,h2⟩:=QT h hk;simp only[yO,qA1,decide_eq_true_eq]at h1;obtain⟨i,hi⟩:=qBe h1.1;rw[hi,qBu]at h1;obtain⟨v,hvi,hm⟩:∃v,p.vars[i]?=some v/\v.mode≠0:=by
  cases hv:p.vars[i]? with
  |none=>rw[hv]at h1;simp at h1
  |some v=>rw[hv]at h1;exact⟨v,rfl,by simpa using h1.2⟩
 have hil:=(qAU.1 hvi).1;refine⟨i,hi,hil,qas h hvi hm,?_⟩;have later:∀y∈p.dists.drop (k+1),y.var.toNat≠i:=fun y hy e=>by
  obtain⟨j,hj⟩:=qBB hy;rw[qBM]at hj;obtain⟨g1,g2⟩:=QT h hj;simp only[yO,qA1,decide_eq_true_eq]at g1;refine g2 d ?_ (by omega);refine qAV (i:=k) ?_;rw[qDc (by omega),hk]
 have keep:∀(l:List Dist) (o:List (Option (List Weight))),(∀y∈l,y.var.toNat≠i)->(l.foldl (fun o d=>o.set d.var.toNat (some d.weights)) o)[i]?=o[i]?:=by
  intro l
  induction l with
  |nil=>intro o _;rfl
  | cons y l ih=>
   intro o hl;rw[qBw,ih _ fun z hz=>hl z (by simp[hz]),qAX (hl y (by simp))]
 have e:p.dists=p.dists.take k++d::p.dists.drop (k+1):=by
  obtain⟨x1,x2⟩:=qAU.1 hk;have:=qBF k p.dists;rw[qA9 x1,x2]at this;exact this.symm
 unfold jc;rw[e,qBX,qBw,keep _ _ later,hi,qBu];refine qA0 ?_;have:=ye p.vars.length (p.dists.take k);unfold jc at this
 rwa[this]
def qwf{p}(hv:qo p=0){gi}(hgi:gi<(NG p).length):∃g,(NG p)[gi]?=some g/\(NG p).getD gi []=g/\g.Nodup/\∀i∈g,i∈(NG p).flatten:=by
 obtain⟨g,hg⟩:∃g,(NG p)[gi]?=some g:=⟨_,qAW hgi⟩;refine⟨g,hg,by rw[qA8,hg];rfl,?_,fun i hi=>qBv.2 ⟨g,qAV hg,hi⟩⟩;have hnf:=qgU hv;obtain⟨post,hpost⟩:=qgT hg;rw[hpost]at hnf;exact(qCu.1 (qCu.1 hnf).1).2.1
def okF(fx:Nat->Option Nat)(g:List Nat)(x:List Int):Bool:=g.all fun i=>(fx i).all fun v=>decide (aN x i=v)
def JX{α}(f q):∀l:List α,ku f (l.filter q)=ku (fun a=>if q a=true then f a else 0) l
 |[]=>rfl
 | a::l=>by
  have ih:=JX f q l;rw[qEN];by_cases h:q a=true
  . rw[if_pos h];simp only[ku,ih,if_pos h]
  rw[if_neg h];simp only[ku,ih,if_neg h];omega
def qb0(K:Nat->Nat):∀(N v),v<N->ku (fun x=>if v=x then K x else 0) (List.range N)=K v
 |0,v,h=>by omega
 | N+1,v,h=>by
  rw[qCk,Ka];by_cases hv:v=N
  . subst hv;have:ku (fun x=>if v=x then K x else 0) (List.range v)=0:=ZA fun a ha=>by
     have:=qCd.1 ha;rw[if_neg (by omega)]
    rw[this];simp[ku]
  rw[qb0 K N v (by omega)];simp[ku,hv]
structure Reps(p:Problem)(R:List Ex)(g:List Nat)(c:List (Nat×Nat))(C:List (List Int)):Prop where
 sol:∀x∈C,x∈jH p.vars/\yD p.vars R x=true/\∀q∈c,aN x q.1=q.2
 cov:∀x∈jH p.vars,yD p.vars R x=true->(∀q∈c,aN x q.1=q.2)->∃y∈C,∀i∈g,aN y i=aN x i
 dis:C.Pairwise fun x y=>∃i∈g,aN x i≠aN y i
def qpO{p}(hv:qo p=0){R c}(hc:∀q∈c,q.1∈(NG p).flatten):okC p R c=true↔∃x∈jH p.vars,yD p.vars R x=true/\∀q∈c,aN x q.1=q.2:=by
 unfold okC;rw[qBr];constructor
 . rintro⟨x,hx,h⟩;rw[qA1,qA3]at h;refine⟨x,hx,h.1,fun q hq=>?_⟩;have:=of_decide_eq_true (h.2 q hq);obtain⟨y,h1,h2,h3⟩:=JP hv hx (hc q hq);rw[this]at h1;have:=Option.some.inj h1;omega
 rintro⟨x,hx,h1,h2⟩;refine⟨x,hx,?_⟩;rw[qA1,qA3];refine⟨h1,fun q hq=>?_⟩;obtain⟨y,g1,g2,g3⟩:=JP hv hx (hc q hq);have:=h2 q hq;rw[g1,decide_eq_true_eq];congr 1;omega
def qbO{p}(hv:qo p=0){R}(fx):∀(g:List Nat) (c:List (Nat×Nat)) (C:List (List Int)),(∀i∈g,i∈(NG p).flatten)->(∀q∈c,q.1∈(NG p).flatten)->Reps p R g c C ->
 wj p R fx g c=ku (fun x=>if okF fx g x=true then jR p (aN x) g else 0) C
 | [],c,C,hg,hc,h=>by
  have hlen:C.length<=1:=by
   match C,h.dis with
   |[],_=>simp
   |[x],_=>simp
   | x::y::r,hd=>
    have:=(qEz.1 hd).1 y (by simp);obtain⟨i,hi,_⟩:=this;cases hi
  unfold wj;by_cases hok:okC p R c=true
  . rw[if_pos hok];obtain⟨x,hx,h1,h2⟩:=(qpO hv hc).1 hok;obtain⟨y,hy,_⟩:=h.cov x hx h1 h2
    match C,hlen,hy with
    |[z],_,_=>simp[ku,okF,jR]
    |z::w::r,hl,_=>simp at hl
  rw[if_neg hok];have:C=[]:=by
   apply qCI.2;intro x hx;obtain⟨a1,a2,a3⟩:=h.sol x hx;exact hok ((qpO hv hc).2 ⟨x,a1,a2,a3⟩)
  rw[this];rfl
 | i::g,c,C,hg,hc,h=>by
  have hi:=hg i (by simp);have ih:=fun v=>qbO hv (R:=R) fx g (c++[(i,v)]) (C.filter fun x=>decide (aN x i=v)) (fun j hj=>hg j (by simp[hj])) (fun q hq=>by
   rcases qBb.1 hq with hq|hq
   . exact hc q hq
   have:q=(i,v):=by simpa using hq
   rw[this];exact hi) ⟨fun x hx=>by
   rw[qCc,decide_eq_true_eq]at hx;obtain⟨a1,a2,a3⟩:=h.sol x hx.1;refine⟨a1,a2,fun q hq=>?_⟩;rcases qBb.1 hq with hq|hq
   . exact a3 q hq
   . have:q=(i,v):=by simpa using hq
     rw[this];exact hx.2,fun x h1 h2 h3=>by
   obtain⟨y,hy,h4⟩:=h.cov x h1 h2 fun q hq=>h3 q (by simp[hq])
   have h5:aN x i=v:=h3 (i,v) (by simp);refine⟨y,qCc.2 ⟨hy,by rw[decide_eq_true_eq,h4 i (by simp),h5]⟩,fun j hj=>h4 j (by simp[hj])⟩,by
   refine(h.dis.filter _).imp_of_mem ?_;intro x y hx hy ⟨j,hj,hne⟩;rw[qCc,decide_eq_true_eq]at hx hy;rcases qBt.1 hj with rfl|hj
   . exact absurd (hx.2.trans hy.2.symm) hne
   exact⟨j,hj,hne⟩⟩
  unfold wj;simp only[ih,JX];have e1:∀v,wtP p i v*ku (fun x=>if decide (aN x i=v)=true then(if okF fx g x=true then jR p (aN x) g else 0) else 0) C=ku (fun x=>if aN x i=v then wtP p i v*(if okF fx g x=true then jR p (aN x) g else 0) else 0) C:=fun v=>by
   rw[<- qft];refine Jk fun x _=>?_
   by_cases hx:aN x i=v<;>simp[hx]
  simp only[e1];rw[qbZ];refine Jk fun x hx=>?_
  obtain⟨a1,_,_⟩:=h.sol x hx;obtain⟨y,g1,g2,g3⟩:=JP hv a1 hi;have hokc:okF fx (i::g) x=((fx i).all (fun v=>decide (aN x i=v))&&okF fx g x):=by unfold okF;rw[qCm]
  rw[hokc];show ku _ (vL (jO p i) (fx i))=_
  cases hf:fx i with
  | none=>
   show ku _ (List.range _)=_;rw[qb0 (fun v=>wtP p i v*(if okF fx g x=true then jR p (aN x) g else 0)) _ _ (by rw[g3];exact g2)];simp only[Option.all_none,qB7,jR];split
   . rfl
   rw[qEM]
  | some v=>
   show ku _ [v]=_;simp only[ku,qCy,Option.all_some,jR];by_cases hx:aN x i=v
   . rw[if_pos hx];cases hO:okF fx g x<;>simp[hx]
   rw[if_neg hx];simp[hx]
def Wa{p}(hv:qo p=0):p.groups=(NG p).map fun g=>g.map fun n:Nat=>(n:Int):=by
 unfold NG;rw[qCo]
 conv=>lhs;rw[<- qE0 p.groups]
 refine qCa fun g hg=>?_
 show g=(g.map Int.toNat).map fun n:Nat=>(n:Int)
 rw[qCo]
 conv=>lhs;rw[<- qE0 g]
 refine qCa fun v hv'=>?_
 obtain⟨n,w,e1,_⟩:=ZK ((j5 hv).2.1 _ (qBv.2 ⟨g,hg,hv'⟩));show v=((v.toNat:Nat):Int);omega
def qe8{x y}{g:List Nat}:agG x y (g.map fun n:Nat=>(n:Int))=true↔∀i∈g,x.getD i 0=y.getD i 0:=by
 unfold agG agV;simp[qA3]
def KT{a b c}:∀{l:List Int},jK a b l=true->jK b c l=true->jK a c l=true
 |[],h,_=>by cases h
 | v::l,h1,h2=>by
  unfold jK at h1 h2⊢;split at h1
  . rename_i e1;split at h2
    . rename_i e2;rw[if_pos (e1.trans e2)];exact KT h1 h2
    rename_i e2;rw[decide_eq_true_eq]at h2;rw[if_neg (by omega),decide_eq_true_eq];omega
  rename_i e1;rw[decide_eq_true_eq]at h1;split at h2
  . rename_i e2;rw[if_neg (by omega),decide_eq_true_eq];omega
  rename_i e2;rw[decide_eq_true_eq]at h2;rw[if_neg (by omega),decide_eq_true_eq];omega
def qcJ{a b}:∀{l:List Int},jK a b l=false->jK b a l=true\/∀v∈l,a.getD v.toNat 0=b.getD v.toNat 0
 |[],_=>.inr fun v hv=>by cases hv
 | v::l,h=>by
  unfold jK at h⊢;by_cases e:a.getD v.toNat 0=b.getD v.toNat 0
  . rw[if_pos e]at h;rw[if_pos e.symm];rcases qcJ h with h|h
    . exact .inl h
    refine .inr fun w hw=>?_
    rcases qBt.1 hw with rfl|hw
    . exact e
    exact h w hw
  rw[if_neg e]at h;rw[if_neg (fun h=>e h.symm)];rw[decide_eq_false_iff_not]at h;exact .inl (by rw[decide_eq_true_eq];omega)
def qgb{a b}:∀{l:List Int},jK a b l=true->∃v∈l,a.getD v.toNat 0≠b.getD v.toNat 0
 |[],h=>by cases h
 | v::l,h=>by
  unfold jK at h;by_cases e:a.getD v.toNat 0=b.getD v.toNat 0
  . rw[if_pos e]at h;obtain⟨w,h1,h2⟩:=qgb h;exact⟨w,by simp[h1],h2⟩
  exact⟨v,by simp,e⟩
def qgN(f):∀(n) (o),o.length=n->(∀(j) (x),(atX f o).1<=j->o[j]?=some x->f x=false)/\((atX f o).1=0\/∃x,o[(atX f o).1-1]?=some x/\f x=true)
 | 0,o,h=>by
  have:=qA6 h;subst this;exact⟨fun j x _ hx=>by simp at hx,.inl rfl⟩
 | n+1,o,h=>by
  obtain⟨d,y,rfl⟩:∃d y,o=d++[y]:=⟨o.dropLast,o.getLast (by rintro rfl;simp at h),(qB9 _).symm⟩;have hd:d.length=n:=by simpa using h
  obtain⟨h1,h2⟩:=qgN f n d hd;have hl:=qeZ f d;rw[qbe,hl.1]
  cases hy:f y with
  | true=>
   rw[if_pos rfl];refine⟨fun j x hj hx=>?_,.inr ⟨y,?_,hy⟩⟩
   . have:=(qAU.1 hx).1;simp at this hj;omega
   dsimp only;rw[qEy,qA4 (qA5 _),qBS];rfl
  | false=>
   rw[if_neg (by simp)];refine⟨fun j x hj hx=>?_,?_⟩
   . by_cases hjd:j<d.length
     . rw[qBa hjd]at hx;exact h1 j x hj hx
     . have:=(qAU.1 hx).1;simp at this;have:j=d.length:=by omega
       subst this;rw[qA4 (qA5 _),qBS]at hx;have:y=x:=by simpa using hx
       rw[<- this];exact hy
   rcases h2 with h2|⟨x,h3,h4⟩
   . exact .inl h2
   refine .inr ⟨x,?_,h4⟩;dsimp only;have:=(qAU.1 h3).1;rw[qBa this];exact h3
structure ChI(G:List (List Int))(i:Nat)(l:List Int)(a:List Int)(S out:List (List Int)):Prop where
 mem:∀c∈out,c∈S/\jf G 0 i c a=true
 ord:out.Pairwise fun x y=>jK x y l=true
 cov:∀x∈S,jf G 0 i x a=true->∃c∈out,jf G i (i+1) c x=true
def qjl{G i g a}(hag:∀x y:List Int,jf G i (i+1) x y=true↔∀v∈zS g,x.getD v.toNat 0=y.getD v.toNat 0){S out}(h:ChI G i (zS g) a S out)(x):ChI G i (zS g) a (S++[x]) (vN G i g a out x):=by
 unfold vN;by_cases h1:jf G 0 i x a=true
 case neg=>
  rw[if_neg h1];refine⟨fun c hc=>⟨by simp[(h.mem c hc).1],(h.mem c hc).2⟩,h.ord,fun y hy hya=>?_⟩;rcases qBb.1 hy with hy|hy
  . exact h.cov y hy hya
  have:y=x:=by simpa using hy
  rw[this]at hya;exact absurd hya h1
 rw[if_pos h1];by_cases h2:(out.any fun v=>jf G i (i+1) v x)=true
 . rw[if_pos h2];refine⟨fun c hc=>⟨by simp[(h.mem c hc).1],(h.mem c hc).2⟩,h.ord,fun y hy hya=>?_⟩;rcases qBb.1 hy with hy|hy
   . exact h.cov y hy hya
   have:y=x:=by simpa using hy
   rw[this];obtain⟨c,hc,hcx⟩:=qBr.1 h2;exact⟨c,hc,hcx⟩
 rw[if_neg h2];obtain⟨s1,s2⟩:=qgN (fun v=>jK v x (zS g)) out.length out rfl;generalize (atX (fun v=>jK v x (zS g)) out).1=n at *;have hlow:∀c∈out.take n,jK c x (zS g)=true:=fun c hc=>by
  obtain⟨j,hj⟩:=qBB hc;have hjn:=(qAU.1 hj).1;simp at hjn;rw[qDc (by omega)]at hj;rcases s2 with s2|⟨z,hz,hzx⟩
  . omega
  by_cases hjz:j=n-1
  . subst hjz;rw[hj]at hz;cases hz;exact hzx
  obtain⟨q1,q2⟩:=qAU.1 hj;obtain⟨r1,r2⟩:=qAU.1 hz;have:=qCH.1 h.ord j (n-1) q1 r1 (by omega);rw[q2,r2]at this;exact KT this hzx
 have hhigh:∀c∈out.drop n,jK x c (zS g)=true:=fun c hc=>by
  obtain⟨j,hj⟩:=qBB hc;rw[qBM]at hj;have hf:=s1 (n+j) c (by omega) hj;rcases qcJ hf with h|h
  . exact h
  exact absurd h ((fun c hc e=>h2 (qBr.2 ⟨c,hc,(hag c x).2 e⟩)) c (qAV hj))
 refine⟨fun c hc=>?_,?_,fun y hy hya=>?_⟩
 . simp at hc;rcases hc with hc|hc|hc
   . have:=h.mem c (qBH hc);exact⟨by simp[this.1],this.2⟩
   . subst hc;exact⟨by simp,h1⟩
   have:=h.mem c (qCp hc);exact⟨by simp[this.1],this.2⟩
 . have ho:=h.ord;rw[<- qBF n out,qEi]at ho;rw[qEi];refine⟨ho.1,qEz.2 ⟨hhigh,ho.2.1⟩,fun c hc d hd=>?_⟩;rcases qBt.1 hd with rfl|hd
   . exact hlow c hc
   exact ho.2.2 c hc d hd
 rcases qBb.1 hy with hy|hy
 . obtain⟨c,hc,hcy⟩:=h.cov y hy hya;refine⟨c,?_,hcy⟩;rw[<- qBF n out]at hc;simp only[qBb,qBt]at hc⊢;rcases hc with hc|hc
   . exact .inl hc
   exact .inr (.inr hc)
 have:y=x:=by simpa using hy
 rw[this];exact⟨x,by simp,(hag x x).2 fun _ _=>rfl⟩
def qeU{G i g a}(hag:∀x y:List Int,jf G i (i+1) x y=true↔∀v∈zS g,x.getD v.toNat 0=y.getD v.toNat 0)(S):ChI G i (zS g) a S (jn G i g a S):=by
 have:∀(l S out:List (List Int)),ChI G i (zS g) a S out->ChI G i (zS g) a (S++l) (l.foldl (vN G i g a) out):=by
  intro l
  induction l with
  |nil=>intro S out h;simpa using h
  | cons x l ih=>
   intro S out h;rw[qBw];have:=ih (S++[x]) _ (qjl hag h x);simpa using this
 have:=this S [] [] (⟨fun c hc=>(by cases hc),List.Pairwise.nil,fun x hx=>(by cases hx)⟩);unfold jn;simpa using this
def qaQ{p}(hv:qo p=0){x}(hx:x∈jH p.vars){i}(hi:i∈(NG p).flatten):x.getD i 0=(aN x i:Int):=by
 obtain⟨y,h1,h2,h3⟩:=JP hv hx hi;rw[h3,qA8,h1];rfl
def qdB{p}(hv:qo p=0){gi g}(hg:(NG p)[gi]?=some g)(x y):jf p.groups gi (gi+1) x y=true↔∀i∈g,x.getD i 0=y.getD i 0:=by
 unfold jf;have h1:(p.groups.drop gi).take (gi+1-gi)=[g.map fun n:Nat=>(n:Int)]:=by
  rw[Wa hv,<- List.map_drop,<- List.map_take,show gi+1-gi=1 by omega];obtain⟨q1,q2⟩:=qAU.1 hg;rw[qA9 q1,q2];rfl
 rw[h1];simp;exact qe8
def ql9{p}(hv:qo p=0)(gi x y):jf p.groups 0 gi x y=true↔∀i∈((NG p).take gi).flatten,x.getD i 0=y.getD i 0:=by
 unfold jf;rw[qEd,qBZ,Wa hv,<- List.map_take,qA3];constructor
 . intro h i hi;obtain⟨g,h1,h2⟩:=qBv.1 hi;exact qe8.1 (h _ (qBj.2 ⟨g,h1,rfl⟩)) i h2
 intro h g' hg';obtain⟨g,h1,rfl⟩:=qBj.1 hg';exact qe8.2 fun i hi=>h i (qBv.2 ⟨g,h1,hi⟩)
def qmU{g:List Nat}{x y:List Int}:(∀v∈zS (g.map fun n:Nat=>(n:Int)),x.getD v.toNat 0=y.getD v.toNat 0)↔∀i∈g,x.getD i 0=y.getD i 0:=by
 constructor
 . intro h i hi;have:=h (i:Int) ((ZE _).2 (qBj.2 ⟨i,hi,rfl⟩));simpa using this
 intro h v hv;obtain⟨i,hi,rfl⟩:=qBj.1 ((ZE _).1 hv);simpa using h i hi
noncomputable def qpv(p:Problem):List (List Int):=(jH p.vars).filter (yD p.vars (qC p).1)
def qdl{p}(hv:qo p=0){gi g}(hg:(NG p)[gi]?=some g){a}(ha:a∈jH p.vars):
 Reps p (qC p).1 g (Yl p a gi) (jn p.groups gi (g.map fun n:Nat=>(n:Int)) a (qpv p))/\(jn p.groups gi (g.map fun n:Nat=>(n:Int)) a (qpv p)).Pairwise fun x y=>jK x y (zS (g.map fun n:Nat=>(n:Int)))=true:=by
 have hgm:∀i∈g,i∈(NG p).flatten:=fun i hi=>qBv.2 ⟨g,qAV hg,hi⟩
 have htk:∀i∈((NG p).take gi).flatten,i∈(NG p).flatten:=fun i hi=>by
  obtain⟨l,h1,h2⟩:=qBv.1 hi;exact qBv.2 ⟨l,qBH h1,h2⟩
 have hinv:=qeU (G:=p.groups) (i:=gi) (g:=g.map fun n:Nat=>(n:Int)) (a:=a) (fun x y=>(qdB hv hg x y).trans qmU.symm) (qpv p);have hpre:∀x∈jH p.vars,jf p.groups 0 gi x a=true↔∀q∈Yl p a gi,aN x q.1=q.2:=fun x hx=>by
  rw[ql9 hv];constructor
  . intro h q hq;obtain⟨i,hi,rfl⟩:=qBj.1 hq;have:=h i hi;rw[qaQ hv hx (htk i hi),qaQ hv ha (htk i hi)]at this;dsimp only;omega
  intro h i hi;have:=h (i,aN a i) (qBj.2 ⟨i,hi,rfl⟩);rw[qaQ hv hx (htk i hi),qaQ hv ha (htk i hi)];dsimp only at this;omega
 generalize jn p.groups gi (g.map fun n:Nat=>(n:Int)) a (qpv p)=C at *;have hmem:∀x∈C,x∈jH p.vars/\yD p.vars (qC p).1 x=true:=fun x hx=>by
  have:=(hinv.mem x hx).1;exact qCc.1 this
 refine⟨⟨fun x hx=>⟨(hmem x hx).1,(hmem x hx).2,(hpre x (hmem x hx).1).1 (hinv.mem x hx).2⟩,fun x h1 h2 h3=>?_,?_⟩,hinv.ord⟩
 . obtain⟨c,hc,hcx⟩:=hinv.cov x (qCc.2 ⟨h1,h2⟩) ((hpre x h1).2 h3);refine⟨c,hc,fun i hi=>?_⟩;have:=(qdB hv hg c x).1 hcx i hi;rw[qaQ hv (hmem c hc).1 (hgm i hi),qaQ hv h1 (hgm i hi)]at this;omega
 refine hinv.ord.imp_of_mem ?_;intro x y hx hy h;obtain⟨v,h1,h2⟩:=qgb h;obtain⟨i,hi,rfl⟩:=qBj.1 ((ZE _).1 h1);rw[qBu,qaQ hv (hmem x hx).1 (hgm i hi),qaQ hv (hmem y hy).1 (hgm i hi)]at h2;exact⟨i,hi,fun e=>h2 (by rw[e])⟩
def qmt{p}(hv:qo p=0){i}(hi:i∈(NG p).flatten){x}(hpos:0<wtP p i x){A:Nat}(h1:1<=A)(h2:A<=1099511627776):
 YV p.dists (i:Int) (x:Int) (some (A:Int))=if A*wtP p i x<=1099511627776 then some ((A*wtP p i x:Nat):Int) else none:=by
 obtain⟨v,hvi,hm⟩:=kE hv hi;obtain⟨o,ho⟩:∃o,(jc p.vars.length p.dists)[i]?=some o:=⟨_,qAW (by rw[ye];exact(qAU.1 hvi).1)⟩;have hwt:wtP p i x=wtO o (x:Int):=by unfold wtP;rw[qA8,ho];rfl
 have skip:∀(l:List Dist) (B:Option Int),(∀d∈l,d.var≠(i:Int))->YV l (i:Int) (x:Int) B=B:=by
  intro l
  induction l with
  |nil=>intro B _;rfl
  | cons d l ih=>
   intro B h;show YV l _ _ (B.bind fun n=>qiE (i:Int) (x:Int) n d)=B;rw[ih _ fun e he=>h e (by simp[he])]
   cases B with
   |none=>rfl
   | some n=>
    show qiE (i:Int) (x:Int) n d=_;unfold qiE;rw[if_pos (h d (by simp))]
 cases o with
 | none=>
  rw[skip _ _ fun d hd e=>?_,show wtP p i x=1 by rw[hwt];rfl,qEZ,if_pos h2];obtain⟨j,e1,_,_,e4⟩:=qcH hv hd;have:j=i:=by omega
  subst this;rw[ho]at e4;cases e4
 | some w=>
  obtain⟨d,hd,hdv,hdw⟩:=qcI ho;obtain⟨k,hk⟩:=qBB hd;obtain⟨j,e1,_,_,e4⟩:=qcH hv hd;have hji:j=i:=by omega
  have e:p.dists=p.dists.take k++d::p.dists.drop (k+1):=by
   obtain⟨x1,x2⟩:=qAU.1 hk;have:=qBF k p.dists;rw[qA9 x1,x2]at this;exact this.symm
  have hbefore:∀y∈p.dists.take k,y.var≠(i:Int):=fun y hy=>by
   have:=(QT hv hk).2 y hy
   rwa[e1,hji]at this
  have hafter:∀y∈p.dists.drop (k+1),y.var≠(i:Int):=fun y hy e'=>by
   obtain⟨m,hm'⟩:=qBB hy;rw[qBM]at hm';refine(QT hv hm').2 d ?_ (by rw[e',e1,hji]);refine qAV (i:=k) ?_;rw[qDc (by omega),hk]
  have happ:∀(l m:List Dist) (B:Option Int),YV (l++m) (i:Int) (x:Int) B=YV m (i:Int) (x:Int) (YV l (i:Int) (x:Int) B):=fun l m B=>by unfold YV;rw[qBX]
  rw[e,happ,skip _ _ hbefore,show ∀(d:Dist) (m:List Dist) (B:Int),YV (d::m) (i:Int) (x:Int) (some B)=YV m (i:Int) (x:Int) (qiE (i:Int) (x:Int) B d) from fun _ _ _=>rfl,skip _ _ hafter];unfold qiE;rw[if_neg (by rw[e1,hji];simp),hdw];rw[hwt]at hpos⊢;unfold wtO at hpos⊢;dsimp only at hpos⊢;have hnn:=QC w (x:Int);obtain⟨n,er,hwd⟩:∃n er,zW w (x:Int)=(n,er):=⟨_,_,rfl⟩;simp only[hwd]at hpos hnn⊢;by_cases her:er=0
  case neg=>
   simp only[ne_eq,her,not_false_eq_true,if_true,true_or];rw[if_neg];unfold lim;have:=qBU 1099511627777 h1;omega
  subst her;simp only[ne_eq,not_true_eq_false,if_false,false_or]at hpos⊢;obtain⟨m,rfl⟩:=qBe hnn;rw[qBu]at hpos⊢;have hm0:0<m:=qDj fun e=>by rw[e]at hpos;simp[sat]at hpos
  have hdiv:((1099511627776:Int)/(m:Int)<(A:Int))↔1099511627776<A*m:=by
   rw[show(1099511627776:Int)/(m:Int)=((1099511627776/m:Nat):Int) by simp,Int.ofNat_lt];exact qEc hm0
  by_cases hbig:1099511627776<A*m
  . rw[if_pos ⟨by omega,hdiv.2 hbig⟩,if_neg];unfold sat lim;by_cases hml:m<=1099511627777
    . rw[qCq hml];omega
    rw[qEa (by omega)];have:=qBU 1099511627777 h1;omega
  have hml:m<=1099511627776:=by
   have:=qBU m h1;omega
  rw[if_neg (fun h=>hbig (hdiv.1 h.2)),show sat m=m by unfold sat lim;omega,if_pos (by omega)];simp
def YW{p}(hv:qo p=0){x}(hx:x∈jH p.vars):∀(g:List Nat) (A:Nat),(∀i∈g,i∈(NG p).flatten/\0<wtP p i (aN x i))->1<=A->A<=1099511627776 ->
 (g.map fun n:Nat=>(n:Int)).foldl (fun s v=>YV p.dists v (x.getD v.toNat 0) s) (some (A:Int))=if A*jR p (aN x) g<=1099511627776 then some ((A*jR p (aN x) g:Nat):Int) else none
 |[],A,_,h1,h2=>by simp[jR,h2]
 | i::g,A,hg,h1,h2=>by
  obtain⟨hi,hp⟩:=hg i (by simp);have hgg:=fun j (hj:j∈g)=>hg j (by simp[hj])
  have hpw:0<jR p (aN x) g:=YB fun j hj=>(hgg j hj).2
  rw[qA7,qBw,qBu,qaQ hv hx hi,qmt hv hi hp h1 h2];unfold jR;by_cases hA:A*wtP p i (aN x i)<=1099511627776
  . rw[if_pos hA,YW hv hx g _ hgg (qDF h1 hp) hA,qCb]
  rw[if_neg hA,Zy,if_neg];rw[<- qCb];have:=qEm (A*wtP p i (aN x i)) hpw;omega
def qiN{p}(hv:qo p=0){g}(hgm:∀i∈g,i∈(NG p).flatten):∀(C) (out) (s:Nat),(∀x∈C,x∈jH p.vars/\∀i∈g,0<wtP p i (aN x i))->s<=1099511627776 ->
 qiD p.dists (g.map fun n:Nat=>(n:Int)) C out (s:Int)=if s+ku (fun x=>jR p (aN x) g) C<=1099511627776 then some (out++C.map (fun x=>(jR p (aN x) g:Int)),((s+ku (fun x=>jR p (aN x) g) C:Nat):Int)) else none
 |[],out,s,_,hs=>by simp[qiD,ku,hs]
 | x::C,out,s,hC,hs=>by
  obtain⟨hx,hp⟩:=hC x (by simp);have ih:=fun out s hs=>qiN hv hgm C out s (fun y hy=>hC y (by simp[hy])) hs
  have hw:qiP p.dists x (g.map fun n:Nat=>(n:Int))=if jR p (aN x) g<=1099511627776 then some ((jR p (aN x) g:Nat):Int) else none:=by
   unfold qiP;have:=YW hv hx g 1 (fun i hi=>⟨hgm i hi,hp i hi⟩) (qA5 _) (by omega);rw[qDE]at this;exact this
  unfold qiD;rw[hw];simp only[ku,qA7];by_cases h1:jR p (aN x) g<=1099511627776
  . rw[if_pos h1];dsimp only;by_cases h2:s+jR p (aN x) g<=1099511627776
    . rw[if_neg (by omega),<- qES,ih _ _ h2];rw[qC0,qBE];rfl
    rw[if_pos (by omega),if_neg (by omega)]
  rw[if_neg h1,if_neg (by omega)]
noncomputable def qiI(p:Problem)(gi:Nat)(a:List Int):List (List Int):=jn p.groups gi (((NG p).getD gi []).map fun n:Nat=>(n:Int)) a (qpv p)
structure ChL(p gi g a C):Prop where
 reps:Reps p (qC p).1 g (Yl p a gi) C
 ord:C.Pairwise fun x y=>jK x y (zS (g.map fun n:Nat=>(n:Int)))=true
 all:∀x∈C,x∈jH p.vars/\∀i∈g,0<wtP p i (aN x i)
def qeS{p}(h0:(qC p).2=0){gi g}(hg:(NG p)[gi]?=some g){a}(ha:a∈jH p.vars):ChL p gi g a (qiI p gi a):=by
 obtain⟨hv,_,hs,hneed⟩:=kJ h0;obtain⟨h1,h2⟩:=qdl hv hg ha;unfold qiI;rw[show(NG p).getD gi []=g by rw[qA8,hg];rfl];refine⟨h1,h2,fun x hx=>?_⟩;obtain⟨a1,a2,_⟩:=h1.sol x hx;refine⟨a1,fun i hi=>?_⟩;have hev:∀e∈zy p,jz (yo p.vars x) e≠0:=fun e he=>by
  unfold yD at a2;exact of_decide_eq_true (qA3.1 a2 e (hneed e he))
 exact(qpo hv a1 hev (qBv.2 ⟨g,qAV hg,hi⟩)).1
def qnJ(g x):okF (fun _=>none) g x=true:=by
 unfold okF;simp
def qfo{p}(h0:(qC p).2=0){gi g}(hg:(NG p)[gi]?=some g){a}(ha:a∈jH p.vars):qd1 p a gi=ku (fun x=>jR p (aN x) g) (qiI p gi a):=by
 obtain⟨hv,_,_,_⟩:=kJ h0;have h:=qeS h0 hg ha;unfold qd1;rw[show(NG p).getD gi []=g by rw[qA8,hg];rfl,qbO hv (fun _=>none) g _ _ (fun i hi=>qBv.2 ⟨g,qAV hg,hi⟩) (fun q hq=>by
  obtain⟨i,hi,rfl⟩:=qBj.1 hq;obtain⟨l,h1,h2⟩:=qBv.1 hi;exact qBv.2 ⟨l,qBH h1,h2⟩) h.reps]
 simp only[qnJ,if_true]
def qhJ{p}(h0:(qC p).2=0){gi:Nat}{g}(hg:(NG p)[gi]?=some g){a}(ha:qL p.vars a=true):
 ZO p gi a=if qiI p gi a=[] then([],[],0,11) else if qd1 p a gi<=1099511627776 then(qiI p gi a,(qiI p gi a).map (fun x=>(jR p (aN x) g:Int)),((qd1 p a gi:Nat):Int),0) else([],[],0,3):=by
 obtain⟨hv,_,_,_⟩:=kJ h0;have haA:=Qz ha;have h:=qeS h0 hg haA;have hgi:=(qAU.1 hg).1;have hgl:p.groups.length=(NG p).length:=by simp[NG]
 have hG:p.groups.getD gi []=g.map fun n:Nat=>(n:Int):=by
  rw[Wa hv,qA8,qBp,hg];rfl
 have hC:jn p.groups gi (g.map fun n:Nat=>(n:Int)) a (qpv p)=qiI p gi a:=by unfold qiI;rw[show(NG p).getD gi []=g by rw[qA8,hg];rfl]
 unfold ZO;rw[show Jf p=(qpv p,0) by unfold Jf;rw[if_pos h0];rfl,if_neg (by simp),if_neg (by rw[ha,hv];simp;omega),qBu,hG];simp only[hC];have hw:=qiN hv (fun i hi=>qBv.2 ⟨g,qAV hg,hi⟩) (qiI p gi a) [] 0 h.all (by omega);rw[qCC,<- qfo h0 hg haA,qBk,show((0:Nat):Int)=0 from rfl]at hw;rw[hw];by_cases hc:qiI p gi a=[]
 . rw[if_pos hc,if_pos hc]
 rw[if_neg hc,if_neg hc];by_cases ht:qd1 p a gi<=1099511627776
 . rw[if_pos ht,if_pos ht]
 rw[if_neg ht,if_neg ht]
def qhK(p gi a):(ZO p gi a).2.2=((yH p gi a).1,(yH p gi a).2):=by
 unfold yH;by_cases h0:(qC p).2=0
 case neg=>
  have hall:Jf p=([],(qC p).2):=by unfold Jf;rw[if_neg h0]
  rw[if_pos h0];unfold ZO;rw[hall,if_pos h0]
 obtain⟨hv,_,_,_⟩:=kJ h0;rw[if_neg (fun e=>e h0)];by_cases hbad:gi<0\/((NG p).length:Int)<=gi\/qL p.vars a=false
 . have hall:Jf p=(qpv p,0):=(by unfold Jf;rw[if_pos h0];rfl);unfold ZO vX;rw[hall,if_neg (by simp),if_pos hbad,if_pos (by rw[show p.groups.length=(NG p).length by simp[NG],hv];simpa using hbad)]
 have g1:¬((NG p).length:Int)<=gi:=fun e=>hbad (.inr (.inl e))
 have ha:qL p.vars a=true:=by
  cases hA:qL p.vars a with
  |true=>rfl
  |false=>exact absurd (.inr (.inr hA)) hbad
 obtain⟨k,rfl⟩:=qBe (Int.not_lt.1 fun e=>hbad (.inl e));obtain⟨g,hg⟩:∃g,(NG p)[k]?=some g:=⟨_,qAW (by omega)⟩;have haA:=Qz ha;have hsum:=qfo h0 hg haA;have hch:=qeS h0 hg haA;have hs:qiF p (fun _=>none) a k=sat (qd1 p a k):=qbX _ _ _ _;rw[qhJ h0 hg ha];unfold vX;rw[if_neg hbad,qBu,hs];have hzero:qd1 p a k=0↔qiI p k a=[]:=by
  rw[hsum];constructor
  . intro h;apply qCI.2;intro x hx;have h1:=qjj (f:=fun x=>jR p (aN x) g) hx;have h2:0<jR p (aN x) g:=YB (hch.all x hx).2;omega
  intro h;rw[h];rfl
 by_cases hc:qiI p k a=[]
 . rw[if_pos hc,if_pos (Zf.2 (hzero.2 hc))]
 rw[if_neg hc,if_neg (fun e=>hc (hzero.1 (Zf.1 e)))];by_cases ht:qd1 p a k<=1099511627776
 . have hsat:sat (qd1 p a k)=qd1 p a k:=(by unfold sat lim;omega);rw[if_pos ht,hsat,if_neg (by unfold lim;omega)]
 have hsat:sat (qd1 p a k)=lim:=by unfold sat lim;omega
 rw[if_neg ht,hsat,if_pos rfl]
def nq{n:Nat}(h:0<n):(n:Rat)≠0:=fun e=>by have:=Rat.natCast_eq_zero_iff.1 e;omega
def Vv{p a}:∀(l:List Nat) (n:Nat),(∀i∈l,0<wtP p i (aN a i))->n*jR p (aN a) l<=lim->l.foldl (fun n i=>sat (n*wtP p i (aN a i))) n=n*jR p (aN a) l
 |[],n,_,_=>by simp[jR]
 | i::l,n,h,hle=>by
  have hp:0<jR p (aN a) l:=YB fun j hj=>h j (by simp[hj])
  rw[jR,<- qCb]at hle;have h1:n*wtP p i (aN a i)<=lim:=qBN (qD3 _ hp) hle;have h2:sat (n*wtP p i (aN a i))=n*wtP p i (aN a i):=by unfold sat;omega
  rw[qBw,h2,Vv l _ (fun j hj=>h j (by simp[hj])) hle,jR,qCb]
def qvq:FrOk 1 1:=⟨by decide,by decide,by decide,by decide⟩
def qkI{p a R}(h:R.all (yi p a)=true):yD p.vars R a=true:=by
 unfold yD;rw[qA3]at h⊢;intro e he;have:=h e he;unfold yi at this;simp only[qA1,qCn,decide_eq_false_iff_not]at this;exact decide_eq_true this.2
def qlc:∀{G:List Int}{g:List Nat},G.map qh=g.map zJ->G=g.map fun n:Nat=>(n:Int)
 |[],[],_=>rfl
 |[],_::_,h=>by simp at h
 |_::_,[],h=>by simp at h
 | x::G,y::g,h=>by
  simp only[qA7,qC8]at h⊢;refine⟨?_,qlc h.2⟩;have:=h.1;simpa[qh,zJ] using this
def qvm{p}(hv:qo p=0){gi}(hgi:gi<(NG p).length):p.groups[gi]?=some (((NG p).getD gi []).map fun n:Nat=>(n:Int)):=by
 obtain⟨g,hg,hgd,_,_⟩:=qwf hv hgi;have h:=congrArg (fun l:List (List AV)=>l[gi]?) (WL hv);simp only[qBp,hg,qDQ]at h;obtain⟨G,hG⟩:∃G,p.groups[gi]?=some G:=by
  cases hx:p.groups[gi]? with
  |none=>rw[hx]at h;cases h
  |some G=>exact⟨G,rfl⟩
 rw[hG,hgd];rw[hG]at h;have h:=Option.some.inj h;simp only[qD,yv,qC8,AV.sl.injEq,true_and,and_true]at h;rw[qlc h]
def qx4{p}(h0:(qC p).2=0){a}(ha:a∈jH p.vars)(hs:yD p.vars (qC p).1 a=true){g:Nat}(h1:(vX p g a).2=0):
 (∀ v∈((NG p).getD g []).map (fun n:Nat=>(n:Int)),0<=v/\v<(a.length:Nat))/\(qmk (qiP p.dists a (((NG p).getD g []).map fun n:Nat=>(n:Int)))).1=(yI p g a:Nat)/\yI p g a<=1099511627776 /\
   0<(vX p g a).1.toNat/\(vX p g a).1=((vX p g a).1.toNat:Int)/\(vX p g a).1.toNat<1099511627777/\g<(NG p).length:=by
 obtain⟨hv,_,_,hneed⟩:=kJ h0;obtain⟨t1,t2,t3,t4,t5⟩:=qq0 h1;have hle:=qum hv ha hs t1;have hlim:lim=1099511627777:=rfl;have t4:0<qd1 p a g:=t4;have t5:qd1 p a g<lim:=t5;have e2:(vX p g a).1.toNat=qd1 p a g:=by rw[t3];rfl
 have hin:∀i∈(NG p).getD g [],i∈(NG p).flatten/\0<wtP p i (aN a i)/\a[i]?=some (aN a i:Int):=fun i hi=>by
  obtain⟨g',hg,hgd,hgn,hgm⟩:=qwf hv t1;have hf:=hgm i (by rwa[hgd]at hi);have hw:=qpo hv ha (fun e he=>of_decide_eq_true (qA3.1 hs e (hneed e he))) hf;exact⟨hf,hw.1,hw.2.2⟩
 have e1:yI p g a=jR p (aN a) ((NG p).getD g []):=by
  unfold yI;rw[Vv _ 1 (fun i hi=>(hin i hi).2.1) (by rw[qDE];exact qEe (qB3 hle t5)),qDE]
 have hw:=YW hv ha ((NG p).getD g []) 1 (fun i hi=>⟨(hin i hi).1,(hin i hi).2.1⟩) (qA5 _) (by omega);rw[qDE,if_pos (by omega)]at hw;have hw:qiP p.dists a (((NG p).getD g []).map fun n:Nat=>(n:Int))=some ((jR p (aN a) ((NG p).getD g []):Nat):Int):=hw;refine⟨?_,by rw[hw,e1];rfl,by omega,by omega,by rw[e2,t3];rfl,by omega,t1⟩;intro v hvm;obtain⟨i,hi,rfl⟩:=qBj.1 hvm;have:=(qAU.1 (hin i hi).2.2).1;omega
def qpD(p)(h:RfH p)(hvp:VP p)(hr:RnH p)(a)(haf:Fits a):
 Pure prog GG 8 [.agg (qA p),.sl 1 (a.map qh) .none] (.tup [.agg [.int .i64 ((Qd p a).1:Nat),.int .i64 ((Qd p a).2.1:Nat)],.int .i64 (Qd p a).2.2]):=by
 refine qFm qg func8 rfl (by kernel_rfl) ?_;have c0:=qv9 p h hr.bits;have c1:=Vu p a hvp haf;obtain⟨RES,hRES⟩:∃RES,RES=Qd p a:=⟨_,rfl⟩;rw[<- hRES];unfold Qd at hRES;simp only[qA]at c0 c1;simp;refine qFp c0 (by simp) ?_;by_cases h0:(qC p).2=0
 case neg=>
  rw[if_pos h0]at hRES;have e:Jf p=([],(qC p).2):=by unfold Jf;rw[if_neg h0]
  subst hRES;simp[e,h0]
 obtain⟨hv,_,_,hneed⟩:=kJ h0;rw[if_neg (fun e=>e h0)]at hRES;have eA:Jf p=((jH p.vars).filter (yD p.vars (qC p).1),0):=by unfold Jf;rw[if_pos h0]
 rw[hv,decide_eq_true rfl,qB7]at c1;rw[eA];simp;refine qFp c1 (by simp) ?_
 cases has:qL p.vars a with
 | false=>
  rw[if_pos has]at hRES;subst hRES;simp[unA]
 | true=>
  rw[if_neg (by rw[has];simp)]at hRES;have ha:=Qz has;have hv20:=hr.v20;have hglen:∀g∈p.groups,g.length<=1000000:=fun g' hg'=>by
   have hl:=JS hv (by omega);have h1:=hl.1 (g'.map Int.toNat) (qBj.2 ⟨g',hg',rfl⟩);rw[qBA]at h1;omega
  obtain⟨L,hL⟩:∃L,L=(jH p.vars).filter (yD p.vars (qC p).1):=⟨_,rfl⟩;have hLf:∀b∈L,Fits b:=fun b hb=>by
   rw[hL]at hb;have:=(wc.1 (qCc.1 hb).1).len;unfold Fits;omega
  have hall:=hr.all hv;have hLl:L.length<=(jH p.vars).length:=by rw[hL];exact qC6 ..
  have hka:(L.any fun b=>decide (b=a))=yD p.vars (qC p).1 a:=by
   rw[hL]
   cases hsa:yD p.vars (qC p).1 a with
   |true=>exact qBr.2 ⟨a,qCc.2 ⟨ha,hsa⟩,by simp⟩
   | false=>
    rw[qCv];intro b hb e;have:=of_decide_eq_true e;subst this;rw[(qCc.1 hb).2]at hsa;cases hsa
  have hho:(qC p).1.all (yi p a)=yD p.vars (qC p).1 a:=by
   cases hsa:yD p.vars (qC p).1 a with
   |true=>exact qjA hv ha hsa
   | false=>
    cases h2:(qC p).1.all (yi p a) with
    |false=>rfl
    |true=>rw[qkI h2]at hsa;cases hsa
  rw[hho]at hRES;rw[<- hL];simp[unA];refine qFu (fun m ev U=>∃k:Nat,m+k=L.length/\ev 1=.sl 1 (a.map qh) .none/\ev 2=.ptr 0 0/\ev 4=.ptr 1 0/\ev 6=.sl 1 (L.map qD) .none/\ev 8=.bool ((L.take k).any fun b=>decide (b=a))/\ev 9=.int .i64 k/\U=⟨[.cells (qA p),.cells [.int .i64 0,.int .i64 0]],[]⟩) L.length ⟨0,by omega,by simp,by simp,by simp,by simp,by simp,by simp,by simp[qA]⟩ ?_;rintro m ev U R hR ⟨k,hm,e1,e2,e4,e6,e8,e9,rfl⟩;by_cases hk:k<L.length
  . have hk':(k:Int)<L.length:=(by omega);obtain⟨b,hb⟩:∃b,L[k]?=some b:=⟨_,qAW hk⟩;have hs:=qhw b a (hLf b (qAV hb));have hwk:=wr (n:=(k:Int)+1) (by omega) (by omega);have hsn:L.take (k+1)=L.take k++[b]:=(by rw[qBi,hb];rfl);have hany:(L.take (k+1)).any (fun b=>decide (b=a))=((L.take k).any (fun b=>decide (b=a))||decide (b=a)):=(by rw[hsn,List.any_append];simp);obtain⟨c,hc⟩:∃c,(L.take k).any (fun b=>decide (b=a))=c:=⟨_,rfl⟩;rw[hc]at e8 hany;obtain⟨d,hd⟩:∃d,decide (b=a)=d:=⟨_,rfl⟩;rw[hd]at hs hany
    cases c with
    | true=>
     simp[-getElem?_pos,e1,e2,e4,e6,e8,e9,hk',hb,hwk];exact hR (m-1) _ _ (by omega) ⟨k+1,by omega,by simp[e1],by simp[e2],by simp[e4],by simp[e6],by rw[hany];simp,by simp,rfl⟩
    | false=>
     simp[-getElem?_pos,e1,e2,e4,e6,e8,e9,hk',hb,hwk];refine qFp hs (by simp) ?_;simp[-getElem?_pos,e1,e2,e4,e6,e8,e9,hk',hb,hwk];exact hR (m-1) _ _ (by omega) ⟨k+1,by omega,by simp[e1],by simp[e2],by simp[e4],by simp[e6],by rw[hany];simp,by simp,rfl⟩
  have hk':¬(k:Int)<L.length:=by omega
  rw[qAZ (by omega),hka]at e8
  cases hsa:yD p.vars (qC p).1 a with
  | false=>
   rw[hsa]at e8 hRES;rw[if_pos rfl]at hRES;subst hRES;simp[-getElem?_pos,e1,e2,e4,e6,e8,e9,hk',unA]
  | true=>
   rw[hsa]at e8 hRES;rw[if_neg (by simp)]at hRES;have hNl:(NG p).length=p.groups.length:=(by simp[NG]);rw[qCP,hNl]at hRES;simp[-getElem?_pos,e1,e2,e4,e6,e8,e9,hk',unA];refine qFu (fun m ev U=>∃(g x y:Nat) (W:List Blk),m+g=p.groups.length/\ev 1=.sl 1 (a.map qh) .none/\ev 2=.ptr 0 0/\ev 4=.ptr 1 0/\ev 10=.ptr 2 0/\ev 11=.int .i64 g/\FrOk x y/\RES=Kz p a (List.range' g (p.groups.length-g)) x y /\
    U=⟨.cells (qA p)::.cells [.int .i64 0,.int .i64 0]::.cells [.int .i64 x,.int .i64 y]::W,[]⟩) p.groups.length ⟨0,1,1,[],by omega,by simp[e1],by simp[e2],by simp[e4],by simp,by simp,qvq,by simpa using hRES,by simp[qA]⟩ ?_
   rintro m ev U R hR ⟨g,x,y,W,hm,e1,e2,e4,e10,e11,hf,hres,rfl⟩;by_cases hg:g<p.groups.length
   case neg=>
    have hg':¬(g:Int)<p.groups.length:=(by omega);rw[show p.groups.length-g=0 by omega]at hres;simp only[List.range'_zero,Kz]at hres;subst hres;simp[-getElem?_pos,e1,e2,e4,e10,e11,hg']
   have hg':(g:Int)<p.groups.length:=(by omega);obtain⟨n,hn⟩:∃n,p.groups.length-g=n+1:=⟨p.groups.length-g-1,by omega⟩;rw[hn,qC3]at hres;unfold Kz at hres;have t1:=qqZ p h hvp hr g a haf;rw[qhK p g a]at t1;have hto:yH p g a=vX p g a:=(by unfold yH;rw[if_neg (fun e=>e h0)]);rw[hto]at t1;simp only[qA]at t1;by_cases ht:(vX p g a).2=0
   case neg=>
    rw[if_pos ht]at hres;subst hres;simp[-getElem?_pos,e1,e2,e4,e10,e11,hg'];refine qFp t1 (by simp) ?_;simp[-getElem?_pos,e1,e2,e4,e10,e11,ht]
   rw[if_neg (fun e=>e ht)]at hres;obtain⟨r1,r2,r3,r4,r5,r6,r7⟩:=qx4 h0 ha hsa ht;have hgi:=qvm hv r7;have w1:=qfe p g _ a hgi (hglen _ (qAV hgi)) r1 hr.dl hr.wl;rw[r2]at w1;have m1:=qkq (yI p g a) (vX p g a).1.toNat (by omega) (by omega) r4;have mk:=qkp (a:=yI p g a) (b:=(vX p g a).1.toNat) (by omega) (by omega) r4;rw[r5,ht]at t1;generalize (vX p g a).1.toNat=S at *;generalize yI p g a=w at *;obtain⟨mn,hmn⟩:∃z,(yt w S).1=z:=⟨_,rfl⟩;obtain⟨md,hmd⟩:∃z,(yt w S).2=z:=⟨_,rfl⟩;rw[hmn,hmd]at m1 mk hres;have mm:=qu0 x y mn md hf.nl hf.dl hf.pos hf.cop mk.nl mk.dl mk.pos mk.cop;have mok:=fun e=>qpQ hf mk e
   have merr:(yk x y mn md).2.2=0\/(yk x y mn md).2.2=3:=(by unfold yk Vt;split<;>simp);obtain⟨b,hwb⟩:∃b,(qmk (qiP p.dists a (((NG p).getD g []).map fun n:Nat=>(n:Int)))).2=b:=⟨_,rfl⟩;rw[hwb]at w1;generalize yk x y mn md=q at *;obtain⟨qn,qd,qe⟩:=q;simp only at mm mok merr hres;simp only[qA]at w1;have hwg:=wr (n:=(g:Int)+1) (by omega) (by have:=hr.q.groups;unfold Fits at this;omega);simp[-getElem?_pos,e1,e2,e4,e10,e11,hg'];refine qFp t1 (by simp) ?_;simp[-getElem?_pos,e1,e2,e4,e10,e11];refine qFp w1 (by simp) ?_;simp[-getElem?_pos,e1,e2,e4,e10,e11];refine qFp m1 (by simp) ?_;simp[-getElem?_pos,e1,e2,e4,e10,e11];refine qFp mm (by simp) ?_;rcases merr with rfl|rfl
   . rw[if_neg (by simp)]at hres;simp[-getElem?_pos,e1,e2,e4,e10,e11,hwg];exact hR (m-1) _ _ (by omega) ⟨g+1,qn,qd,_,by omega,by simp[e1],by simp[e2],by simp[e4],by simp[e10],by simp,mok rfl,by rw[hres,show p.groups.length-(g+1)=n by omega],by simp[qA];rfl⟩
   rw[if_pos (by simp)]at hres;subst hres;simp[-getElem?_pos,e1,e2,e4,e10,e11]
def Kp:∀(n) (l),l.length=n->l.Pairwise (· < ·)->(QH l).length<=(l.filter fun x=>!decide (x-1∈l)).length/\∀r,(QH l).getLast?=some r->r.2∈l/\∀y∈l,y<=r.2
 | 0,l,h,_=>by
  have:=qA6 h;subst this;exact⟨by simp[QH],fun r hr=>by simp[QH]at hr⟩
 | n+1,l,h,hp=>by
  obtain⟨d,x,rfl⟩:∃d x,l=d++[x]:=⟨l.dropLast,l.getLast (by rintro rfl;simp at h),(qB9 _).symm⟩;rw[qEi]at hp;obtain⟨hp1,_,hp2⟩:=hp;have hlt:∀y∈d,y<x:=fun y hy=>hp2 y hy x (by simp)
  obtain⟨i1,i2⟩:=Kp n d (by simpa using h) hp1;have hr:QH (d++[x])=vI (QH d) x:=by unfold QH;rw[qBX];rfl
  have hf:((d++[x]).filter fun y=>!decide (y-1∈d++[x])).length=(d.filter fun y=>!decide (y-1∈d)).length+if x-1∈d then 0 else 1:=by
   rw[qDY,qAY];congr 1
   . congr 1;refine List.filter_congr fun y hy=>?_
     have:=hlt y hy;have e:(y-1∈d++[x])↔y-1∈d:=by
      rw[qBb,qBD];exact⟨fun h=>h.resolve_right (by omega),.inl⟩
     simp only[e]
   have e:(x-1∈d++[x])↔x-1∈d:=by
    rw[qBb,qBD];exact⟨fun h=>h.resolve_right (by omega),.inl⟩
   rw[qEN];simp only[e];by_cases hx:x-1∈d<;>simp[hx]
  rw[hr,hf];unfold vI
  cases hl:(QH d).getLast? with
  | none=>
   have hn:QH d=[]:=qDq.1 hl;have hd:d=[]:=qCI.2 fun y hy=>by
    obtain⟨r,hr,_⟩:=(qfE y d).2 hy;rw[hn]at hr;cases hr
   subst hd;simp[QH]
  | some r=>
   dsimp only;obtain⟨a1,a2⟩:=i2 r hl;by_cases he:r.2=x-1
   . rw[if_pos he];obtain⟨m,hm⟩:=qDr.1 hl;rw[hm,qEj];rw[hm]at i1;simp only[qAY,qBc,qB8]at i1⊢;refine⟨by omega,fun q hq=>?_⟩;simp at hq;subst hq;refine⟨by simp,fun y hy=>?_⟩;rcases qBb.1 hy with hy|hy
     . have:=hlt y hy;dsimp only;omega
     have:y=x:=by simpa using hy
     dsimp only;omega
   rw[if_neg he];have hx:¬x-1∈d:=fun hx=>by
    have h1:=a2 _ hx;have h2:=hlt _ a1;omega
   rw[if_neg hx];simp only[qAY,qBc,qB8];refine⟨by omega,fun q hq=>?_⟩;simp at hq;subst hq;refine⟨by simp,fun y hy=>?_⟩;rcases qBb.1 hy with hy|hy
   . have:=hlt y hy;dsimp only;omega
   have:y=x:=by simpa using hy
   dsimp only;omega
def qhM{x y}:∀{l:List Weight},(∀w∈l,inW x w=inW y w)->vO l x=vO l y:=by
 intro l h;unfold vO;have:l.find? (inW x)=l.find? (inW y):=by
  induction l with
  |nil=>rfl
  | cons w l ih=>
   rw[qDC,qDC,h w (by simp),ih fun z hz=>h z (by simp[hz])]
 rw[this]
def qm2(v l):(QH (Zz v l)).length<=2*l.length+1:=by
 obtain⟨hp,hr⟩:=qam v l;have h1:=(Kp _ _ rfl hp).1;have hn:((Zz v l).filter fun x=>!decide (x-1∈Zz v l)).Nodup:=(hp.imp fun h e=>by omega:(Zz v l).Pairwise (·≠·)).filter _;have hsub:∀x∈(Zz v l).filter fun x=>!decide (x-1∈Zz v l),x∈(0:Int)::l.flatMap fun w=>[w.lo,w.hi+1]:=fun x hx=>by
  rw[qCc]at hx;obtain⟨hx1,hx2⟩:=hx;have hx2:¬x-1∈Zz v l:=by simpa using hx2
  have hx3:=hr x hx1;by_cases h0:x=0
  . simp[h0]
  have hpx:=(qCc.1 hx1).2;have hpy:vO l (x-1)=false:=by
   rw[qCe];intro hy;refine hx2 (qCc.2 ⟨?_,hy⟩);exact qBj.2 ⟨(x-1).toNat,qCd.2 (by omega),by omega⟩
  have:¬∀w∈l,inW x w=inW (x-1) w:=fun h=>by
   have:=qhM h;rw[hpx,hpy]at this;cases this
  have:∃w∈l,inW x w≠inW (x-1) w:=by
   apply Classical.byContradiction;intro hn;exact this fun w hw=>Classical.byContradiction fun he=>hn ⟨w,hw,he⟩
  obtain⟨w,hw,hne⟩:=this;refine qCg _ (qEO.2 ⟨w,hw,?_⟩);by_cases e1:x=w.lo
  . simp[e1]
  by_cases e2:x=w.hi+1
  . simp[e2]
  exfalso;refine hne ?_;unfold inW;rw[show decide (w.lo<=x)=decide (w.lo<=x-1) by rw[decide_eq_decide];omega,show decide (x<=w.hi)=decide (x-1<=w.hi) by rw[decide_eq_decide];omega]
 have h2:=qcv hn hsub;have h3:(l.flatMap fun w=>[w.lo,w.hi+1]).length=2*l.length:=by
  clear h1 h2 hn hsub hp hr
  induction l with
  |nil=>rfl
  |cons w l ih=>rw[qBm,qAY,ih];simp;omega
 rw[qBc,h3]at h2;omega
def qsJ{p}(h:VM p){b}(hb:b<=18)(hf:qp9 p b=true):RfH p:=by
 obtain⟨hr,hvp⟩:=qk6 h hb hf;unfold qp9 at hf;simp only[qA1]at hf;have hs:=hf.1;simp only[jU,qA1,qCn,qDp,decide_eq_false_iff_not,qA3,decide_eq_true_eq]at hs;obtain⟨⟨⟨⟨⟨⟨⟨⟨a1,a2⟩,a3⟩,a4⟩,a5⟩,b1⟩,b2⟩,b3⟩,b4⟩:=hs;refine⟨hr.q,by have:=hvp.flat;omega,hr.dl,hr.sl,fun d hd v=>?_⟩;have:=qm2 v d.weights;have:=b3 d hd;omega
def qrw(p l)(h:VM p)(hl:Fits l):Pure prog GG 3 [.agg (qA p),.sl 1 (l.map qh) .none] (.bool true):=by
 refine qFm qg func3 rfl (by kernel_rfl) ?_;have hs:=qy1 p h 10;simp only[qA]at hs;simp;refine qFp hs (by simp) ?_
 cases hso:qp9 p 10 with
 | false=>
  simp[unA];refine qFp qdL rfl ?_;simp
 | true=>
  obtain⟨hr,hvp⟩:=qk6 h (by decide) hso;have hrf:=qsJ h (by decide) hso;by_cases hlen:l.length<=40
  case neg=>
   have hl':(40:Int)<l.length:=(by omega);simp[unA,hl',show 40<l.length by omega];refine qFp qdL rfl ?_;simp
  have hl':¬(40:Int)<l.length:=by omega
  have s2:=qyR p l (by have:=hr.v20;omega) hl;have hfa:Fits (WO p.vars l):=by unfold Fits;rw[YH];have:=hr.v20;omega
  have q1:=qgS p hr (WO p.vars l) hfa;have q2:=qpD p hrf hvp hr (WO p.vars l) hfa;have q3:=qgS p hr l hl;have q4:=qpD p hrf hvp hr l hl;generalize WO p.vars l=a at *;generalize Qd p a=x at *;generalize Qd p l=y at *;simp only[qA]at s2 q1 q2 q3 q4;simp[unA,hl',show ¬40<l.length by omega];refine qFp s2 (by simp) ?_;simp;refine qFp q1 (by simp) ?_;simp;refine qFp q2 (by simp) ?_;simp;refine qFp q3 (by simp) ?_;simp;refine qFp q4 (by simp) ?_;simp[qgC];refine qFp qdL (by simp) ?_;simp
def qmS{H:Type}{enc:TypeId×Value->H}{W W':World}{v:Value}{d:DataW H}{ps:List MemPlace}{sp:Nat->Bool}(h:DataW.Trod enc prog W 0 (fun _=>true) true 27 v d ps)(hb:Go.RowKit.Below W.heap.size W W')(hlt:∀x∈ps,x.block<W.heap.size)(hs:∀p∈ps,sp p.block=true):
 DataW.Trod enc prog W' 0 sp true 27 v d ps :=
 WideElems.Trod_stays KU (by kernel_rfl) (of_decide_eq_true (by kernel_rfl)) h (fun x hx=>hb.same (hlt x hx)) hs
def qmR{H:Type}{enc:TypeId×Value->H}{W W':World}{v:Value}{d:DataW H}{ps:List MemPlace}{sp:Nat->Bool}(h:DataW.Trod enc prog W 0 (fun _=>true) true 28 v d ps)(hb:Go.RowKit.Below W.heap.size W W')(hlt:∀x∈ps,x.block<W.heap.size)(hs:∀p∈ps,sp p.block=true):
 DataW.Trod enc prog W' 0 sp true 28 v d ps :=
 WideElems.Trod_stays KU (by kernel_rfl) (of_decide_eq_true (by kernel_rfl)) h (fun x hx=>hb.same (hlt x hx)) hs
def qr6(os:Os)(started:os.Started)(H:Type)(enc:TypeId×Value->H):
 ReturnsInHanded {} Tryz.checked os 3 .any (fun w args=>(Rows.randomProbsSpec.pre enc prog Tryz.f3 [] false w args/\laidMetH prog qh4 w)/\sizedMet enc prog Tryz.f3 (OpenSpec.ofChange Rows.randomProbsSpec) false w args)
  (Rows.randomProbsSpec.post enc prog Tryz.f3 false true false false):=by
 refine returnsInHanded_of_change_and (C:=Tryz.checked) (X:=fun w _=>laidMetH prog qh4 w) (fun _ _ _ hh h=>h.of_heap hh) qrF started (by kernel_rfl) func3
  (ChangeSpec.witness_shaped (enc:=enc) (C:=Tryz.checked) (os:=os) (X:=fun w _=>laidMetH prog qh4 w) false (World.doorLaid prog 400 os) #[.agg #[.slice none 0 0,.slice none 0 0,.slice none 0 0,.slice none 0 0,.slice none 0 0],.slice none 0 0] 8 rfl (World.shaped_of_RefB (by kernel_rfl) (by kernel_rfl)) (by kernel_rfl) (by kernel_rfl) (by kernel_rfl) (qoD os _)) ?_
 intro W base args ds gs before hval0 hW _ hWt hL _;have hval:∀(j:Nat) t v,Tryz.f3.params[j]?=some t->args[j]?=some v->Value.okWide prog W .any base t v:=hval0;have hwt:(DataW.weightsEach prog (Tryz.f3.params.toList++Rows.randomProbsSpec.plain.varTypes prog) (ds++gs)).all (·<=reachBytes)=true:=hWt;have hW':=hW;obtain⟨p,q,hA0,hV,rfl,hfz,hnd⟩:=hW;have hA:DataW.TrodAll enc prog W 0 (fun _=>true) true Tryz.f3.params.toList args.toList ds p:=hA0;rw[Tryz.params3]at hA hval hwt;obtain⟨v0,v1,d0,d1,p0,p1,rfl,rfl,rfl,h0,h1⟩:=trodAll_two hA;obtain⟨rfl,rfl⟩:=trodVars_none hV;have hv0:=hval 0 27 v0 rfl rfl;unfold Value.okWide at hv0;rw[underlying27]at hv0;obtain⟨cs0,rfl,_,_⟩:=hv0;have h0':=h0;obtain⟨fuel0,hf0⟩:=h0;have hw0:∀k∈d0.weights prog 27,k<=reachBytes:=fun k hk=>of_decide_eq_true (qA3.1 hwt k (DataW.weights_mem_each (j:=0) (t:=27) rfl rfl k hk))
 obtain⟨x0,hrel0,hg0⟩:=rdP hf0 hw0;have hv1:=hval 1 28 v1 rfl rfl;obtain⟨a1,len1,cap1,rfl⟩:=okWide_slice underlying28 hv1;have h1':=h1;obtain⟨fuel1,hf1⟩:=h1;obtain⟨x1,hrel1,hg1⟩:=quD hf1;simp only[qD,ql]at hrel1;obtain⟨w1,r1,e1,hrel1,er1⟩:=hrel1;obtain rfl:w1=.slice a1 len1 cap1:=(List.cons.inj e1).1.symm;have hpure:=qrw x0 x1 hg0 hg1;have hargs:ql (KMw W) [.agg (qA x0),.sl 1 (x1.map qh) .none] (#[Value.agg cs0,Value.slice a1 len1 cap1]:Array Value).toList:=by
  simp only[ql];have g0:qk (KMw W) (.agg (qA x0)) (Value.agg cs0):=by
   unfold qk;exact⟨cs0,rfl,hrel0⟩
  have g1:qk (KMw W) (.sl 1 (x1.map qh) .none) (Value.slice a1 len1 cap1):=by
   exact hrel1
  exact⟨_,_,rfl,g0,_,_,rfl,g1,rfl⟩
 refine(hpure.2 W (qhz W) #[Value.agg cs0,Value.slice a1 len1 cap1] (qkQ hL) (fun _ _ _ e=>e) hargs).mono ?_;rintro e W' ⟨v,ro',rfl,hb,_,_,_,hv⟩;have hv1:v=.bool true:=by simpa only[qk] using hv
 subst hv1;have hW2:=hW';simp only[qBC]at hW2;have hlt:=fun x hx=>hW2.lt x hx
 refine⟨_,rfl,[d0,d1],[],p0++p1,[],p0++p1,[],hW2,?_,?_,?_,hb.frame _,fun h=>by cases h⟩
 . exact trodAll_mk1 (shut_bool underlying4 true)
 . exact trodAll_mk2 (qmS h0' hb (fun x hx=>hlt x (qBJ _ hx)) (fun x hx=>by simpa using hlt x (qBJ _ hx))) (qmR h1' hb (fun x hx=>hlt x (qCl _ hx)) (fun x hx=>by simpa using hlt x (qCl _ hx)))
 rfl
def fn3:prog.funcNamed "testbench/testbenchlaw23.RandomProbs" = some 3:=by kernel_rfl
def qyL:Tryz.f3.isInstance prog Rows.randomProbsRow.origin Rows.randomProbsRow.targs:=of_decide_eq_true (by kernel_rfl)
def qxH:Tryz.f3.isWrapper prog Rows.randomProbsRow.wrapper Rows.randomProbsRow.mainSum:=by unfold Func.isWrapper;first|(rw[if_pos (by decide +kernel)];kernel_rfl)|(rw[if_neg (by decide +kernel)];exact⟨rfl,rfl⟩)
