/- A part of the proof. -/
import Derived.Test.YtkpkjbchlabaaaaGreatDoorEa20
import Derived.Test.YtkpkjbchlabaaaaGreatDoorEa10
import Derived.Test.YtkpkjbchlabaaaaGreatDoorEa08
set_option linter.unusedVariables false
set_option linter.unusedSimpArgs false
set_option maxHeartbeats 16000000
set_option maxRecDepth 100000
set_option linter.defProp false
section
namespace Go.Proofs.YtkpkjbchlabaaaaGreatDoor
open Go Go.Abs
abbrev Rg:=Int×Int
@[simp]def yH (r:Rg):List AV:=[.int .i64 r.1,.int .i64 r.2]
def QL (out:List Rg)(n:Int):List Rg:=match out.getLast? with
 | some r=>if r.2=n-1 then out.dropLast++[(r.1,n)] else out++[(n,n)]
 | none=>out++[(n,n)]
def qcD (l:List Int):List Rg:=l.foldl QL []
def jP (n:Int):Ex:=.mk 1 n [] []
def wR (s:Str):Ex:=.mk 2 0 s []
def Qj (s:Str)(l:List Rg):Ex:=.mk 23 0 [] (wR s::l.flatMap fun r=>[jP r.1,jP r.2])
def orE (a b:Ex):Ex:=.mk 20 0 [] [a,b]
def z9 {α:Type}(n:Nat):Nat->List α->List (List α)
 | 0,_=>[]
 | k+1,l=>if l=[] then [] else l.take n::z9 n k (l.drop n)
def Zp (s:Str)(out:Ex)(l:List (List Rg)):Ex:=l.foldl (fun o c=>orE o (Qj s c)) out
def kx (s:Str)(l:List Rg):Ex:=if l=[] then jP 0 else Zp s (Qj s (l.take 16)) (z9 16 l.length (l.drop 16))
def inW (n:Int)(w:Weight):Bool:=decide (w.lo<=n)&&decide (n<=w.hi)
def qac (l:List Weight)(n:Int):Bool:=match l.find? (inW n) with
 | some w=>decide (0<w.weight)
 | none=>false
def qb9 (v:Var)(l:List Weight):List Int:=((List.range (jr v)).map fun n:Nat=>(n:Int)).filter (qac l)
def JK (vs:List Var)(d:Dist):Ex:=match vs[d.var.toNat]? with
 | some v=>kx v.name (qcD (qb9 v d.weights))
 | none=>jP 0
def w6 (p:Problem):List Ex:=p.dists.map (JK p.vars)
def qcS (p:Problem):List Ex:=p.hard++w6 p
noncomputable def kW (vs:List Var)(rules:List Ex):List (Int×Ex)->List (Int×Ex)
 | []=>[]
 | x::r=>if jY vs (rules++[x.2]) then x::kW vs (rules++[x.2]) r else kW vs rules r
def JB (l:List Ex):List (Int×Ex):=(l.zipIdx.map fun q=>((q.2:Int),q.1)).reverse
noncomputable def ZI (p:Problem):List (Int×Ex):=(kW p.vars (qcS p) (JB p.soft)).reverse
noncomputable def qhr (p:Problem):List Ex:=qcS p++(ZI p).map (·.2)
theorem Vk {n:Int}(h0:0<=n)(h1:n<=65535):qq (jP n)=0:=by
 simp[qq,jP,qi,zu,Ex.op,Ex.n,Ex.name,Ex.args];omega
theorem qgP {s:Str}(h:y8 s=true):qq (wR s)=0:=by
 simp[qq,wR,qi,zu,Ex.op,Ex.n,Ex.name,Ex.args,h]
theorem Q4 (n:Int):pre (jP n)=[jP n]:=by simp[jw,jP]
theorem qd2 (s:Str):pre (wR s)=[wR s]:=by simp[jw,wR]
theorem qaV:∀ (l:List Rg),kE (l.flatMap fun r=>[jP r.1,jP r.2])=l.flatMap fun r=>[jP r.1,jP r.2]
 | []=>rfl
 | r::l=>by rw[qqP,wD,qaV l];simp[Q4]
theorem qd3 (s:Str)(l:List Rg):pre (Qj s l)=Qj s l::wR s::l.flatMap fun r=>[jP r.1,jP r.2]:=by
 rw[jw];show Qj s l::kE (wR s::_)=_;rw[yi,qd2,qaV];rfl
theorem Vj:∀ (l:List Rg),(l.flatMap fun r=>[jP r.1,jP r.2]).length=2*l.length
 | []=>rfl
 | r::l=>by rw[qqP,qqu,Vj l];simp;omega
def qjX (r:Rg):Prop:=(0<=r.1/\r.1<=65535)/\0<=r.2/\r.2<=65535
structure EOk (s:Str)(h m:Nat)(e:Ex):Prop where
 nodes:∀ x∈pre e,qq x=0/\x.op≠3/\x.op≠24/\(x.op=2->x.name=s)
 hgt:hgt e<=h
 size:(pre e).length<=m
theorem EOk.ins {s:Str}(hs:y8 s=true){l:List Rg}(hl:l≠[])(hn:l.length<=16)(hr:∀ r∈l,qjX r):EOk s 2 34 (Qj s l):=by
 have hlen:=Vj l;have hpos:0<l.length:=qqI.2 hl;refine⟨fun x hx=>?_,?_,?_⟩
 . rw[qd3]at hx;rcases qqQ.1 hx with rfl|hx
   . refine⟨?_,by simp[Qj,Ex.op],by simp[Qj,Ex.op],by simp[Qj,Ex.op]⟩;unfold qq qi;simp only[Qj,Ex.op_mk,Ex.n_mk,Ex.name_mk,Ex.args_mk,qqH,hlen];have h1:(2*l.length+1) % 2=1:=(by omega);have h2:3<=2*l.length+1:=(by omega);have h3:2*l.length+1<=33:=(by omega);simp[h1,h2,h3]
   . rcases qqQ.1 hx with rfl|hx
     . exact⟨qgP hs,by simp[wR,Ex.op],by simp[wR,Ex.op],fun _=>rfl⟩
     . obtain⟨r,hr1,hx⟩:=List.mem_flatMap.1 hx;have:=hr r hr1;simp only[qqQ,qrP,or_false]at hx;rcases hx with rfl|rfl
       . exact⟨Vk this.1.1 this.1.2,by simp[jP,Ex.op],by simp[jP,Ex.op],by simp[jP,Ex.op]⟩
       . exact⟨Vk this.2.1 this.2.2,by simp[jP,Ex.op],by simp[jP,Ex.op],by simp[jP,Ex.op]⟩
 . rw[kJ];have:Zw (Qj s l).args<=1:=by
    show Zw (wR s::_)<=1;rw[Ze];have h1:Go.Proofs.YtkpkjbchlabaaaaGreatDoor.hgt (wR s)=1:=(by simp[kJ,wR]);have h2:Zw (l.flatMap fun r=>[jP r.1,jP r.2])<=1:=by
     clear hlen hpos hl hn hr h1
     induction l with
     | nil=>simp
     | cons r l ih=>
      rw[qqP];simp only[qqK,qqL,Ze];have:∀ n,Go.Proofs.YtkpkjbchlabaaaaGreatDoor.hgt (jP n)=1:=fun n=>by simp[kJ,jP]
      rw[this,this];omega
    omega
   omega
 . rw[qd3,qqH,qqH,hlen];omega
theorem EOk.or {s:Str}{h h' m m':Nat}{a b:Ex}(ha:EOk s h m a)(hb:EOk s h' m' b):EOk s (max h h'+1) (m+m'+1) (orE a b):=by
 have hp:pre (orE a b)=orE a b::(pre a++pre b):=by rw[jw];simp[orE]
 refine⟨fun x hx=>?_,?_,?_⟩
 . rw[hp]at hx;rcases qqQ.1 hx with rfl|hx
   . refine⟨?_,by simp[orE,Ex.op],by simp[orE,Ex.op],by simp[orE,Ex.op]⟩;simp[qq,orE,qi,zu,Ex.op,Ex.n,Ex.name,Ex.args]
   . rcases qqJ.1 hx with hx|hx
     . exact ha.nodes x hx
     . exact hb.nodes x hx
 . rw[kJ];have:=ha.hgt;have:=hb.hgt;simp only[orE,Ex.args_mk,Ze,qlG];omega
 . rw[hp,qqH,qqu];have:=ha.size;have:=hb.size;omega
theorem EOk.chain {s:Str}(hs:y8 s=true):∀ (l:List (List Rg)) {h m:Nat} {out:Ex},EOk s (h+2) m out->(∀ c∈l,c≠[]/\c.length<=16/\∀ r∈c,qjX r)->EOk s (h+2+l.length) (m+35*l.length) (Zp s out l)
 | [],h,m,out,ho,_=>ho
 | c::l,h,m,out,ho,hc=>by
  have h1:=hc c (by simp);have h2:=ho.or (EOk.ins hs h1.1 h1.2.1 h1.2.2);have h3:=EOk.chain hs l (h:=h+1) (m:=m+34+1) (out:=orE out (Qj s c)) (by
   have e:max (h+2) 2+1=h+1+2:=(by omega);rw[e]at h2;exact h2) (fun c hm=>hc c (by simp[hm]))
  have e1:h+2+(c::l).length=h+1+2+l.length:=by simp;omega
  have e2:m+35*(c::l).length=m+34+1+35*l.length:=by simp;omega
  rw[e1,e2];exact h3
theorem YB {α:Type}{n:Nat}(hn:0<n):∀ (k:Nat) (l:List α),∀ c∈z9 n k l,c≠[]/\c.length<=n/\∀ x∈c,x∈l
 | 0,_,c,h=>by cases h
 | k+1,l,c,h=>by
  unfold z9 at h;split at h
  . cases h
  . rename_i hl;rcases qqQ.1 h with rfl|h
    . have:=qqI.2 hl;refine⟨qqI.1 (by rw[qq3];omega),by rw[qq3];omega,fun x hx=>qru hx⟩
    . obtain⟨h1,h2,h3⟩:=YB hn k _ c h;exact⟨h1,h2,fun x hx=>qrX (h3 x hx)⟩
theorem YC {α:Type}{n:Nat}(hn:0<n):∀ (k:Nat) (l:List α) (m:Nat),l.length<=m*n->(z9 n k l).length<=m
 | 0,_,m,_=>by simp[z9]
 | k+1,l,m,h=>by
  unfold z9;split
  . simp
  . rename_i hl;have:=qqI.2 hl
    cases m with
    | zero=>omega
    | succ m=>
     have:=YC hn k (l.drop n) m (by rw[qss];rw[qsE]at h;omega);simp;omega
theorem EOk.valid {s:Str}{e:Ex}{h m:Nat}(ho:EOk s h m e)(hh:h<=24)(hm:m<=400){vs:List Var}(hv:vF vs s=true):zo vs e=0:=by
 have h1:qN qq (pre e)=0:=zx.2 fun x hx=>(ho.nodes x hx).1
 have h2:zl e=0:=by
  unfold zl;have h3:=ho.hgt;have h4:=ho.size;have h5:KF e=(pre e).length:=by unfold KF;rw[wr (by omega) (by omega)]
  rw[if_neg,h1];rintro⟨_,h|h⟩
  . omega
  . rw[h5]at h;omega
 have h3:Js e=false:=by
  unfold Js;rw[qrT];intro x hx;have:=ho.nodes x hx;simp[this.2.1,this.2.2.1]
 have h4:QB vs e=false:=by
  unfold QB;rw[qrT];intro x hx;have:=(ho.nodes x hx).2.2.2;by_cases h:x.op=2
  . simp[h,this h,hv]
  . simp[h]
 unfold zo;simp[h2,h3,h4]
theorem Wv {n:Int}(h0:0<=n)(h1:n<=65535)(vs:List Var):zo vs (jP n)=0:=by
 have hp:=Q4 n;have h2:zl (jP n)=0:=by
  unfold zl KF;rw[hp];have:hgt (jP n)=1:=by simp[kJ,jP]
  rw[this];simp[qN,Vk h0 h1];decide
 have h3:Js (jP n)=false:=by unfold Js;rw[hp];simp[jP,Ex.op]
 have h4:QB vs (jP n)=false:=by unfold QB;rw[hp];simp[jP,Ex.op]
 unfold zo;simp[h2,h3,h4]
theorem qaw {s:Str}(hs:y8 s=true){l:List Rg}(hl:l.length<=128)(hr:∀ r∈l,qjX r){vs:List Var}(hv:vF vs s=true):zo vs (kx s l)=0:=by
 unfold kx;split
 . exact Wv (by omega) (by omega) vs
 . rename_i h0;have hpos:=qqI.2 h0;have h1:=EOk.ins hs (l:=l.take 16) (qqI.1 (by rw[qq3];omega)) (by rw[qq3];omega) (fun r h=>hr r (qru h));have h2:=EOk.chain hs (z9 16 l.length (l.drop 16)) (h:=0) h1 (fun c hc=>by
    obtain⟨a,b,c'⟩:=YB (by omega) _ _ c hc;exact⟨a,b,fun r h=>hr r (qrX (c' r h))⟩)
   have h3:=YC (n:=16) (by omega) l.length (l.drop 16) 7 (by rw[qss];omega);exact h2.valid (by omega) (by omega) hv
theorem qmE {out:List Rg}{n:Int}(hn:0<=n/\n<=65535)(h1:∀ r∈out,qjX r)(h2:∀ r,out.getLast?=some r->r.2<n/\2*(out.length:Int)<=r.2+2) :
 (∀ r∈QL out n,qjX r)/\∃ r,(QL out n).getLast?=some r/\r.2=n/\2*((QL out n).length:Int)<=n+2:=by
 have new:(∀ r,out.getLast?=some r->¬ r.2=n-1)->(∀ r∈out++[(n,n)],qjX r)/\∃ r,(out++[(n,n)]).getLast?=some r/\r.2=n/\2*((out++[(n,n)]).length:Int)<=n+2:=by
  intro hne;refine⟨fun r hr=>?_,(n,n),by simp,rfl,?_⟩
  . rcases qqJ.1 hr with hr|hr
    . exact h1 r hr
    . simp only[qqQ,qrP,or_false]at hr;subst hr;exact⟨hn,hn⟩
  . rw[qqu]
    cases h:out.getLast? with
    | none=>
     rw[qs2]at h;subst h;simp;omega
    | some r=>
     have:=h2 r h;have:=hne r h;simp only[qqH,qrn];omega
 unfold QL
 cases h:out.getLast? with
 | none=>exact new fun r hr=>by rw[h]at hr;cases hr
 | some r=>
  simp only;have h3:=h2 r h;split
  . rename_i he;obtain⟨l,rfl⟩:=qs3.1 h;rw[List.dropLast_concat];refine⟨fun x hx=>?_,(r.1,n),by simp,rfl,?_⟩
    . rcases qqJ.1 hx with hx|hx
      . exact h1 x (by simp[hx])
      . simp only[qqQ,qrP,or_false]at hx;subst hx;exact⟨(h1 r (by simp)).1,hn⟩
    . simp only[qqu,qqH,qrn]at h3 ⊢;omega
  . rename_i he;exact new fun x hx=>by rw[h]at hx;cases hx;exact he
theorem qbA:∀ {l:List Int} {out:List Rg} {N:Int},l.Pairwise (· < ·)->(∀ x∈l,0<=x/\x<=65535/\x<N)->(∀ r∈out,qjX r)->(∀ r,out.getLast?=some r->r.2<N/\2*(out.length:Int)<=r.2+2/\∀ x∈l,r.2<x) ->
 (∀ r∈l.foldl QL out,qjX r)/\∀ r,(l.foldl QL out).getLast?=some r->r.2<N/\2*((l.foldl QL out).length:Int)<=r.2+2
 | [],out,N,_,_,h1,h2=>⟨h1,fun r hr=>⟨(h2 r hr).1,(h2 r hr).2.1⟩⟩
 | x::l,out,N,hp,hx,h1,h2=>by
  rw[qq5];obtain⟨hp1,hp2⟩:=List.pairwise_cons.1 hp;have hx0:=hx x (by simp);obtain⟨a1,r,a2,a3,a4⟩:=qmE (n:=x) ⟨hx0.1,hx0.2.1⟩ h1 (fun r hr=>⟨(h2 r hr).2.2 x (by simp),(h2 r hr).2.1⟩);refine qbA hp2 (fun y hy=>hx y (by simp[hy])) a1 fun r' hr'=>?_
  rw[a2]at hr';cases hr';exact⟨by omega,by omega,fun y hy=>by rw[a3];exact hp1 y hy⟩
theorem qcC {l:List Int}{N:Int}(hp:l.Pairwise (· < ·))(hx:∀ x∈l,0<=x/\x<=65535/\x<N)(hN:0<=N):(∀ r∈qcD l,qjX r)/\2*((qcD l).length:Int)<=N+1:=by
 have:=qbA (out:=[]) hp hx (fun r h=>by cases h) (fun r h=>by cases h);refine⟨this.1,?_⟩
 cases h:(qcD l).getLast? with
 | none=>rw[qs2]at h;rw[h];simp;omega
 | some r=>have:=this.2 r h;show 2*((l.foldl QL []).length:Int)<=_;omega
theorem qct (v:Var)(l:List Weight):(qb9 v l).Pairwise (· < ·)/\∀ x∈qb9 v l,0<=x/\x<(jr v:Nat):=by
 unfold qb9;refine⟨List.Pairwise.filter _ ?_,fun x hx=>?_⟩
 . rw[qth];exact List.pairwise_lt_range.imp fun h=>by omega
 . obtain⟨hx,_⟩:=qsM.1 hx;obtain⟨n,hn,rfl⟩:=qqT.1 hx;have:=qrr.1 hn;omega
theorem W9 {v:Var}(h:v.width<=8):jr v<=256:=by
 unfold jr;have:v.width.toNat<=8:=by omega
 calc 2 ^ v.width.toNat<=2 ^ 8:=qqY (by omega) this
  _=256:=rfl
theorem qfo {vs:List Var}(hv:∀ v∈vs,jO v=0)(d:Dist):zo vs (JK vs d)=0:=by
 unfold JK;split
 . rename_i v h;have hm:=qqq h;have h1:=za (hv v hm);have h2:=qct v d.weights;have h3:=W9 h1.2.2;have h4:=qcC (N:=(jr v:Nat)) h2.1 (fun x hx=>by have:=h2.2 x hx;omega) (by omega);exact qaw h1.1 (by omega) h4.1 (by unfold vF;rw[qqR];exact⟨v,hm,by simp⟩)
 . exact Wv (by omega) (by omega) vs
theorem qeI:∀ (l:List Ex) (i:Nat) (a:Ex),l[i]?=some a->((l.flatMap qr).drop (i*4)).take 4=qr a/\i*4+4<=(l.flatMap qr).length
 | [],i,a,h=>by simp at h
 | x::r,0,a,h=>by
  simp at h;subst h;rw[qqP,qr1,qrE,qrt (by rw[zc];omega),qqx (by rw[zc];omega),qqu,zc];exact⟨rfl,by omega⟩
 | x::r,i+1,a,h=>by
  have ih:=qeI r i a (by simpa using h);rw[qqP,qr8,zc,qq2 (by rw[zc];omega),qqL,show (i+1)*4-4=i*4 by omega,qqu,zc];exact⟨ih.1,by omega⟩
theorem qiA:∀ (l:List Ex) (i:Nat) (a:Ex),l[i]?=some a->zp (l.flatMap qr) (i*4) (qr a)=l.flatMap qr:=fun l i a h=>by
 have hi:=(qqp.1 h).1;rw[vQ (sz:=4) zc l i a hi];have:l.set i a=l:=by
  obtain⟨_,rfl⟩:=qqp.1 h;exact List.set_getElem_self hi
 rw[this]
theorem qd4 {e a:Ex}(h:a∈e.args):(pre a).length<=(pre e).length:=by
 rw[jw e,qqH];have:∀ l:List Ex,a∈l->(pre a).length<=(kE l).length:=by
  intro l
  induction l with
  | nil=>intro h;cases h
  | cons x r ih=>
   intro h;rw[yi,qqu];rcases qqQ.1 h with rfl|h
   . omega
   . have:=ih h;omega
 have:=this _ h;omega
theorem qeX (e:Ex):e.args.length<=(pre e).length:=by
 rw[jw e,qqH];have:∀ l:List Ex,l.length<=(kE l).length:=by
  intro l
  induction l with
  | nil=>simp
  | cons x r ih=>rw[yi,qqu,jw x];simp;omega
 have:=this e.args;omega
theorem qiZ:∀ e,(pre e).length<=100000->Pure Tryz.prog GG 63 [.agg (qr e)] (.agg (qr e)):=by
 refine Ex.ind fun e ih hs=>?_
 have hal:=qeX e;refine Pure.kO o0 true qe Tryz.func63 rfl (by kernel_rfl) ?_;have hE:=qd e;by_cases h0:e.args=[]
 . rw[h0]at hE;rw[hE];simp[-getElem?_pos,qB,yJ,qae];refine qV.gen (fun n ev U=>ev 1=.ptr 0 0/\ev 2=.ptr 1 0/\ev 3=.sl 4 [] (.chain 0 0)/\ev 14=.int .i64 0/\ev 15=.int .i64 0/\∃ T,U=⟨[.cells [.int .i64 e.op,.int .i64 e.n,.str e.name,.sl 4 [] .none],.cells [.int .i64 0,.int .i64 0,.str [],.sl 0 [] .nil]],T⟩) 0 ?_ ?_
   . exact⟨by simp,by simp,by simp,by simp,by simp,_,rfl⟩
   . rintro n ev U R hR ⟨e1,e2,e3,e14,e15,T,rfl⟩;simp[-getElem?_pos,e1,e2,e3,e14,e15];have hfc:∀ H,frz H 7 (.sl 4 [] (.chain 0 0))=.sl 4 [] .none:=fun H=>by rw[frz];simp[zb]
     rw[frz];simp[zb,qy,ZQ,qir,hfc,Leq,zA]
 . have hpos:=qqI.2 h0;have hne:¬ (e.args.length:Int)=0:=(by omega);have hb:e.args.length<=549755813888:=(by omega);have hbI:(e.args.length:Int)<=549755813888:=(by omega);have hfl:(e.args.map qr).flatten=e.args.flatMap qr:=(by rw[qse]);have hlenf:(e.args.flatMap qr).length=e.args.length*4:=ji (sz:=4) zc e.args;have hz:((List.replicate e.args.length [AV.int .i64 0,.int .i64 0,.str [],.sl 0 [] .nil]).flatten).length=e.args.length*4:=(by simp);have hput:=putAt_all ((List.replicate e.args.length [AV.int .i64 0,.int .i64 0,.str [],.sl 0 [] .nil]).flatten) (e.args.flatMap qr) (by rw[hz,hlenf]);have htk:(e.args.map qr).take e.args.length=e.args.map qr:=qqx (by simp);have hcp:∀ B0 B1:Blk,yJ (Dof Tryz.prog) ⟨[B0,B1,.cells (List.replicate e.args.length [AV.int .i64 0,.int .i64 0,.str [],.sl 0 [] .nil]).flatten],[]⟩ 23 (.ms 2 0 e.args.length 4) (.sl 4 (e.args.map qr) .none)=some (.int .i64 e.args.length,⟨[B0,B1,.cells (e.args.flatMap qr)],[]⟩):=fun B0 B1=>by
    have hz':=hz;generalize (List.replicate e.args.length [AV.int .i64 0,.int .i64 0,.str [],.sl 0 [] .nil]).flatten=Z at *;simp[yJ,qae,qm0,hfl,hput,hz',htk,h0]
   have hat:=qeI e.args;have hpt:=qiA e.args;have hfr:wO 4 e.args.length (e.args.flatMap qr)=e.args.map qr:=(by have:=v7 (sz:=4) zc e.args [];rwa[qq6]at this);rw[hE];generalize hZ:(List.replicate e.args.length [AV.int .i64 0,.int .i64 0,.str [],.sl 0 [] .nil]).flatten=Z at *;generalize hFE:e.args.flatMap qr=FE at *;simp[-getElem?_pos,qB,hne,h0,hbI,hZ,hcp];have hn0:e.args.length<=100000:=(by omega);have hatoms:∀ a:Ex,qO (.agg (qr a))=some (qr a):=yA;refine qV.listR e.args (fun d ev U=>ev 1=.ptr 0 0/\ev 2=.ptr 1 0/\ev 3=.ms 2 0 e.args.length 4/\ev 14=.int .i64 e.args.length/\ev 15=.int .i64 d.length/\U=⟨[.cells [.int .i64 e.op,.int .i64 e.n,.str e.name,.sl 4 (e.args.map qr) .none],.cells [.int .i64 0,.int .i64 0,.str [],.sl 0 [] .nil],.cells FE],[]⟩) ?_ ?_ ?_
   . exact⟨by simp,by simp,by simp,by simp,by simp,by simp⟩
   . rintro d a rest ev U R hR hd hx hlt ⟨e1,e2,e3,e14,e15,rfl⟩;have hm:=qqq hx;have hia:=ih a hm (by have:=qd4 hm;omega);have hw:=wr (n:=(d.length:Int)+1) (by omega) (by omega);obtain⟨ht,hle⟩:=hat d.length a hx;have hp:=hpt d.length a hx;have ha2:=hatoms a;have hl4:=zc a;have hnr:=nrE a;generalize qr a=W at *;simp[-getElem?_pos,-qO,e1,e2,e3,e14,e15,hlt,ht,hle];refine qc.call hia (by simp[qy,hnr]) ?_;simp[-getElem?_pos,-qO,ha2,hl4,hp,hle,e1,e2,e3,e14,e15,hlt,hw];exact hR _ _ ⟨by simp[e1],by simp[e2],by simp[e3],by simp[e14],by simp,rfl⟩
   . rintro ev U ⟨e1,e2,e3,e14,e15,rfl⟩;simp[-getElem?_pos,e1,e2,e3,e14,e15];have ho:jx 2 4 qr [Blk.cells [AV.int .i64 e.op,.int .i64 e.n,.str e.name,.ms 2 0 e.args.length 4],.cells [.int .i64 e.op,.int .i64 e.n,.str e.name,.ms 2 0 e.args.length 4],.cells FE] (.ms 2 0 e.args.length 4) e.args:=.inr ⟨h0,rfl,by rw[hFE];rfl⟩;have f1:=ho.frz zc (fun x=>nrE x) yz 6;have f2:=ho.frzNo zc (fun x=>nrE x) yz 6;rw[frz];rw[if_neg (by simp[zb,qy])];simp only[qqC,qq8,ZQ,qir,zb,qy,Leq,zA,qsK,qrp,and_true,true_and];exact⟨f2,f1⟩
def inR (v:Int)(r:Rg):Bool:=decide (r.1<=v)&&decide (v<=r.2)
theorem qnH (b:Bool):(b2i b≠0)↔b=true:=by cases b<;>simp[b2i]
theorem qgV (env:List Signal)(n:Int):yD env (jP n)=n:=by rw[yF];simp[jP,QA]
theorem qkc (env:List Signal)(s:Str):yD env (wR s)=(jI env s).getD 0:=by rw[yF];simp[wR,QA]
theorem val_or (env:List Signal)(a b:Ex):(yD env (orE a b)≠0)↔(yD env a≠0\/yD env b≠0):=by
 rw[yF];have:QA env (orE a b).op (orE a b).n (orE a b).name ((orE a b).args.map (yD env))=b2i (!decide (yD env a=0)||!decide (yD env b=0)):=by
  simp[orE,QA,opW,yL]
 rw[this,qnH];simp
theorem YY (v:Int):∀ (l:List Rg),jM v (l.flatMap fun r=>[r.1,r.2])=l.any (inR v)
 | []=>rfl
 | r::l=>by rw[qqP];simp only[qqK,qqL,jM,qsp,YY v l,inR]
theorem qdF (env:List Signal):∀ (l:List Rg),(l.flatMap fun r=>[jP r.1,jP r.2]).map (yD env)=l.flatMap fun r=>[r.1,r.2]
 | []=>rfl
 | r::l=>by rw[qqP,qrj,qdF env l,qqP];simp[qgV]
theorem qgW (env:List Signal)(s:Str)(l:List Rg):(yD env (Qj s l)≠0)↔∃ r∈l,inR ((jI env s).getD 0) r=true:=by
 rw[yF];have:QA env (Qj s l).op (Qj s l).n (Qj s l).name ((Qj s l).args.map (yD env))=b2i (l.any (inR ((jI env s).getD 0))):=by
  rw[<- YY,<- qdF env l];simp[Qj,QA,opW,qkc]
 rw[this,qnH,qqR]
theorem qau (env:List Signal)(s:Str):∀ (l:List (List Rg)) (out:Ex),(yD env (Zp s out l)≠0)↔(yD env out≠0\/∃ c∈l,∃ r∈c,inR ((jI env s).getD 0) r=true)
 | [],out=>by simp[Zp]
 | c::l,out=>by
  show (yD env (Zp s (orE out (Qj s c)) l)≠0)↔_;rw[qau env s l,val_or,qgW];simp only[qqQ,exists_eq_or_imp,or_assoc]
theorem Wp {α:Type}{n:Nat}(hn:0<n):∀ (k:Nat) (l:List α),l.length<=k->(z9 n k l).flatten=l
 | 0,l,h=>by
  have:l=[]:=qqG (by omega);subst this;rfl
 | k+1,l,h=>by
  unfold z9;split
  . rename_i h0;rw[h0];rfl
  . rename_i h0;have:=qqI.2 h0;rw[qq9,Wp hn k _ (by rw[qss];omega),qq4]
theorem qgU (env:List Signal)(s:Str)(l:List Rg):(yD env (kx s l)≠0)↔∃ r∈l,inR ((jI env s).getD 0) r=true:=by
 unfold kx;split
 . rename_i h;subst h;simp[qgV]
 . rw[qau,qgW];have h1:=Wp (n:=16) (by omega) l.length (l.drop 16) (by rw[qss];omega);constructor
   . rintro (⟨r,hr,h⟩|⟨c,hc,r,hr,h⟩)
     . exact⟨r,qru hr,h⟩
     . refine⟨r,qrX (i:=16) ?_,h⟩;rw[<- h1];exact qrd.2 ⟨c,hc,hr⟩
   . rintro⟨r,hr,h⟩;rw[<- qq4 16 l]at hr;rcases qqJ.1 hr with hr|hr
     . exact .inl ⟨r,hr,h⟩
     . rw[<- h1]at hr;obtain⟨c,hc,hr⟩:=qrd.1 hr;exact .inr ⟨c,hc,r,hr,h⟩
theorem qkw (v:Int):∀ (l:List Int),(∃ r∈qcD l,inR v r=true)↔v∈l:=by
 have key:∀ (l:List Int) (out:List Rg),(∀ r∈out,r.1<=r.2)->((∃ r∈l.foldl QL out,inR v r=true)↔((∃ r∈out,inR v r=true)\/v∈l)):=by
  intro l
  induction l with
  | nil=>intro out _;simp
  | cons n l ih=>
   intro out ho;rw[qq5];have hs:(∀ r∈QL out n,r.1<=r.2)/\((∃ r∈QL out n,inR v r=true)↔((∃ r∈out,inR v r=true)\/v=n)):=by
    unfold QL;split
    . rename_i r hr;obtain⟨pre,hp⟩:=qs3.1 hr;subst hp;have hr2:=ho r (by simp);split
      . rename_i hn;rw[List.dropLast_concat];refine⟨fun q hq=>?_,?_⟩
        . rcases qqJ.1 hq with hq|hq
          . exact ho q (by simp[hq])
          . have:=qqX.1 hq;subst this;dsimp only;omega
        . simp only[qqJ,qqX,inR,qqt,decide_eq_true_eq];constructor
          . rintro⟨q,hq|rfl,h⟩
            . exact .inl ⟨q,.inl hq,h⟩
            . dsimp only at h;by_cases hv:v=n
              . exact .inr hv
              . exact .inl ⟨r,.inr rfl,by omega⟩
          . rintro (⟨q,hq|rfl,h⟩|rfl)
            . exact⟨q,.inl hq,h⟩
            . exact⟨_,.inr rfl,by dsimp only;omega⟩
            . exact⟨_,.inr rfl,by dsimp only;omega⟩
      . refine⟨fun q hq=>?_,?_⟩
        . rcases qqJ.1 hq with hq|hq
          . exact ho q hq
          . have:=qqX.1 hq;subst this;exact qsW _
        . simp only[qqJ,qqX,inR,qqt,decide_eq_true_eq];constructor
          . rintro⟨q,hq|rfl,h⟩
            . exact .inl ⟨q,hq,h⟩
            . exact .inr (by dsimp only at h;omega)
          . rintro (⟨q,hq,h⟩|rfl)
            . exact⟨q,.inl hq,h⟩
            . exact⟨_,.inr rfl,by dsimp only;omega⟩
    . refine⟨fun q hq=>?_,?_⟩
      . rcases qqJ.1 hq with hq|hq
        . exact ho q hq
        . have:=qqX.1 hq;subst this;exact qsW _
      . simp only[qqJ,qqX,inR,qqt,decide_eq_true_eq];constructor
        . rintro⟨q,hq|rfl,h⟩
          . exact .inl ⟨q,hq,h⟩
          . exact .inr (by dsimp only at h;omega)
        . rintro (⟨q,hq,h⟩|rfl)
          . exact⟨q,.inl hq,h⟩
          . exact⟨_,.inr rfl,by dsimp only;omega⟩
   rw[ih _ hs.1,hs.2];simp only[qqQ,or_assoc]
 intro l;have:=key l [] (by simp);simpa[qcD] using this
theorem qfi (env:List Signal)(s:Str)(l:List Int):(yD env (kx s (qcD l))≠0)↔(jI env s).getD 0∈l:=by
 rw[qgU,qkw]
end Go.Proofs.YtkpkjbchlabaaaaGreatDoor
end
