/- A part of the proof. -/
import Derived.Test.YtkpkjbchlabaaaaGreatDoorDa20
import Derived.Test.YtkpkjbchlabaaaaGreatDoorDa10
import Derived.Test.YtkpkjbchlabaaaaGreatDoorDa08
set_option linter.unusedVariables false
set_option linter.unusedSimpArgs false
set_option maxHeartbeats 16000000
set_option maxRecDepth 100000
set_option linter.defProp false
section
namespace Go.Proofs.YtkpkjbchlabaaaaGreatDoor
open Go Go.Abs
abbrev Rg:=Int×Int
@[simp]def yr (r:Rg):List AV:=[.int .i64 r.1,.int .i64 r.2]
def ZX (out:List Rg)(n:Int):List Rg:=match out.getLast? with
 | some r=>if r.2=n-1 then out.dropLast++[(r.1,n)] else out++[(n,n)]
 | none=>out++[(n,n)]
def qgb (l:List Int):List Rg:=l.foldl ZX []
def jL (n:Int):Ex:=.mk 1 n [] []
def wL (s:Str):Ex:=.mk 2 0 s []
def Ja (s:Str)(l:List Rg):Ex:=.mk 23 0 [] (wL s::l.flatMap fun r=>[jL r.1,jL r.2])
def orE (a b:Ex):Ex:=.mk 20 0 [] [a,b]
def z8 {α:Type}(n:Nat):Nat->List α->List (List α)
 | 0,_=>[]
 | k+1,l=>if l=[] then [] else l.take n::z8 n k (l.drop n)
def KU (s:Str)(out:Ex)(l:List (List Rg)):Ex:=l.foldl (fun o c=>orE o (Ja s c)) out
def vS (s:Str)(l:List Rg):Ex:=if l=[] then jL 0 else KU s (Ja s (l.take 16)) (z8 16 l.length (l.drop 16))
def inW (n:Int)(w:Weight):Bool:=decide (w.lo<=n)&&decide (n<=w.hi)
def qc0 (l:List Weight)(n:Int):Bool:=match l.find? (inW n) with
 | some w=>decide (0<w.weight)
 | none=>false
def qbt (v:Var)(l:List Weight):List Int:=((List.range (jz v)).map fun n:Nat=>(n:Int)).filter (qc0 l)
def YW (vs:List Var)(d:Dist):Ex:=match vs[d.var.toNat]? with
 | some v=>vS v.name (qgb (qbt v d.weights))
 | none=>jL 0
def vN (p:Problem):List Ex:=p.dists.map (YW p.vars)
def Y3 (p:Problem):List Ex:=p.hard++vN p
noncomputable def wu (vs:List Var)(rules:List Ex):List (Int×Ex)->List (Int×Ex)
 | []=>[]
 | x::r=>if yd vs (rules++[x.2]) then x::wu vs (rules++[x.2]) r else wu vs rules r
def Z8 (l:List Ex):List (Int×Ex):=(l.zipIdx.map fun q=>((q.2:Int),q.1)).reverse
noncomputable def QH (p:Problem):List (Int×Ex):=(wu p.vars (Y3 p) (Z8 p.soft)).reverse
noncomputable def ZI (p:Problem):List Ex:=Y3 p++(QH p).map (·.2)
theorem Ww {n:Int}(h0:0<=n)(h1:n<=65535):qo (jL n)=0:=by
 simp[qo,jL,qi,zo,Ex.op,Ex.n,Ex.name,Ex.args];omega
theorem qfG {s:Str}(h:yL s=true):qo (wL s)=0:=by
 simp[qo,wL,qi,zo,Ex.op,Ex.n,Ex.name,Ex.args,h]
theorem Qz (n:Int):pre (jL n)=[jL n]:=by simp[jn,jL]
theorem qcX (s:Str):pre (wL s)=[wL s]:=by simp[jn,wL]
theorem VV:∀ (l:List Rg),kh (l.flatMap fun r=>[jL r.1,jL r.2])=l.flatMap fun r=>[jL r.1,jL r.2]
 | []=>rfl
 | r::l=>by rw[qpf,wh,VV l];simp[Qz]
theorem qcY (s:Str)(l:List Rg):pre (Ja s l)=Ja s l::wL s::l.flatMap fun r=>[jL r.1,jL r.2]:=by
 rw[jn];show Ja s l::kh (wL s::_)=_;rw[jZ,qcX,VV];rfl
theorem Wv:∀ (l:List Rg),(l.flatMap fun r=>[jL r.1,jL r.2]).length=2*l.length
 | []=>rfl
 | r::l=>by rw[qpf,qoV,Wv l];simp;omega
def qiB (r:Rg):Prop:=(0<=r.1/\r.1<=65535)/\0<=r.2/\r.2<=65535
structure EOk (s:Str)(h m:Nat)(e:Ex):Prop where
 nodes:∀ x∈pre e,qo x=0/\x.op≠3/\x.op≠24/\(x.op=2->x.name=s)
 hgt:hgt e<=h
 size:(pre e).length<=m
theorem EOk.ins {s:Str}(hs:yL s=true){l:List Rg}(hl:l≠[])(hn:l.length<=16)(hr:∀ r∈l,qiB r):EOk s 2 34 (Ja s l):=by
 have hlen:=Wv l;have hpos:0<l.length:=qo6.2 hl;refine⟨fun x hx=>?_,?_,?_⟩
 . rw[qcY]at hx;rcases qpj.1 hx with rfl|hx
   . refine⟨?_,by simp[Ja,Ex.op],by simp[Ja,Ex.op],by simp[Ja,Ex.op]⟩;unfold qo qi;simp only[Ja,Ex.op_mk,Ex.n_mk,Ex.name_mk,Ex.args_mk,qo7,hlen];have h1:(2*l.length+1) % 2=1:=(by omega);have h2:3<=2*l.length+1:=(by omega);have h3:2*l.length+1<=33:=(by omega);simp[h1,h2,h3]
   . rcases qpj.1 hx with rfl|hx
     . exact⟨qfG hs,by simp[wL,Ex.op],by simp[wL,Ex.op],fun _=>rfl⟩
     . obtain⟨r,hr1,hx⟩:=List.mem_flatMap.1 hx;have:=hr r hr1;simp only[qpj,qqb,or_false]at hx;rcases hx with rfl|rfl
       . exact⟨Ww this.1.1 this.1.2,by simp[jL,Ex.op],by simp[jL,Ex.op],by simp[jL,Ex.op]⟩
       . exact⟨Ww this.2.1 this.2.2,by simp[jL,Ex.op],by simp[jL,Ex.op],by simp[jL,Ex.op]⟩
 . rw[kl];have:Q2 (Ja s l).args<=1:=by
    show Q2 (wL s::_)<=1;rw[QK];have h1:Go.Proofs.YtkpkjbchlabaaaaGreatDoor.hgt (wL s)=1:=(by simp[kl,wL]);have h2:Q2 (l.flatMap fun r=>[jL r.1,jL r.2])<=1:=by
     clear hlen hpos hl hn hr h1
     induction l with
     | nil=>simp
     | cons r l ih=>
      rw[qpf];simp only[qpd,qpa,QK];have:∀ n,Go.Proofs.YtkpkjbchlabaaaaGreatDoor.hgt (jL n)=1:=fun n=>by simp[kl,jL]
      rw[this,this];omega
    omega
   omega
 . rw[qcY,qo7,qo7,hlen];omega
theorem EOk.or {s:Str}{h h' m m':Nat}{a b:Ex}(ha:EOk s h m a)(hb:EOk s h' m' b):EOk s (max h h'+1) (m+m'+1) (orE a b):=by
 have hp:pre (orE a b)=orE a b::(pre a++pre b):=by rw[jn];simp[orE]
 refine⟨fun x hx=>?_,?_,?_⟩
 . rw[hp]at hx;rcases qpj.1 hx with rfl|hx
   . refine⟨?_,by simp[orE,Ex.op],by simp[orE,Ex.op],by simp[orE,Ex.op]⟩;simp[qo,orE,qi,zo,Ex.op,Ex.n,Ex.name,Ex.args]
   . rcases qpg.1 hx with hx|hx
     . exact ha.nodes x hx
     . exact hb.nodes x hx
 . rw[kl];have:=ha.hgt;have:=hb.hgt;simp only[orE,Ex.args_mk,QK,qkk];omega
 . rw[hp,qo7,qoV];have:=ha.size;have:=hb.size;omega
theorem EOk.chain {s:Str}(hs:yL s=true):∀ (l:List (List Rg)) {h m:Nat} {out:Ex},EOk s (h+2) m out->(∀ c∈l,c≠[]/\c.length<=16/\∀ r∈c,qiB r)->EOk s (h+2+l.length) (m+35*l.length) (KU s out l)
 | [],h,m,out,ho,_=>ho
 | c::l,h,m,out,ho,hc=>by
  have h1:=hc c (by simp);have h2:=ho.or (EOk.ins hs h1.1 h1.2.1 h1.2.2);have h3:=EOk.chain hs l (h:=h+1) (m:=m+34+1) (out:=orE out (Ja s c)) (by
   have e:max (h+2) 2+1=h+1+2:=(by omega);rw[e]at h2;exact h2) (fun c hm=>hc c (by simp[hm]))
  have e1:h+2+(c::l).length=h+1+2+l.length:=by simp;omega
  have e2:m+35*(c::l).length=m+34+1+35*l.length:=by simp;omega
  rw[e1,e2];exact h3
theorem J3 {α:Type}{n:Nat}(hn:0<n):∀ (k:Nat) (l:List α),∀ c∈z8 n k l,c≠[]/\c.length<=n/\∀ x∈c,x∈l
 | 0,_,c,h=>by cases h
 | k+1,l,c,h=>by
  unfold z8 at h;split at h
  . cases h
  . rename_i hl;rcases qpj.1 h with rfl|h
    . have:=qo6.2 hl;refine⟨qo6.1 (by rw[qps];omega),by rw[qps];omega,fun x hx=>qpR hx⟩
    . obtain⟨h1,h2,h3⟩:=J3 hn k _ c h;exact⟨h1,h2,fun x hx=>qqp (h3 x hx)⟩
theorem J4 {α:Type}{n:Nat}(hn:0<n):∀ (k:Nat) (l:List α) (m:Nat),l.length<=m*n->(z8 n k l).length<=m
 | 0,_,m,_=>by simp[z8]
 | k+1,l,m,h=>by
  unfold z8;split
  . simp
  . rename_i hl;have:=qo6.2 hl
    cases m with
    | zero=>omega
    | succ m=>
     have:=J4 hn k (l.drop n) m (by rw[qrd];rw[qqW]at h;omega);simp;omega
theorem EOk.valid {s:Str}{e:Ex}{h m:Nat}(ho:EOk s h m e)(hh:h<=24)(hm:m<=400){vs:List Var}(hv:ve vs s=true):zc vs e=0:=by
 have h1:qE qo (pre e)=0:=zj.2 fun x hx=>(ho.nodes x hx).1
 have h2:zf e=0:=by
  unfold zf;have h3:=ho.hgt;have h4:=ho.size;have h5:YX e=(pre e).length:=by unfold YX;rw[wr (by omega) (by omega)]
  rw[if_neg,h1];rintro⟨_,h|h⟩
  . omega
  . rw[h5]at h;omega
 have h3:ZW e=false:=by
  unfold ZW;rw[qqd];intro x hx;have:=ho.nodes x hx;simp[this.2.1,this.2.2.1]
 have h4:Qc vs e=false:=by
  unfold Qc;rw[qqd];intro x hx;have:=(ho.nodes x hx).2.2.2;by_cases h:x.op=2
  . simp[h,this h,hv]
  . simp[h]
 unfold zc;simp[h2,h3,h4]
theorem KB {n:Int}(h0:0<=n)(h1:n<=65535)(vs:List Var):zc vs (jL n)=0:=by
 have hp:=Qz n;have h2:zf (jL n)=0:=by
  unfold zf YX;rw[hp];have:hgt (jL n)=1:=by simp[kl,jL]
  rw[this];simp[qE,Ww h0 h1];decide
 have h3:ZW (jL n)=false:=by unfold ZW;rw[hp];simp[jL,Ex.op]
 have h4:Qc vs (jL n)=false:=by unfold Qc;rw[hp];simp[jL,Ex.op]
 unfold zc;simp[h2,h3,h4]
theorem Vy {s:Str}(hs:yL s=true){l:List Rg}(hl:l.length<=128)(hr:∀ r∈l,qiB r){vs:List Var}(hv:ve vs s=true):zc vs (vS s l)=0:=by
 unfold vS;split
 . exact KB (by omega) (by omega) vs
 . rename_i h0;have hpos:=qo6.2 h0;have h1:=EOk.ins hs (l:=l.take 16) (qo6.1 (by rw[qps];omega)) (by rw[qps];omega) (fun r h=>hr r (qpR h));have h2:=EOk.chain hs (z8 16 l.length (l.drop 16)) (h:=0) h1 (fun c hc=>by
    obtain⟨a,b,c'⟩:=J3 (by omega) _ _ c hc;exact⟨a,b,fun r h=>hr r (qqp (c' r h))⟩)
   have h3:=J4 (n:=16) (by omega) l.length (l.drop 16) 7 (by rw[qrd];omega);exact h2.valid (by omega) (by omega) hv
theorem qlg {out:List Rg}{n:Int}(hn:0<=n/\n<=65535)(h1:∀ r∈out,qiB r)(h2:∀ r,out.getLast?=some r->r.2<n/\2*(out.length:Int)<=r.2+2) :
 (∀ r∈ZX out n,qiB r)/\∃ r,(ZX out n).getLast?=some r/\r.2=n/\2*((ZX out n).length:Int)<=n+2:=by
 have new:(∀ r,out.getLast?=some r->¬ r.2=n-1)->(∀ r∈out++[(n,n)],qiB r)/\∃ r,(out++[(n,n)]).getLast?=some r/\r.2=n/\2*((out++[(n,n)]).length:Int)<=n+2:=by
  intro hne;refine⟨fun r hr=>?_,(n,n),by simp,rfl,?_⟩
  . rcases qpg.1 hr with hr|hr
    . exact h1 r hr
    . simp only[qpj,qqb,or_false]at hr;subst hr;exact⟨hn,hn⟩
  . rw[qoV]
    cases h:out.getLast? with
    | none=>
     rw[qrp]at h;subst h;simp;omega
    | some r=>
     have:=h2 r h;have:=hne r h;simp only[qo7,qpG];omega
 unfold ZX
 cases h:out.getLast? with
 | none=>exact new fun r hr=>by rw[h]at hr;cases hr
 | some r=>
  simp only;have h3:=h2 r h;split
  . rename_i he;obtain⟨l,rfl⟩:=qr0.1 h;rw[List.dropLast_concat];refine⟨fun x hx=>?_,(r.1,n),by simp,rfl,?_⟩
    . rcases qpg.1 hx with hx|hx
      . exact h1 x (by simp[hx])
      . simp only[qpj,qqb,or_false]at hx;subst hx;exact⟨(h1 r (by simp)).1,hn⟩
    . simp only[qoV,qo7,qpG]at h3 ⊢;omega
  . rename_i he;exact new fun x hx=>by rw[h]at hx;cases hx;exact he
theorem qaB:∀ {l:List Int} {out:List Rg} {N:Int},l.Pairwise (· < ·)->(∀ x∈l,0<=x/\x<=65535/\x<N)->(∀ r∈out,qiB r)->(∀ r,out.getLast?=some r->r.2<N/\2*(out.length:Int)<=r.2+2/\∀ x∈l,r.2<x) ->
 (∀ r∈l.foldl ZX out,qiB r)/\∀ r,(l.foldl ZX out).getLast?=some r->r.2<N/\2*((l.foldl ZX out).length:Int)<=r.2+2
 | [],out,N,_,_,h1,h2=>⟨h1,fun r hr=>⟨(h2 r hr).1,(h2 r hr).2.1⟩⟩
 | x::l,out,N,hp,hx,h1,h2=>by
  rw[qpA];obtain⟨hp1,hp2⟩:=List.pairwise_cons.1 hp;have hx0:=hx x (by simp);obtain⟨a1,r,a2,a3,a4⟩:=qlg (n:=x) ⟨hx0.1,hx0.2.1⟩ h1 (fun r hr=>⟨(h2 r hr).2.2 x (by simp),(h2 r hr).2.1⟩);refine qaB hp2 (fun y hy=>hx y (by simp[hy])) a1 fun r' hr'=>?_
  rw[a2]at hr';cases hr';exact⟨by omega,by omega,fun y hy=>by rw[a3];exact hp1 y hy⟩
theorem qbC {l:List Int}{N:Int}(hp:l.Pairwise (· < ·))(hx:∀ x∈l,0<=x/\x<=65535/\x<N)(hN:0<=N):(∀ r∈qgb l,qiB r)/\2*((qgb l).length:Int)<=N+1:=by
 have:=qaB (out:=[]) hp hx (fun r h=>by cases h) (fun r h=>by cases h);refine⟨this.1,?_⟩
 cases h:(qgb l).getLast? with
 | none=>rw[qrp]at h;rw[h];simp;omega
 | some r=>have:=this.2 r h;show 2*((l.foldl ZX []).length:Int)<=_;omega
theorem qbs (v:Var)(l:List Weight):(qbt v l).Pairwise (· < ·)/\∀ x∈qbt v l,0<=x/\x<(jz v:Nat):=by
 unfold qbt;refine⟨List.Pairwise.filter _ ?_,fun x hx=>?_⟩
 . rw[qrB];exact List.pairwise_lt_range.imp fun h=>by omega
 . obtain⟨hx,_⟩:=qr9.1 hx;obtain⟨n,hn,rfl⟩:=qpi.1 hx;have:=qpZ.1 hn;omega
theorem Wk {v:Var}(h:v.width<=8):jz v<=256:=by
 unfold jz;have:v.width.toNat<=8:=by omega
 calc 2 ^ v.width.toNat<=2 ^ 8:=qpl (by omega) this
  _=256:=rfl
theorem qej {vs:List Var}(hv:∀ v∈vs,jF v=0)(d:Dist):zc vs (YW vs d)=0:=by
 unfold YW;split
 . rename_i v h;have hm:=qoR h;have h1:=ze (hv v hm);have h2:=qbs v d.weights;have h3:=Wk h1.2.2;have h4:=qbC (N:=(jz v:Nat)) h2.1 (fun x hx=>by have:=h2.2 x hx;omega) (by omega);exact Vy h1.1 (by omega) h4.1 (by unfold ve;rw[qpk];exact⟨v,hm,by simp⟩)
 . exact KB (by omega) (by omega) vs
theorem qdC:∀ (l:List Ex) (i:Nat) (a:Ex),l[i]?=some a->((l.flatMap qq).drop (i*4)).take 4=qq a/\i*4+4<=(l.flatMap qq).length
 | [],i,a,h=>by simp at h
 | x::r,0,a,h=>by
  simp at h;subst h;rw[qpf,qqu,qp7,qpN (by rw[zb];omega),qoZ (by rw[zb];omega),qoV,zb];exact⟨rfl,by omega⟩
 | x::r,i+1,a,h=>by
  have ih:=qdC r i a (by simpa using h);rw[qpf,qqn,zb,qpp (by rw[zb];omega),qpa,show (i+1)*4-4=i*4 by omega,qoV,zb];exact⟨ih.1,by omega⟩
theorem qhi:∀ (l:List Ex) (i:Nat) (a:Ex),l[i]?=some a->zi (l.flatMap qq) (i*4) (qq a)=l.flatMap qq:=fun l i a h=>by
 have hi:=(qoQ.1 h).1;rw[vw (sz:=4) zb l i a hi];have:l.set i a=l:=by
  obtain⟨_,rfl⟩:=qoQ.1 h;exact List.set_getElem_self hi
 rw[this]
theorem qcZ {e a:Ex}(h:a∈e.args):(pre a).length<=(pre e).length:=by
 rw[jn e,qo7];have:∀ l:List Ex,a∈l->(pre a).length<=(kh l).length:=by
  intro l
  induction l with
  | nil=>intro h;cases h
  | cons x r ih=>
   intro h;rw[jZ,qoV];rcases qpj.1 h with rfl|h
   . omega
   . have:=ih h;omega
 have:=this _ h;omega
theorem qdR (e:Ex):e.args.length<=(pre e).length:=by
 rw[jn e,qo7];have:∀ l:List Ex,l.length<=(kh l).length:=by
  intro l
  induction l with
  | nil=>simp
  | cons x r ih=>rw[jZ,qoV,jn x];simp;omega
 have:=this e.args;omega
theorem qhG:∀ e,(pre e).length<=100000->Pure Tryz.prog GG 63 [.agg (qq e)] (.agg (qq e)):=by
 refine Ex.ind fun e ih hs=>?_
 have hal:=qdR e;refine Pure.kO o0 true qe Tryz.func63 rfl (by kernel_rfl) ?_;have hE:=qd e;by_cases h0:e.args=[]
 . rw[h0]at hE;rw[hE];simp[-getElem?_pos,qy,yu,Vi];refine qX.gen (fun n ev U=>ev 1=.ptr 0 0/\ev 2=.ptr 1 0/\ev 3=.sl 4 [] (.chain 0 0)/\ev 14=.int .i64 0/\ev 15=.int .i64 0/\∃ T,U=⟨[.cells [.int .i64 e.op,.int .i64 e.n,.str e.name,.sl 4 [] .none],.cells [.int .i64 0,.int .i64 0,.str [],.sl 0 [] .nil]],T⟩) 0 ?_ ?_
   . exact⟨by simp,by simp,by simp,by simp,by simp,_,rfl⟩
   . rintro n ev U R hR ⟨e1,e2,e3,e14,e15,T,rfl⟩;simp[-getElem?_pos,e1,e2,e3,e14,e15];have hfc:∀ H,frz H 7 (.sl 4 [] (.chain 0 0))=.sl 4 [] .none:=fun H=>by rw[frz];simp[q9]
     rw[frz];simp[q9,qw,Zh,qg9,hfc,Leq,zu]
 . have hpos:=qo6.2 h0;have hne:¬ (e.args.length:Int)=0:=(by omega);have hb:e.args.length<=549755813888:=(by omega);have hbI:(e.args.length:Int)<=549755813888:=(by omega);have hfl:(e.args.map qq).flatten=e.args.flatMap qq:=(by rw[qqw]);have hlenf:(e.args.flatMap qq).length=e.args.length*4:=z9 (sz:=4) zb e.args;have hz:((List.replicate e.args.length [AV.int .i64 0,.int .i64 0,.str [],.sl 0 [] .nil]).flatten).length=e.args.length*4:=(by simp);have hput:=putAt_all ((List.replicate e.args.length [AV.int .i64 0,.int .i64 0,.str [],.sl 0 [] .nil]).flatten) (e.args.flatMap qq) (by rw[hz,hlenf]);have htk:(e.args.map qq).take e.args.length=e.args.map qq:=qoZ (by simp);have hcp:∀ B0 B1:Blk,yu (Dof Tryz.prog) ⟨[B0,B1,.cells (List.replicate e.args.length [AV.int .i64 0,.int .i64 0,.str [],.sl 0 [] .nil]).flatten],[]⟩ 23 (.ms 2 0 e.args.length 4) (.sl 4 (e.args.map qq) .none)=some (.int .i64 e.args.length,⟨[B0,B1,.cells (e.args.flatMap qq)],[]⟩):=fun B0 B1=>by
    have hz':=hz;generalize (List.replicate e.args.length [AV.int .i64 0,.int .i64 0,.str [],.sl 0 [] .nil]).flatten=Z at *;simp[yu,Vi,qlD,hfl,hput,hz',htk,h0]
   have hat:=qdC e.args;have hpt:=qhi e.args;have hfr:wA 4 e.args.length (e.args.flatMap qq)=e.args.map qq:=(by have:=vH (sz:=4) zb e.args [];rwa[qpu]at this);rw[hE];generalize hZ:(List.replicate e.args.length [AV.int .i64 0,.int .i64 0,.str [],.sl 0 [] .nil]).flatten=Z at *;generalize hFE:e.args.flatMap qq=FE at *;simp[-getElem?_pos,qy,hne,h0,hbI,hZ,hcp];have hn0:e.args.length<=100000:=(by omega);have hatoms:∀ a:Ex,qN (.agg (qq a))=some (qq a):=yE;refine qX.listR e.args (fun d ev U=>ev 1=.ptr 0 0/\ev 2=.ptr 1 0/\ev 3=.ms 2 0 e.args.length 4/\ev 14=.int .i64 e.args.length/\ev 15=.int .i64 d.length/\U=⟨[.cells [.int .i64 e.op,.int .i64 e.n,.str e.name,.sl 4 (e.args.map qq) .none],.cells [.int .i64 0,.int .i64 0,.str [],.sl 0 [] .nil],.cells FE],[]⟩) ?_ ?_ ?_
   . exact⟨by simp,by simp,by simp,by simp,by simp,by simp⟩
   . rintro d a rest ev U R hR hd hx hlt ⟨e1,e2,e3,e14,e15,rfl⟩;have hm:=qoR hx;have hia:=ih a hm (by have:=qcZ hm;omega);have hw:=wr (n:=(d.length:Int)+1) (by omega) (by omega);obtain⟨ht,hle⟩:=hat d.length a hx;have hp:=hpt d.length a hx;have ha2:=hatoms a;have hl4:=zb a;have hnr:=nrE a;generalize qq a=W at *;simp[-getElem?_pos,-qN,e1,e2,e3,e14,e15,hlt,ht,hle];refine qc.call hia (by simp[qw,hnr]) ?_;simp[-getElem?_pos,-qN,ha2,hl4,hp,hle,e1,e2,e3,e14,e15,hlt,hw];exact hR _ _ ⟨by simp[e1],by simp[e2],by simp[e3],by simp[e14],by simp,rfl⟩
   . rintro ev U ⟨e1,e2,e3,e14,e15,rfl⟩;simp[-getElem?_pos,e1,e2,e3,e14,e15];have ho:jo 2 4 qq [Blk.cells [AV.int .i64 e.op,.int .i64 e.n,.str e.name,.ms 2 0 e.args.length 4],.cells [.int .i64 e.op,.int .i64 e.n,.str e.name,.ms 2 0 e.args.length 4],.cells FE] (.ms 2 0 e.args.length 4) e.args:=.inr ⟨h0,rfl,by rw[hFE];rfl⟩;have f1:=ho.frz zb (fun x=>nrE x) yk 6;have f2:=ho.frzNo zb (fun x=>nrE x) yk 6;rw[frz];rw[if_neg (by simp[q9,qw])];simp only[qo2,qpr,Zh,qg9,q9,qw,Leq,zu,qq3,qpT,and_true,true_and];exact⟨f2,f1⟩
end Go.Proofs.YtkpkjbchlabaaaaGreatDoor
end
