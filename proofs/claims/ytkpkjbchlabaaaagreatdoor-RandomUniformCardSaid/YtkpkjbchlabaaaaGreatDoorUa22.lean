/- A part of the proof. -/
import Derived.Test.YtkpkjbchlabaaaaGreatDoorUa20
import Derived.Test.YtkpkjbchlabaaaaGreatDoorUa10
import Derived.Test.YtkpkjbchlabaaaaGreatDoorUa08
set_option linter.unusedVariables false
set_option linter.unusedSimpArgs false
set_option maxHeartbeats 16000000
set_option maxRecDepth 100000
set_option linter.defProp false
section
namespace Go.Proofs.YtkpkjbchlabaaaaGreatDoor
open Go Go.Abs
abbrev Rg:=Int×Int
@[simp]def yt (r:Rg):List AV:=[.int .i64 r.1,.int .i64 r.2]
def Z5 (out:List Rg)(n:Int):List Rg:=match out.getLast? with
 | some r=>if r.2=n-1 then out.dropLast++[(r.1,n)] else out++[(n,n)]
 | none=>out++[(n,n)]
def qgG (l:List Int):List Rg:=l.foldl Z5 []
def jM (n:Int):Ex:=.mk 1 n [] []
def wO (s:Str):Ex:=.mk 2 0 s []
def Jj (s:Str)(l:List Rg):Ex:=.mk 23 0 [] (wO s::l.flatMap fun r=>[jM r.1,jM r.2])
def orE (a b:Ex):Ex:=.mk 20 0 [] [a,b]
def z7 {α:Type}(n:Nat):Nat->List α->List (List α)
 | 0,_=>[]
 | k+1,l=>if l=[] then [] else l.take n::z7 n k (l.drop n)
def Wh (s:Str)(out:Ex)(l:List (List Rg)):Ex:=l.foldl (fun o c=>orE o (Jj s c)) out
def vU (s:Str)(l:List Rg):Ex:=if l=[] then jM 0 else Wh s (Jj s (l.take 16)) (z7 16 l.length (l.drop 16))
def inW (n:Int)(w:Weight):Bool:=decide (w.lo<=n)&&decide (n<=w.hi)
def qdo (l:List Weight)(n:Int):Bool:=match l.find? (inW n) with
 | some w=>decide (0<w.weight)
 | none=>false
def qbQ (v:Var)(l:List Weight):List Int:=((List.range (jm v)).map fun n:Nat=>(n:Int)).filter (qdo l)
def Kd (vs:List Var)(d:Dist):Ex:=match vs[d.var.toNat]? with
 | some v=>vU v.name (qgG (qbQ v d.weights))
 | none=>jM 0
def vP (p:Problem):List Ex:=p.dists.map (Kd p.vars)
def qhc (p:Problem):List Ex:=p.hard++vP p
noncomputable def wN (vs:List Var)(rules:List Ex):List (Int×Ex)->List (Int×Ex)
 | []=>[]
 | x::r=>if yB vs (rules++[x.2]) then x::wN vs (rules++[x.2]) r else wN vs rules r
def Yk (l:List Ex):List (Int×Ex):=(l.zipIdx.map fun q=>((q.2:Int),q.1)).reverse
noncomputable def Ji (p:Problem):List (Int×Ex):=(wN p.vars (qhc p) (Yk p.soft)).reverse
noncomputable def qgF (p:Problem):List Ex:=qhc p++(Ji p).map (·.2)
theorem WN {n:Int}(h0:0<=n)(h1:n<=65535):qo (jM n)=0:=by
 simp[qo,jM,qi,zo,Ex.op,Ex.n,Ex.name,Ex.args];omega
theorem qf5 {s:Str}(h:yM s=true):qo (wO s)=0:=by
 simp[qo,wO,qi,zo,Ex.op,Ex.n,Ex.name,Ex.args,h]
theorem QE (n:Int):pre (jM n)=[jM n]:=by simp[jo,jM]
theorem qdl (s:Str):pre (wO s)=[wO s]:=by simp[jo,wO]
theorem qaj:∀ (l:List Rg),kg (l.flatMap fun r=>[jM r.1,jM r.2])=l.flatMap fun r=>[jM r.1,jM r.2]
 | []=>rfl
 | r::l=>by rw[qpY,wk,qaj l];simp[QE]
theorem qdm (s:Str)(l:List Rg):pre (Jj s l)=Jj s l::wO s::l.flatMap fun r=>[jM r.1,jM r.2]:=by
 rw[jo];show Jj s l::kg (wO s::_)=_;rw[jZ,qdl,qaj];rfl
theorem WM:∀ (l:List Rg),(l.flatMap fun r=>[jM r.1,jM r.2]).length=2*l.length
 | []=>rfl
 | r::l=>by rw[qpY,qpD,WM l];simp;omega
def qjh (r:Rg):Prop:=(0<=r.1/\r.1<=65535)/\0<=r.2/\r.2<=65535
structure EOk (s:Str)(h m:Nat)(e:Ex):Prop where
 nodes:∀ x∈pre e,qo x=0/\x.op≠3/\x.op≠24/\(x.op=2->x.name=s)
 hgt:hgt e<=h
 size:(pre e).length<=m
theorem EOk.ins {s:Str}(hs:yM s=true){l:List Rg}(hl:l≠[])(hn:l.length<=16)(hr:∀ r∈l,qjh r):EOk s 2 34 (Jj s l):=by
 have hlen:=WM l;have hpos:0<l.length:=qpO.2 hl;refine⟨fun x hx=>?_,?_,?_⟩
 . rw[qdm]at hx;rcases qp5.1 hx with rfl|hx
   . refine⟨?_,by simp[Jj,Ex.op],by simp[Jj,Ex.op],by simp[Jj,Ex.op]⟩;unfold qo qi;simp only[Jj,Ex.op_mk,Ex.n_mk,Ex.name_mk,Ex.args_mk,qpQ,hlen];have h1:(2*l.length+1) % 2=1:=(by omega);have h2:3<=2*l.length+1:=(by omega);have h3:2*l.length+1<=33:=(by omega);simp[h1,h2,h3]
   . rcases qp5.1 hx with rfl|hx
     . exact⟨qf5 hs,by simp[wO,Ex.op],by simp[wO,Ex.op],fun _=>rfl⟩
     . obtain⟨r,hr1,hx⟩:=List.mem_flatMap.1 hx;have:=hr r hr1;simp only[qp5,qqU,or_false]at hx;rcases hx with rfl|rfl
       . exact⟨WN this.1.1 this.1.2,by simp[jM,Ex.op],by simp[jM,Ex.op],by simp[jM,Ex.op]⟩
       . exact⟨WN this.2.1 this.2.2,by simp[jM,Ex.op],by simp[jM,Ex.op],by simp[jM,Ex.op]⟩
 . rw[kl];have:Q7 (Jj s l).args<=1:=by
    show Q7 (wO s::_)<=1;rw[QO];have h1:Go.Proofs.YtkpkjbchlabaaaaGreatDoor.hgt (wO s)=1:=(by simp[kl,wO]);have h2:Q7 (l.flatMap fun r=>[jM r.1,jM r.2])<=1:=by
     clear hlen hpos hl hn hr h1
     induction l with
     | nil=>simp
     | cons r l ih=>
      rw[qpY];simp only[qpU,qpS,QO];have:∀ n,Go.Proofs.YtkpkjbchlabaaaaGreatDoor.hgt (jM n)=1:=fun n=>by simp[kl,jM]
      rw[this,this];omega
    omega
   omega
 . rw[qdm,qpQ,qpQ,hlen];omega
theorem EOk.or {s:Str}{h h' m m':Nat}{a b:Ex}(ha:EOk s h m a)(hb:EOk s h' m' b):EOk s (max h h'+1) (m+m'+1) (orE a b):=by
 have hp:pre (orE a b)=orE a b::(pre a++pre b):=by rw[jo];simp[orE]
 refine⟨fun x hx=>?_,?_,?_⟩
 . rw[hp]at hx;rcases qp5.1 hx with rfl|hx
   . refine⟨?_,by simp[orE,Ex.op],by simp[orE,Ex.op],by simp[orE,Ex.op]⟩;simp[qo,orE,qi,zo,Ex.op,Ex.n,Ex.name,Ex.args]
   . rcases qpZ.1 hx with hx|hx
     . exact ha.nodes x hx
     . exact hb.nodes x hx
 . rw[kl];have:=ha.hgt;have:=hb.hgt;simp only[orE,Ex.args_mk,QO,qk0];omega
 . rw[hp,qpQ,qpD];have:=ha.size;have:=hb.size;omega
theorem EOk.chain {s:Str}(hs:yM s=true):∀ (l:List (List Rg)) {h m:Nat} {out:Ex},EOk s (h+2) m out->(∀ c∈l,c≠[]/\c.length<=16/\∀ r∈c,qjh r)->EOk s (h+2+l.length) (m+35*l.length) (Wh s out l)
 | [],h,m,out,ho,_=>ho
 | c::l,h,m,out,ho,hc=>by
  have h1:=hc c (by simp);have h2:=ho.or (EOk.ins hs h1.1 h1.2.1 h1.2.2);have h3:=EOk.chain hs l (h:=h+1) (m:=m+34+1) (out:=orE out (Jj s c)) (by
   have e:max (h+2) 2+1=h+1+2:=(by omega);rw[e]at h2;exact h2) (fun c hm=>hc c (by simp[hm]))
  have e1:h+2+(c::l).length=h+1+2+l.length:=by simp;omega
  have e2:m+35*(c::l).length=m+34+1+35*l.length:=by simp;omega
  rw[e1,e2];exact h3
theorem Ye {α:Type}{n:Nat}(hn:0<n):∀ (k:Nat) (l:List α),∀ c∈z7 n k l,c≠[]/\c.length<=n/\∀ x∈c,x∈l
 | 0,_,c,h=>by cases h
 | k+1,l,c,h=>by
  unfold z7 at h;split at h
  . cases h
  . rename_i hl;rcases qp5.1 h with rfl|h
    . have:=qpO.2 hl;refine⟨qpO.1 (by rw[qqb];omega),by rw[qqb];omega,fun x hx=>qqB hx⟩
    . obtain⟨h1,h2,h3⟩:=Ye hn k _ c h;exact⟨h1,h2,fun x hx=>qrc (h3 x hx)⟩
theorem Yf {α:Type}{n:Nat}(hn:0<n):∀ (k:Nat) (l:List α) (m:Nat),l.length<=m*n->(z7 n k l).length<=m
 | 0,_,m,_=>by simp[z7]
 | k+1,l,m,h=>by
  unfold z7;split
  . simp
  . rename_i hl;have:=qpO.2 hl
    cases m with
    | zero=>omega
    | succ m=>
     have:=Yf hn k (l.drop n) m (by rw[qrY];rw[qrH]at h;omega);simp;omega
theorem EOk.valid {s:Str}{e:Ex}{h m:Nat}(ho:EOk s h m e)(hh:h<=24)(hm:m<=400){vs:List Var}(hv:vm vs s=true):zh vs e=0:=by
 have h1:qM qo (pre e)=0:=zy.2 fun x hx=>(ho.nodes x hx).1
 have h2:ze e=0:=by
  unfold ze;have h3:=ho.hgt;have h4:=ho.size;have h5:Ke e=(pre e).length:=by unfold Ke;rw[wr (by omega) (by omega)]
  rw[if_neg,h1];rintro⟨_,h|h⟩
  . omega
  . rw[h5]at h;omega
 have h3:Z4 e=false:=by
  unfold Z4;rw[qqX];intro x hx;have:=ho.nodes x hx;simp[this.2.1,this.2.2.1]
 have h4:Qh vs e=false:=by
  unfold Qh;rw[qqX];intro x hx;have:=(ho.nodes x hx).2.2.2;by_cases h:x.op=2
  . simp[h,this h,hv]
  . simp[h]
 unfold zh;simp[h2,h3,h4]
theorem KV {n:Int}(h0:0<=n)(h1:n<=65535)(vs:List Var):zh vs (jM n)=0:=by
 have hp:=QE n;have h2:ze (jM n)=0:=by
  unfold ze Ke;rw[hp];have:hgt (jM n)=1:=by simp[kl,jM]
  rw[this];simp[qM,WN h0 h1];decide
 have h3:Z4 (jM n)=false:=by unfold Z4;rw[hp];simp[jM,Ex.op]
 have h4:Qh vs (jM n)=false:=by unfold Qh;rw[hp];simp[jM,Ex.op]
 unfold zh;simp[h2,h3,h4]
theorem VV {s:Str}(hs:yM s=true){l:List Rg}(hl:l.length<=128)(hr:∀ r∈l,qjh r){vs:List Var}(hv:vm vs s=true):zh vs (vU s l)=0:=by
 unfold vU;split
 . exact KV (by omega) (by omega) vs
 . rename_i h0;have hpos:=qpO.2 h0;have h1:=EOk.ins hs (l:=l.take 16) (qpO.1 (by rw[qqb];omega)) (by rw[qqb];omega) (fun r h=>hr r (qqB h));have h2:=EOk.chain hs (z7 16 l.length (l.drop 16)) (h:=0) h1 (fun c hc=>by
    obtain⟨a,b,c'⟩:=Ye (by omega) _ _ c hc;exact⟨a,b,fun r h=>hr r (qrc (c' r h))⟩)
   have h3:=Yf (n:=16) (by omega) l.length (l.drop 16) 7 (by rw[qrY];omega);exact h2.valid (by omega) (by omega) hv
theorem qlY {out:List Rg}{n:Int}(hn:0<=n/\n<=65535)(h1:∀ r∈out,qjh r)(h2:∀ r,out.getLast?=some r->r.2<n/\2*(out.length:Int)<=r.2+2) :
 (∀ r∈Z5 out n,qjh r)/\∃ r,(Z5 out n).getLast?=some r/\r.2=n/\2*((Z5 out n).length:Int)<=n+2:=by
 have new:(∀ r,out.getLast?=some r->¬ r.2=n-1)->(∀ r∈out++[(n,n)],qjh r)/\∃ r,(out++[(n,n)]).getLast?=some r/\r.2=n/\2*((out++[(n,n)]).length:Int)<=n+2:=by
  intro hne;refine⟨fun r hr=>?_,(n,n),by simp,rfl,?_⟩
  . rcases qpZ.1 hr with hr|hr
    . exact h1 r hr
    . simp only[qp5,qqU,or_false]at hr;subst hr;exact⟨hn,hn⟩
  . rw[qpD]
    cases h:out.getLast? with
    | none=>
     rw[qr9]at h;subst h;simp;omega
    | some r=>
     have:=h2 r h;have:=hne r h;simp only[qpQ,qqp];omega
 unfold Z5
 cases h:out.getLast? with
 | none=>exact new fun r hr=>by rw[h]at hr;cases hr
 | some r=>
  simp only;have h3:=h2 r h;split
  . rename_i he;obtain⟨l,rfl⟩:=qsI.1 h;rw[List.dropLast_concat];refine⟨fun x hx=>?_,(r.1,n),by simp,rfl,?_⟩
    . rcases qpZ.1 hx with hx|hx
      . exact h1 x (by simp[hx])
      . simp only[qp5,qqU,or_false]at hx;subst hx;exact⟨(h1 r (by simp)).1,hn⟩
    . simp only[qpD,qpQ,qqp]at h3 ⊢;omega
  . rename_i he;exact new fun x hx=>by rw[h]at hx;cases hx;exact he
theorem qaW:∀ {l:List Int} {out:List Rg} {N:Int},l.Pairwise (· < ·)->(∀ x∈l,0<=x/\x<=65535/\x<N)->(∀ r∈out,qjh r)->(∀ r,out.getLast?=some r->r.2<N/\2*(out.length:Int)<=r.2+2/\∀ x∈l,r.2<x) ->
 (∀ r∈l.foldl Z5 out,qjh r)/\∀ r,(l.foldl Z5 out).getLast?=some r->r.2<N/\2*((l.foldl Z5 out).length:Int)<=r.2+2
 | [],out,N,_,_,h1,h2=>⟨h1,fun r hr=>⟨(h2 r hr).1,(h2 r hr).2.1⟩⟩
 | x::l,out,N,hp,hx,h1,h2=>by
  rw[qqe];obtain⟨hp1,hp2⟩:=List.pairwise_cons.1 hp;have hx0:=hx x (by simp);obtain⟨a1,r,a2,a3,a4⟩:=qlY (n:=x) ⟨hx0.1,hx0.2.1⟩ h1 (fun r hr=>⟨(h2 r hr).2.2 x (by simp),(h2 r hr).2.1⟩);refine qaW hp2 (fun y hy=>hx y (by simp[hy])) a1 fun r' hr'=>?_
  rw[a2]at hr';cases hr';exact⟨by omega,by omega,fun y hy=>by rw[a3];exact hp1 y hy⟩
theorem qbY {l:List Int}{N:Int}(hp:l.Pairwise (· < ·))(hx:∀ x∈l,0<=x/\x<=65535/\x<N)(hN:0<=N):(∀ r∈qgG l,qjh r)/\2*((qgG l).length:Int)<=N+1:=by
 have:=qaW (out:=[]) hp hx (fun r h=>by cases h) (fun r h=>by cases h);refine⟨this.1,?_⟩
 cases h:(qgG l).getLast? with
 | none=>rw[qr9]at h;rw[h];simp;omega
 | some r=>have:=this.2 r h;show 2*((l.foldl Z5 []).length:Int)<=_;omega
theorem qbP (v:Var)(l:List Weight):(qbQ v l).Pairwise (· < ·)/\∀ x∈qbQ v l,0<=x/\x<(jm v:Nat):=by
 unfold qbQ;refine⟨List.Pairwise.filter _ ?_,fun x hx=>?_⟩
 . rw[qsl];exact List.pairwise_lt_range.imp fun h=>by omega
 . obtain⟨hx,_⟩:=qsS.1 hx;obtain⟨n,hn,rfl⟩:=qp1.1 hx;have:=qqF.1 hn;omega
theorem WC {v:Var}(h:v.width<=8):jm v<=256:=by
 unfold jm;have:v.width.toNat<=8:=by omega
 calc 2 ^ v.width.toNat<=2 ^ 8:=qp3 (by omega) this
  _=256:=rfl
theorem qeI {vs:List Var}(hv:∀ v∈vs,jt v=0)(d:Dist):zh vs (Kd vs d)=0:=by
 unfold Kd;split
 . rename_i v h;have hm:=qpz h;have h1:=zc (hv v hm);have h2:=qbP v d.weights;have h3:=WC h1.2.2;have h4:=qbY (N:=(jm v:Nat)) h2.1 (fun x hx=>by have:=h2.2 x hx;omega) (by omega);exact VV h1.1 (by omega) h4.1 (by unfold vm;rw[qp0];exact⟨v,hm,by simp⟩)
 . exact KV (by omega) (by omega) vs
theorem qd2:∀ (l:List Ex) (i:Nat) (a:Ex),l[i]?=some a->((l.flatMap qq).drop (i*4)).take 4=qq a/\i*4+4<=(l.flatMap qq).length
 | [],i,a,h=>by simp at h
 | x::r,0,a,h=>by
  simp at h;subst h;rw[qpY,qrh,qqQ,qqw (by rw[za];omega),qpH (by rw[za];omega),qpD,za];exact⟨rfl,by omega⟩
 | x::r,i+1,a,h=>by
  have ih:=qd2 r i a (by simpa using h);rw[qpY,qra,za,qp9 (by rw[za];omega),qpS,show (i+1)*4-4=i*4 by omega,qpD,za];exact⟨ih.1,by omega⟩
theorem qhR:∀ (l:List Ex) (i:Nat) (a:Ex),l[i]?=some a->zi (l.flatMap qq) (i*4) (qq a)=l.flatMap qq:=fun l i a h=>by
 have hi:=(qpy.1 h).1;rw[vB (sz:=4) za l i a hi];have:l.set i a=l:=by
  obtain⟨_,rfl⟩:=qpy.1 h;exact List.set_getElem_self hi
 rw[this]
theorem qdn {e a:Ex}(h:a∈e.args):(pre a).length<=(pre e).length:=by
 rw[jo e,qpQ];have:∀ l:List Ex,a∈l->(pre a).length<=(kg l).length:=by
  intro l
  induction l with
  | nil=>intro h;cases h
  | cons x r ih=>
   intro h;rw[jZ,qpD];rcases qp5.1 h with rfl|h
   . omega
   . have:=ih h;omega
 have:=this _ h;omega
theorem qeh (e:Ex):e.args.length<=(pre e).length:=by
 rw[jo e,qpQ];have:∀ l:List Ex,l.length<=(kg l).length:=by
  intro l
  induction l with
  | nil=>simp
  | cons x r ih=>rw[jZ,qpD,jo x];simp;omega
 have:=this e.args;omega
theorem qii:∀ e,(pre e).length<=100000->Pure Tryz.prog GG 63 [.agg (qq e)] (.agg (qq e)):=by
 refine Ex.ind fun e ih hs=>?_
 have hal:=qeh e;refine Pure.kO o0 true qe Tryz.func63 rfl (by kernel_rfl) ?_;have hE:=qd e;by_cases h0:e.args=[]
 . rw[h0]at hE;rw[hE];simp[-getElem?_pos,qy,yv,VB];refine qY.gen (fun n ev U=>ev 1=.ptr 0 0/\ev 2=.ptr 1 0/\ev 3=.sl 4 [] (.chain 0 0)/\ev 14=.int .i64 0/\ev 15=.int .i64 0/\∃ T,U=⟨[.cells [.int .i64 e.op,.int .i64 e.n,.str e.name,.sl 4 [] .none],.cells [.int .i64 0,.int .i64 0,.str [],.sl 0 [] .nil]],T⟩) 0 ?_ ?_
   . exact⟨by simp,by simp,by simp,by simp,by simp,_,rfl⟩
   . rintro n ev U R hR ⟨e1,e2,e3,e14,e15,T,rfl⟩;simp[-getElem?_pos,e1,e2,e3,e14,e15];have hfc:∀ H,frz H 7 (.sl 4 [] (.chain 0 0))=.sl 4 [] .none:=fun H=>by rw[frz];simp[q9]
     rw[frz];simp[q9,qw,Zq,qhI,hfc,Leq,zu]
 . have hpos:=qpO.2 h0;have hne:¬ (e.args.length:Int)=0:=(by omega);have hb:e.args.length<=549755813888:=(by omega);have hbI:(e.args.length:Int)<=549755813888:=(by omega);have hfl:(e.args.map qq).flatten=e.args.flatMap qq:=(by rw[qri]);have hlenf:(e.args.flatMap qq).length=e.args.length*4:=z8 (sz:=4) za e.args;have hz:((List.replicate e.args.length [AV.int .i64 0,.int .i64 0,.str [],.sl 0 [] .nil]).flatten).length=e.args.length*4:=(by simp);have hput:=putAt_all ((List.replicate e.args.length [AV.int .i64 0,.int .i64 0,.str [],.sl 0 [] .nil]).flatten) (e.args.flatMap qq) (by rw[hz,hlenf]);have htk:(e.args.map qq).take e.args.length=e.args.map qq:=qpH (by simp);have hcp:∀ B0 B1:Blk,yv (Dof Tryz.prog) ⟨[B0,B1,.cells (List.replicate e.args.length [AV.int .i64 0,.int .i64 0,.str [],.sl 0 [] .nil]).flatten],[]⟩ 23 (.ms 2 0 e.args.length 4) (.sl 4 (e.args.map qq) .none)=some (.int .i64 e.args.length,⟨[B0,B1,.cells (e.args.flatMap qq)],[]⟩):=fun B0 B1=>by
    have hz':=hz;generalize (List.replicate e.args.length [AV.int .i64 0,.int .i64 0,.str [],.sl 0 [] .nil]).flatten=Z at *;simp[yv,VB,qml,hfl,hput,hz',htk,h0]
   have hat:=qd2 e.args;have hpt:=qhR e.args;have hfr:wB 4 e.args.length (e.args.flatMap qq)=e.args.map qq:=(by have:=vK (sz:=4) za e.args [];rwa[qqc]at this);rw[hE];generalize hZ:(List.replicate e.args.length [AV.int .i64 0,.int .i64 0,.str [],.sl 0 [] .nil]).flatten=Z at *;generalize hFE:e.args.flatMap qq=FE at *;simp[-getElem?_pos,qy,hne,h0,hbI,hZ,hcp];have hn0:e.args.length<=100000:=(by omega);have hatoms:∀ a:Ex,qN (.agg (qq a))=some (qq a):=yl;refine qY.listR e.args (fun d ev U=>ev 1=.ptr 0 0/\ev 2=.ptr 1 0/\ev 3=.ms 2 0 e.args.length 4/\ev 14=.int .i64 e.args.length/\ev 15=.int .i64 d.length/\U=⟨[.cells [.int .i64 e.op,.int .i64 e.n,.str e.name,.sl 4 (e.args.map qq) .none],.cells [.int .i64 0,.int .i64 0,.str [],.sl 0 [] .nil],.cells FE],[]⟩) ?_ ?_ ?_
   . exact⟨by simp,by simp,by simp,by simp,by simp,by simp⟩
   . rintro d a rest ev U R hR hd hx hlt ⟨e1,e2,e3,e14,e15,rfl⟩;have hm:=qpz hx;have hia:=ih a hm (by have:=qdn hm;omega);have hw:=wr (n:=(d.length:Int)+1) (by omega) (by omega);obtain⟨ht,hle⟩:=hat d.length a hx;have hp:=hpt d.length a hx;have ha2:=hatoms a;have hl4:=za a;have hnr:=nrE a;generalize qq a=W at *;simp[-getElem?_pos,-qN,e1,e2,e3,e14,e15,hlt,ht,hle];refine qc.call hia (by simp[qw,hnr]) ?_;simp[-getElem?_pos,-qN,ha2,hl4,hp,hle,e1,e2,e3,e14,e15,hlt,hw];exact hR _ _ ⟨by simp[e1],by simp[e2],by simp[e3],by simp[e14],by simp,rfl⟩
   . rintro ev U ⟨e1,e2,e3,e14,e15,rfl⟩;simp[-getElem?_pos,e1,e2,e3,e14,e15];have ho:jp 2 4 qq [Blk.cells [AV.int .i64 e.op,.int .i64 e.n,.str e.name,.ms 2 0 e.args.length 4],.cells [.int .i64 e.op,.int .i64 e.n,.str e.name,.ms 2 0 e.args.length 4],.cells FE] (.ms 2 0 e.args.length 4) e.args:=.inr ⟨h0,rfl,by rw[hFE];rfl⟩;have f1:=ho.frz za (fun x=>nrE x) yk 6;have f2:=ho.frzNo za (fun x=>nrE x) yk 6;rw[frz];rw[if_neg (by simp[q9,qw])];simp only[qpK,qqa,Zq,qhI,q9,qw,Leq,zu,qrN,qqx,and_true,true_and];exact⟨f2,f1⟩
end Go.Proofs.YtkpkjbchlabaaaaGreatDoor
end
