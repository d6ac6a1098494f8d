import Derived.Test.YtfmdnopgncbmoaaGreatDoorPs13
import Derived.Test.YtfmdnopgncbmoaaGreatDoorPs11
set_option maxHeartbeats 16000000
set_option maxRecDepth 100000
set_option linter.all false
set_option linter.defProp false
namespace Go.Proofs.YtfmdnopgncbmoaaGreatDoor
open Go Go.Abs Tryz
abbrev Rg:=Int×Int
@[simp]def yI(r:Rg):List AV:=[.int .i64 r.1,.int .i64 r.2]
def QM(out:List Rg)(n:Int):List Rg:=match out.getLast? with
 |some r=>if r.2=n-1 then out.dropLast++[(r.1,n)] else out++[(n,n)]
 |none=>out++[(n,n)]
def qcD(l:List Int):List Rg:=l.foldl QM []
def jL(n:Int):Ex:=.mk 1 n [] []
def wY(s:Str):Ex:=.mk 2 0 s []
def Qq(s:Str)(l:List Rg):Ex:=.mk 23 0 [] (wY s::l.flatMap fun r=>[jL r.1,jL r.2])
def orE(a b:Ex):Ex:=.mk 20 0 [] [a,b]
def zX{α:Type}(n:Nat):Nat->List α->List (List α)
 |0,_=>[]
 |k+1,l=>if l=[] then [] else l.take n::zX n k (l.drop n)
def Zm(s:Str)(out:Ex)(l:List (List Rg)):Ex:=l.foldl (fun o c=>orE o (Qq s c)) out
def kF(s:Str)(l:List Rg):Ex:=if l=[] then jL 0 else Zm s (Qq s (l.take 16)) (zX 16 l.length (l.drop 16))
def inW(n:Int)(w:Weight):Bool:=decide (w.lo<=n)&&decide (n<=w.hi)
def qaZ(l:List Weight)(n:Int):Bool:=match l.find? (inW n) with
 |some w=>decide (0<w.weight)
 |none=>false
def qca(v:Var)(l:List Weight):List Int:=((List.range (z7 v)).map fun n:Nat=>(n:Int)).filter (qaZ l)
def JH(vs:List Var)(d:Dist):Ex:=match vs[d.var.toNat]? with
 |some v=>kF v.name (qcD (qca v d.weights))
 |none=>jL 0
def w9(p:Problem):List Ex:=p.dists.map (JH p.vars)
def qcQ(p:Problem):List Ex:=p.hard++w9 p
noncomputable def wh(vs:List Var)(rules:List Ex):List (Int×Ex)->List (Int×Ex)
 |[]=>[]
 |x::r=>if jT vs (rules++[x.2]) then x::wh vs (rules++[x.2]) r else wh vs rules r
def Jy(l:List Ex):List (Int×Ex):=(l.zipIdx.map fun q=>((q.2:Int),q.1)).reverse
noncomputable def ZE(p:Problem):List (Int×Ex):=(wh p.vars (qcQ p) (Jy p.soft)).reverse
noncomputable def qhC(p:Problem):List Ex:=qcQ p++(ZE p).map (·.2)
def Vf{n}(h0:0<=n)(h1:n<=65535):qp (jL n)=0:=by
 simp[qp,jL,qi,zm,Ex.op,Ex.n,Ex.name,Ex.args];omega
def qgW{s}(h:kq s=true):qp (wY s)=0:=by
 simp[qp,wY,qi,zm,Ex.op,Ex.n,Ex.name,Ex.args,h]
def QZ(n):pre (jL n)=[jL n]:=by simp[ju,jL]
def qd0(s):pre (wY s)=[wY s]:=by simp[ju,wY]
def qaY:∀(l:List Rg),kK (l.flatMap fun r=>[jL r.1,jL r.2])=l.flatMap fun r=>[jL r.1,jL r.2]
 |[]=>rfl
 |r::l=>by rw[qy5,wL,qaY l];simp[QZ]
def qd1(s)(l:List Rg):pre (Qq s l)=Qq s l::wY s::l.flatMap fun r=>[jL r.1,jL r.2]:=by
 rw[ju];show Qq s l::kK (wY s::_)=_;rw[ya,qd0,qaY];rfl
def Ve:∀(l:List Rg),(l.flatMap fun r=>[jL r.1,jL r.2]).length=2*l.length
 |[]=>rfl
 |r::l=>by rw[qy5,qyK,Ve l];simp;omega
def qkk(r:Rg):Prop:=(0<=r.1/\r.1<=65535)/\0<=r.2/\r.2<=65535
structure EOk(s h m e):Prop where
 nodes:∀x∈pre e,qp x=0/\x.op≠3/\x.op≠24/\(x.op=2->x.name=s)
 hgt:hgt e<=h
 size:(pre e).length<=m
def EOk.ins{s}(hs:kq s=true){l:List Rg}(hl:l≠[])(hn:l.length<=16)(hr:∀r∈l,qkk r):EOk s 2 34 (Qq s l):=by
 have hlen:=Ve l;have hpos:=qyZ.2 hl;refine⟨fun x hx=>?_,?_,?_⟩
 . rw[qd1]at hx;rcases qy9.1 hx with rfl|hx
   . refine⟨?_,by simp[Qq,Ex.op],by simp[Qq,Ex.op],by simp[Qq,Ex.op]⟩;unfold qp qi;simp only[Qq,qCH,Ex.n_mk,qCI,qCJ,qyY,hlen];have h1:(2*l.length+1)%2=1:=(by omega);have h2:3<=2*l.length+1:=(by omega);simp[h1,h2,show 2*l.length+1<=33 by omega]
   rcases qy9.1 hx with rfl|hx
   . exact⟨qgW hs,by simp[wY,Ex.op],by simp[wY,Ex.op],fun _=>rfl⟩
   obtain⟨r,hr1,hx⟩:=List.mem_flatMap.1 hx;have:=hr r hr1;simp only[qy9,qAd,or_false]at hx;rcases hx with rfl|rfl
   . exact⟨Vf this.1.1 this.1.2,by simp[jL,Ex.op],by simp[jL,Ex.op],by simp[jL,Ex.op]⟩
   exact⟨Vf this.2.1 this.2.2,by simp[jL,Ex.op],by simp[jL,Ex.op],by simp[jL,Ex.op]⟩
 . rw[kR];have:Zr (Qq s l).args<=1:=by
    show Zr (wY s::_)<=1;rw[Zb];have h1:Go.Proofs.YtfmdnopgncbmoaaGreatDoor.hgt (wY s)=1:=(by simp[kR,wY]);have h2:Zr (l.flatMap fun r=>[jL r.1,jL r.2])<=1:=by
     clear hlen hpos hl hn hr h1
     induction l with
     |nil=>simp
     | cons r l ih=>
      rw[qy5];simp only[qy3,qy2,Zb];have:∀n,Go.Proofs.YtfmdnopgncbmoaaGreatDoor.hgt (jL n)=1:=fun n=>by simp[kR,jL]
      rw[this,this];omega
    omega
   omega
 rw[qd1,qyY,qyY,hlen];omega
def EOk.or{s h h' m m' a b}(ha:EOk s h m a)(hb:EOk s h' m' b):EOk s (max h h'+1) (m+m'+1) (orE a b):=by
 have hp:pre (orE a b)=orE a b::(pre a++pre b):=by rw[ju];simp[orE]
 refine⟨fun x hx=>?_,?_,?_⟩
 . rw[hp]at hx;rcases qy9.1 hx with rfl|hx
   . refine⟨?_,by simp[orE,Ex.op],by simp[orE,Ex.op],by simp[orE,Ex.op]⟩;simp[qp,orE,qi,zm,Ex.op,Ex.n,Ex.name,Ex.args]
   rcases qy0.1 hx with hx|hx
   . exact ha.nodes x hx
   exact hb.nodes x hx
 . rw[kR];have:=ha.hgt;have:=hb.hgt;simp only[orE,qCJ,Zb,ql9];omega
 rw[hp,qyY,qyK];have:=ha.size;have:=hb.size;omega
def EOk.chain{s}(hs:kq s=true):∀(l:List (List Rg)){h m:Nat}{out:Ex},EOk s (h+2) m out->(∀c∈l,c≠[]/\c.length<=16/\∀r∈c,qkk r)->EOk s (h+2+l.length) (m+35*l.length) (Zm s out l)
 |[],h,m,out,ho,_=>ho
 | c::l,h,m,out,ho,hc=>by
  have h1:=hc c (by simp);have h2:=ho.or (EOk.ins hs h1.1 h1.2.1 h1.2.2);have h3:=EOk.chain hs l (h:=h+1) (m:=m+34+1) (out:=orE out (Qq s c)) (by
   have e:max (h+2) 2+1=h+1+2:=(by omega);rw[e]at h2;exact h2) (fun c hm=>hc c (by simp[hm]))
  have e1:h+2+(c::l).length=h+1+2+l.length:=by simp;omega
  have e2:m+35*(c::l).length=m+34+1+35*l.length:=by simp;omega
  rw[e1,e2];exact h3
def Yw{α:Type}{n}(hn:0<n):∀(k) (l:List α),∀c∈zX n k l,c≠[]/\c.length<=n/\∀x∈c,x∈l
 |0,_,c,h=>by cases h
 | k+1,l,c,h=>by
  unfold zX at h;split at h
  . cases h
  rename_i hl;rcases qy9.1 h with rfl|h
  . have:=qyZ.2 hl;refine⟨qyZ.1 (by rw[qzo];omega),by rw[qzo];omega,fun x hx=>qzy hx⟩
  obtain⟨h1,h2,h3⟩:=Yw hn k _ c h;exact⟨h1,h2,fun x hx=>qAj (h3 x hx)⟩
def Yx{α:Type}{n}(hn:0<n):∀(k) (l:List α) (m),l.length<=m*n->(zX n k l).length<=m
 |0,_,m,_=>by simp[zX]
 | k+1,l,m,h=>by
  unfold zX;split
  . simp
  rename_i hl;have:=qyZ.2 hl
  cases m with
  |zero=>omega
  | succ m=>
   have:=Yx hn k (l.drop n) m (by rw[qAU];rw[qA8]at h;omega);simp;omega
def EOk.valid{s e h m}(ho:EOk s h m e)(hh:h<=24)(hm:m<=400){vs}(hv:vK vs s=true):zi vs e=0:=by
 have h2:ze e=0:=by
  unfold ze;have h3:=ho.hgt;have h4:=ho.size;rw[if_neg,show qO qp (pre e)=0 from zz.2 fun x hx=>(ho.nodes x hx).1];rintro⟨_,h|h⟩
  . omega
  rw[show KB e=(pre e).length by unfold KB;rw[wr (by omega) (by omega)]]at h;omega
 have h3:Jq e=false:=by
  unfold Jq;rw[qAg];intro x hx;have:=ho.nodes x hx;simp[this.2.1,this.2.2.1]
 have h4:QD vs e=false:=by
  unfold QD;rw[qAg];intro x hx;have:=(ho.nodes x hx).2.2.2;by_cases h:x.op=2
  . simp[h,this h,hv]
  simp[h]
 unfold zi;simp[h2,h3,h4]
def Wl{n}(h0:0<=n)(h1:n<=65535)(vs):zi vs (jL n)=0:=by
 have hp:=QZ n;have h2:ze (jL n)=0:=by
  unfold ze KB;rw[hp];have:hgt (jL n)=1:=by simp[kR,jL]
  rw[this];simp[qO,Vf h0 h1];decide
 unfold zi;simp[h2,show Jq (jL n)=false by unfold Jq;rw[hp];simp[jL,Ex.op],show QD vs (jL n)=false by unfold QD;rw[hp];simp[jL,Ex.op]]
def qas{s}(hs:kq s=true){l:List Rg}(hl:l.length<=128)(hr:∀r∈l,qkk r){vs}(hv:vK vs s=true):zi vs (kF s l)=0:=by
 unfold kF;split
 . exact Wl (by omega) (by omega) vs
 rename_i h0;have hpos:=qyZ.2 h0;have h1:=EOk.ins hs (l:=l.take 16) (qyZ.1 (by rw[qzo];omega)) (by rw[qzo];omega) (fun r h=>hr r (qzy h));have h2:=EOk.chain hs (zX 16 l.length (l.drop 16)) (h:=0) h1 (fun c hc=>by
  obtain⟨a,b,c'⟩:=Yw (by omega) _ _ c hc;exact⟨a,b,fun r h=>hr r (qAj (c' r h))⟩)
 have h3:=Yx (n:=16) (by omega) l.length (l.drop 16) 7 (by rw[qAU];omega);exact h2.valid (by omega) (by omega) hv
def qm8{out:List Rg}{n}(hn:0<=n/\n<=65535)(h1:∀r∈out,qkk r)(h2:∀r,out.getLast?=some r->r.2<n/\2*(out.length:Int)<=r.2+2):
 (∀r∈QM out n,qkk r)/\∃r,(QM out n).getLast?=some r/\r.2=n/\2*((QM out n).length:Int)<=n+2:=by
 have new:(∀r,out.getLast?=some r->¬r.2=n-1)->(∀r∈out++[(n,n)],qkk r)/\∃r,(out++[(n,n)]).getLast?=some r/\r.2=n/\2*((out++[(n,n)]).length:Int)<=n+2:=by
  intro hne;refine⟨fun r hr=>?_,(n,n),by simp,rfl,?_⟩
  . rcases qy0.1 hr with hr|hr
    . exact h1 r hr
    . simp only[qy9,qAd,or_false]at hr;subst hr;exact⟨hn,hn⟩
  rw[qyK]
  cases h:out.getLast? with
  | none=>
   rw[qBu]at h;subst h;simp;omega
  | some r=>
   have:=h2 r h;have:=hne r h;simp only[qyY,qzH];omega
 unfold QM
 cases h:out.getLast? with
 |none=>exact new fun r hr=>by rw[h]at hr;cases hr
 | some r=>
  simp only;have h3:=h2 r h;split
  . rename_i he;obtain⟨l,rfl⟩:=qBv.1 h;rw[List.dropLast_concat];refine⟨fun x hx=>?_,(r.1,n),by simp,rfl,?_⟩
    . rcases qy0.1 hx with hx|hx
      . exact h1 x (by simp[hx])
      . simp only[qy9,qAd,or_false]at hx;subst hx;exact⟨(h1 r (by simp)).1,hn⟩
    simp only[qyK,qyY,qzH]at h3⊢;omega
  rename_i he;exact new fun x hx=>by rw[h]at hx;cases hx;exact he
def qbC:∀{l:List Int}{out:List Rg}{N:Int},l.Pairwise (· < ·)->(∀x∈l,0<=x/\x<=65535/\x<N)->(∀r∈out,qkk r)->(∀r,out.getLast?=some r->r.2<N/\2*(out.length:Int)<=r.2+2/\∀x∈l,r.2<x) ->
 (∀r∈l.foldl QM out,qkk r)/\∀r,(l.foldl QM out).getLast?=some r->r.2<N/\2*((l.foldl QM out).length:Int)<=r.2+2
 |[],out,N,_,_,h1,h2=>⟨h1,fun r hr=>⟨(h2 r hr).1,(h2 r hr).2.1⟩⟩
 | x::l,out,N,hp,hx,h1,h2=>by
  rw[qzm];obtain⟨hp1,hp2⟩:=List.pairwise_cons.1 hp;have hx0:=hx x (by simp);obtain⟨a1,r,a2,a3,a4⟩:=qm8 (n:=x) ⟨hx0.1,hx0.2.1⟩ h1 (fun r hr=>⟨(h2 r hr).2.2 x (by simp),(h2 r hr).2.1⟩);refine qbC hp2 (fun y hy=>hx y (by simp[hy])) a1 fun r' hr'=>?_
  rw[a2]at hr';cases hr';exact⟨by omega,by omega,fun y hy=>by rw[a3];exact hp1 y hy⟩
def qcC{l N}(hp:l.Pairwise (· < ·))(hx:∀x∈l,0<=x/\x<=65535/\x<N)(hN:0<=N):(∀r∈qcD l,qkk r)/\2*((qcD l).length:Int)<=N+1:=by
 have:=qbC (out:=[]) hp hx (fun r h=>by cases h) (fun r h=>by cases h);refine⟨this.1,?_⟩
 cases h:(qcD l).getLast? with
 |none=>rw[qBu]at h;rw[h];simp;omega
 |some r=>have:=this.2 r h;show 2*((l.foldl QM []).length:Int)<=_;omega
def qcu(v l):(qca v l).Pairwise (· < ·)/\∀x∈qca v l,0<=x/\x<(z7 v:Nat):=by
 unfold qca;refine⟨List.Pairwise.filter _ ?_,fun x hx=>?_⟩
 . rw[qBK];exact List.pairwise_lt_range.imp fun h=>by omega
 obtain⟨hx,_⟩:=qBN.1 hx;obtain⟨n,hn,rfl⟩:=qza.1 hx;have:=qzP.1 hn;omega
def W0{v}(h:v.width<=8):z7 v<=256:=by
 unfold z7;have:v.width.toNat<=8:=by omega
 calc 2^v.width.toNat<=2^8:=qzc (by omega) this
  _=256:=rfl
def qfs{vs}(hv:∀v∈vs,jK v=0)(d):zi vs (JH vs d)=0:=by
 unfold JH;split
 . rename_i v h;have hm:=qyG h;have h1:=zc (hv v hm);have h2:=qcu v d.weights;have h3:=W0 h1.2.2;have h4:=qcC (N:=(z7 v:Nat)) h2.1 (fun x hx=>by have:=h2.2 x hx;omega) (by omega);exact qas h1.1 (by omega) h4.1 (by unfold vK;rw[qy8];exact⟨v,hm,by simp⟩)
 exact Wl (by omega) (by omega) vs
def qeG:∀(l:List Ex) (i) (a),l[i]?=some a->((l.flatMap qt).drop (i*4)).take 4=qt a/\i*4+4<=(l.flatMap qt).length
 |[],i,a,h=>by simp at h
 | x::r,0,a,h=>by
  simp at h;subst h;rw[qy5,qAl,qzX,qzL (by rw[zh];omega),qyN (by rw[zh];omega),qyK,zh];exact⟨rfl,by omega⟩
 | x::r,i+1,a,h=>by
  have ih:=qeG r i a (by simpa using h);rw[qy5,qAy,zh,qzf (by rw[zh];omega),qy2,show(i+1)*4-4=i*4 by omega,qyK,zh];exact⟨ih.1,by omega⟩
def qiT:∀(l:List Ex) (i) (a),l[i]?=some a->zj (l.flatMap qt) (i*4) (qt a)=l.flatMap qt:=fun l i a h=>by
 have hi:=(qyF.1 h).1;rw[vX (sz:=4) zh l i a hi];have:l.set i a=l:=by
  obtain⟨_,rfl⟩:=qyF.1 h;exact List.set_getElem_self hi
 rw[this]
def qd2{e a}(h:a∈e.args):(pre a).length<=(pre e).length:=by
 rw[ju e,qyY];have:∀l:List Ex,a∈l->(pre a).length<=(kK l).length:=by
  intro l
  induction l with
  |nil=>intro h;cases h
  | cons x r ih=>
   intro h;rw[ya,qyK];rcases qy9.1 h with rfl|h
   . omega
   have:=ih h;omega
 have:=this _ h;omega
def qeX(e):e.args.length<=(pre e).length:=by
 rw[ju e,qyY];have:∀l:List Ex,l.length<=(kK l).length:=by
  intro l
  induction l with
  |nil=>simp
  |cons x r ih=>rw[ya,qyK,ju x];simp;omega
 have:=this e.args;omega
def qjk:∀e,(pre e).length<=100000->Pure prog GG 55 [.agg (qt e)] (.agg (qt e)):=by
 refine qDa fun e ih hs=>?_
 have hal:=qeX e;refine qCK o0 true qe func55 rfl (by kernel_rfl) ?_;have hE:=qd e;by_cases h0:e.args=[]
 . rw[h0]at hE;rw[hE];simp[qz,yJ,qaa];refine qCR (fun n ev U=>ev 1=.ptr 0 0/\ev 2=.ptr 1 0/\ev 3=.sl 4 [] (.chain 0 0)/\ev 14=.int .i64 0/\ev 15=.int .i64 0/\∃T,U=⟨[.cells [.int .i64 e.op,.int .i64 e.n,.str e.name,.sl 4 [] .none],.cells [.int .i64 0,.int .i64 0,.str [],.sl 0 [] .nil]],T⟩) 0 ?_ ?_
   . exact⟨by simp,by simp,by simp,by simp,by simp,_,rfl⟩
   rintro n ev U R hR ⟨e1,e2,e3,e14,e15,T,rfl⟩;simp[e1,e2,e3,e14,e15];have hfc:∀H,frz H 7 (.sl 4 [] (.chain 0 0))=.sl 4 [] .none:=fun H=>by rw[frz];simp[zb]
   rw[frz];simp[zb,qx,ZK,qiF,hfc,zq]
 have hpos:=qyZ.2 h0;have hne:¬(e.args.length:Int)=0:=by omega
 have hb:e.args.length<=549755813888:=by omega
 have hz:((List.replicate e.args.length [AV.int .i64 0,.int .i64 0,.str [],.sl 0 [] .nil]).flatten).length=e.args.length*4:=by simp
 have hput:=putAt_all ((List.replicate e.args.length [AV.int .i64 0,.int .i64 0,.str [],.sl 0 [] .nil]).flatten) (e.args.flatMap qt) (by rw[hz,jf (sz:=4) zh e.args]);have hcp:∀B0 B1:Blk,yJ (Dof prog) ⟨[B0,B1,.cells (List.replicate e.args.length [AV.int .i64 0,.int .i64 0,.str [],.sl 0 [] .nil]).flatten],[]⟩ 23 (.ms 2 0 e.args.length 4) (.sl 4 (e.args.map qt) .none)=some (.int .i64 e.args.length,⟨[B0,B1,.cells (e.args.flatMap qt)],[]⟩):=fun B0 B1=>by
  have hz':=hz;generalize (List.replicate e.args.length [AV.int .i64 0,.int .i64 0,.str [],.sl 0 [] .nil]).flatten=Z at *;simp[yJ,qaa,qnw,show(e.args.map qt).flatten=e.args.flatMap qt by rw[qAv],hput,hz',show(e.args.map qt).take e.args.length=e.args.map qt from qyN (by simp),h0]
 have hat:=qeG e.args;have hpt:=qiT e.args;rw[hE];generalize hZ:(List.replicate e.args.length [AV.int .i64 0,.int .i64 0,.str [],.sl 0 [] .nil]).flatten=Z at *;generalize hFE:e.args.flatMap qt=FE at *;simp[qz,h0,show(e.args.length:Int)<=549755813888 by omega,hZ,hcp];refine qC2 e.args (fun d ev U=>ev 1=.ptr 0 0/\ev 2=.ptr 1 0/\ev 3=.ms 2 0 e.args.length 4/\ev 14=.int .i64 e.args.length/\ev 15=.int .i64 d.length/\U=⟨[.cells [.int .i64 e.op,.int .i64 e.n,.str e.name,.sl 4 (e.args.map qt) .none],.cells [.int .i64 0,.int .i64 0,.str [],.sl 0 [] .nil],.cells FE],[]⟩) ?_ ?_ ?_
 . exact⟨by simp,by simp⟩
 . rintro d a rest ev U R hR hd hx hlt ⟨e1,e2,e3,e14,e15,rfl⟩;have hm:=qyG hx;have hia:=ih a hm (by have:=qd2 hm;omega);have hw:=wr (n:=(d.length:Int)+1) (by omega) (by omega);obtain⟨ht,hle⟩:=hat d.length a hx;have hp:=hpt d.length a hx;have ha2:=wb a;have hl4:=zh a;have hnr:=nrE a;generalize qt a=W at *;simp[-qW,e3,e14,e15,hlt,ht,hle];refine qCO hia (by simp[qx,hnr]) ?_;simp[-qW,ha2,hl4,hp,hle,e15,hlt,hw];exact hR _ _ ⟨by simp[e1],by simp[e2],by simp[e3],by simp[e14],by simp⟩
 rintro ev U ⟨e1,e2,e3,e14,e15,rfl⟩;simp[e1,e2,e3,e14,e15];have ho:jr 2 4 qt [Blk.cells [AV.int .i64 e.op,.int .i64 e.n,.str e.name,.ms 2 0 e.args.length 4],.cells [.int .i64 e.op,.int .i64 e.n,.str e.name,.ms 2 0 e.args.length 4],.cells FE] (.ms 2 0 e.args.length 4) e.args:=.inr ⟨h0,rfl,by rw[hFE];rfl⟩;have f1:=ho.frz zh (fun x=>nrE x) yA 6;have f2:=ho.frzNo zh (fun x=>nrE x) yA 6;rw[frz,if_neg (by simp[zb,qx])];simp only[qyR,qzj,ZK,qiF,zb,qx,Leq,zq,qAG,qzN,and_true,true_and];exact⟨f2,f1⟩
def inR(v:Int)(r:Rg):Bool:=decide (r.1<=v)&&decide (v<=r.2)
def qoe(b):(b2i b≠0)↔b=true:=by cases b<;>simp[b2i]
def qg2(env n):yG env (jL n)=n:=by rw[yH];simp[jL,QB]
def qkA(env s):yG env (wY s)=(jD env s).getD 0:=by rw[yH];simp[wY,QB]
def qrP(env a b):(yG env (orE a b)≠0)↔(yG env a≠0\/yG env b≠0):=by
 rw[yH];have:QB env (orE a b).op (orE a b).n (orE a b).name ((orE a b).args.map (yG env))=b2i (!decide (yG env a=0)||!decide (yG env b=0)):=by
  simp[orE,QB,opW,yK]
 rw[this,qoe];simp
def YS(v):∀(l:List Rg),jJ v (l.flatMap fun r=>[r.1,r.2])=l.any (inR v)
 |[]=>rfl
 |r::l=>by rw[qy5];simp only[qy3,qy2,jJ,qAS,YS v l,inR]
def qdA(env):∀(l:List Rg),(l.flatMap fun r=>[jL r.1,jL r.2]).map (yG env)=l.flatMap fun r=>[r.1,r.2]
 |[]=>rfl
 |r::l=>by rw[qy5,qzE,qdA env l,qy5];simp[qg2]
def qg3(env s)(l:List Rg):(yG env (Qq s l)≠0)↔∃r∈l,inR ((jD env s).getD 0) r=true:=by
 rw[yH];have:QB env (Qq s l).op (Qq s l).n (Qq s l).name ((Qq s l).args.map (yG env))=b2i (l.any (inR ((jD env s).getD 0))):=by
  rw[<- YS,<- qdA env l];simp[Qq,QB,opW,qkA]
 rw[this,qoe,qy8]
def qaq(env s):∀(l:List (List Rg)) (out),(yG env (Zm s out l)≠0)↔(yG env out≠0\/∃c∈l,∃r∈c,inR ((jD env s).getD 0) r=true)
 |[],out=>by simp[Zm]
 | c::l,out=>by
  show(yG env (Zm s (orE out (Qq s c)) l)≠0)↔_;rw[qaq env s l,qrP,qg3];simp only[qy9,exists_eq_or_imp,or_assoc]
def Wg{α:Type}{n}(hn:0<n):∀(k) (l:List α),l.length<=k->(zX n k l).flatten=l
 | 0,l,h=>by
  have:l=[]:=qyX (by omega);subst this;rfl
 | k+1,l,h=>by
  unfold zX;split
  . rename_i h0;rw[h0];rfl
  rename_i h0;have:=qyZ.2 h0;rw[qzn,Wg hn k _ (by rw[qAU];omega),qzA]
def qg1(env s)(l:List Rg):(yG env (kF s l)≠0)↔∃r∈l,inR ((jD env s).getD 0) r=true:=by
 unfold kF;split
 . rename_i h;subst h;simp[qg2]
 rw[qaq,qg3];have h1:=Wg (n:=16) (by omega) l.length (l.drop 16) (by rw[qAU];omega);constructor
 . rintro(⟨r,hr,h⟩|⟨c,hc,r,hr,h⟩)
   . exact⟨r,qzy hr,h⟩
   . refine⟨r,qAj (i:=16) ?_,h⟩;rw[<- h1];exact qzl.2 ⟨c,hc,hr⟩
 rintro⟨r,hr,h⟩;rw[<- qzA 16 l]at hr;rcases qy0.1 hr with hr|hr
 . exact .inl ⟨r,hr,h⟩
 rw[<- h1]at hr;obtain⟨c,hc,hr⟩:=qzl.1 hr;exact .inr ⟨c,hc,r,hr,h⟩
def qkU(v):∀(l),(∃r∈qcD l,inR v r=true)↔v∈l:=by
 have key:∀(l:List Int) (out:List Rg),(∀r∈out,r.1<=r.2)->((∃r∈l.foldl QM out,inR v r=true)↔((∃r∈out,inR v r=true)\/v∈l)):=by
  intro l
  induction l with
  |nil=>intro out _;simp
  | cons n l ih=>
   intro out ho;rw[qzm];have hs:(∀r∈QM out n,r.1<=r.2)/\((∃r∈QM out n,inR v r=true)↔((∃r∈out,inR v r=true)\/v=n)):=by
    unfold QM;split
    . rename_i r hr;obtain⟨pre,hp⟩:=qBv.1 hr;subst hp;have hr2:=ho r (by simp);split
      . rename_i hn;rw[List.dropLast_concat];refine⟨fun q hq=>?_,?_⟩
        . rcases qy0.1 hq with hq|hq
          . exact ho q (by simp[hq])
          . have:=qzh.1 hq;subst this;dsimp only;omega
        simp only[qy0,qzh,inR,qyJ,decide_eq_true_eq];constructor
        . rintro⟨q,hq|rfl,h⟩
          . exact .inl ⟨q,.inl hq,h⟩
          . dsimp only at h;by_cases hv:v=n
            . exact .inr hv
            exact .inl ⟨r,.inr rfl,by omega⟩
        rintro(⟨q,hq|rfl,h⟩|rfl)
        . exact⟨q,.inl hq,h⟩
        . exact⟨_,.inr rfl,by dsimp only;omega⟩
        exact⟨_,.inr rfl,by dsimp only;omega⟩
      refine⟨fun q hq=>?_,?_⟩
      . rcases qy0.1 hq with hq|hq
        . exact ho q hq
        . have:=qzh.1 hq;subst this;exact qBY _
      simp only[qy0,qzh,inR,qyJ,decide_eq_true_eq];constructor
      . rintro⟨q,hq|rfl,h⟩
        . exact .inl ⟨q,hq,h⟩
        . exact .inr (by dsimp only at h;omega)
      rintro(⟨q,hq,h⟩|rfl)
      . exact⟨q,.inl hq,h⟩
      exact⟨_,.inr rfl,by dsimp only;omega⟩
    refine⟨fun q hq=>?_,?_⟩
    . rcases qy0.1 hq with hq|hq
      . exact ho q hq
      . have:=qzh.1 hq;subst this;exact qBY _
    simp only[qy0,qzh,inR,qyJ,decide_eq_true_eq];constructor
    . rintro⟨q,hq|rfl,h⟩
      . exact .inl ⟨q,hq,h⟩
      . exact .inr (by dsimp only at h;omega)
    rintro(⟨q,hq,h⟩|rfl)
    . exact⟨q,.inl hq,h⟩
    exact⟨_,.inr rfl,by dsimp only;omega⟩
   rw[ih _ hs.1,hs.2];simp only[qy9,or_assoc]
 intro l;have:=key l [] (by simp);simpa[qcD] using this
def qfm(env s l):(yG env (kF s (qcD l))≠0)↔(jD env s).getD 0∈l:=by
 rw[qg1,qkU]
