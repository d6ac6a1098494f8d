import Derived.Test.YtimecmegnocamaaGreatDoorPq14
import Derived.Test.YtimecmegnocamaaGreatDoorPq16
import Derived.Test.YtimecmegnocamaaGreatDoorPq11
set_option maxHeartbeats 16000000
set_option maxRecDepth 100000
set_option linter.all false
set_option linter.defProp false
namespace Go.Proofs.YtimecmegnocamaaGreatDoor
open Go Go.Abs Tryz
def oM:Opts:=⟨true,[],[],[]⟩
@[simp]def qzT:oM.mu=true:=rfl
@[simp]def qzU:oM.lw=[]:=rfl
def qso(n:Nat)(hn:n<=1000000)(U:St):qj prog GG 256 [.sl 0 [] .nil,.int .i64 n] U (fun r U'=>(n=0/\r=.sl 0 [] .nil/\U'=U)\/(0<n/\r=.ms U.H.length 0 0 4/\∃c,U'=U.push (.cells c))):=by
 refine qj.vcO oM qg func256 rfl (by kernel_rfl) ?_;have w0:IntKind.i64.wrap 0=0:=by decide
 by_cases h0:n=0
 . subst h0;simp[qtQ,w0]
 have h2:(0:Int)<n:=by omega
 simp[qtQ,show ¬(n:Int)<0 by omega,show IntKind.i64.wrap (n:Int)=n from wr (by omega) (by omega),w0,show 0<n by omega,show(n:Int)<=549755813888 by omega,zk,zR,yT,zT,zx,ja,qV]
def CR(T R:List Ex)(v:AV)(U:St):Prop:=(T=[]/\v=.sl 0 [] .nil)\/∃b c,v=.ms b 0 R.length 4/\U.H[b]?=some (.cells c)/\R.length*4<=c.length/\c.take (R.length*4)=(R.map qt).flatten
@[simp]def qa5(e):(qt e).length=4:=by rw[qc];rfl
def Wd:∀(l:List Ex),((l.map qt).flatten).length=l.length*4
 |[]=>rfl
 |a::r=>by simp only[qA7,qBI,qAY,qa5,Wd r,qBc];omega
def Wz:∀(R:List Ex) (c),R.length*4<=c.length->c.take (R.length*4)=(R.map qt).flatten->wL 4 R.length c=R.map qt
 |[],c,_,_=>rfl
 | a::r,c,hl,h=>by
  have e1:c.take 4=qt a:=by
   have:=congrArg (List.take 4) h;rw[qEq,qA7,qBI,List.take_left' (qa5 a)]at this;rw[<- this];congr 1;simp only[qBc];omega
  have e2:(c.drop 4).take (r.length*4)=(r.map qt).flatten:=by
   have:=congrArg (List.drop 4) h;rw[qA7,qBI,List.drop_left' (qa5 a),qE5]at this;rw[<- this];congr 1;simp only[qBc];omega
  rw[qBc,wL,e1,Wz r (c.drop 4) (by simp only[qCM,qBc]at hl⊢;omega) e2,qA7]
def qdy{T R X b c U}(hb:U.H[b]?=some (.cells c))(hl:R.length*4<=c.length)(h:c.take (R.length*4)=(R.map qt).flatten)(hR:R.length+X.length<=1000000):
 ∃v' U',zx (Dof prog) U 23 23 (.ms b 0 R.length 4) (.sl 4 (X.map qt) .none)=some (v',U')/\CR T (R++X) v' U':=by
 cases X with
 | nil=>
  refine⟨.ms b 0 R.length 4,U,?_,.inr ⟨b,c,by simp,hb,by simpa using hl,by simpa using h⟩⟩;simp[zx,ja,qV,Kc]
 | cons x X=>
  refine⟨.ms U.H.length 0 (R.length+(X.length+1)) 4,{U with H:=U.H.set b .dead++[.cells (c.take (R.length*4)++((x::X).map qt).flatten)]},?_,.inr ⟨U.H.length,c.take (R.length*4)++((x::X).map qt).flatten,by simp,by simp,?_,?_⟩⟩
  . have h1:R.length+(X.length+1)<=549755813888:=(by simp at hR;omega);simp[*,zx,ja,qV,Kc]
  . rw[h];simp only[qAY,Wd];omega
  rw[h,qAZ (by simp only[qAY,Wd];omega),qBV,qCW]
def qlr(h s:List Ex)(hh:h.length<=10000)(hs:s.length<=10000):Pure prog GG 175 [.sl 1 [[.sl 4 (h.map qt) .none],[.sl 4 (s.map qt) .none]] .none] (.sl 4 ((h++s).map qt) .none):=by
 refine Pure.vcO oM false qg func175 rfl (by kernel_rfl) ?_;have wi:IntKind.i64.wrap 1=1:=by decide
 have wi2:IntKind.i64.wrap 2=2:=by decide
 simp;refine qFM (fun n env U=>∃i:Nat,i<=2/\n=2-i/\env 0=.sl 1 [[.sl 4 (h.map qt) .none],[.sl 4 (s.map qt) .none]] .none/\env 3=.int .i64 (if i=0 then 0 else if i=1 then h.length else h.length+s.length)/\env 9=.sl 1 [[.sl 4 (h.map qt) .none],[.sl 4 (s.map qt) .none]] .none/\env 10=.int .i64 2/\env 11=.int .i64 i/\U=⟨[],[]⟩) 2 ⟨0,by simp⟩ ?_;rintro n env U ⟨i,hi,rfl,h0,h3,h9,h10,h11,rfl⟩;have hcase:i=0\/i=1\/i=2:=by omega
 rcases hcase with rfl|rfl|rfl
 . simp[*,show IntKind.i64.wrap (h.length:Int)=h.length from wr (by omega) (by omega),show ¬(h.length:Int)<0 by omega];exact⟨1,by omega,1,by omega,rfl,rfl,rfl⟩
 . simp[*,show IntKind.i64.wrap ((h.length:Int)+s.length)=h.length+s.length from wr (by omega) (by omega),show ¬(h.length:Int)+s.length<0 by omega];exact⟨2,by omega,by omega,rfl,rfl⟩
 have hN:((h.length:Int)+s.length)=((h.length+s.length:Nat):Int):=by omega
 simp[h0,h3,h9,h10,h11];rw[hN];refine qFD (qso (h.length+s.length) (by omega) ⟨[],[]⟩) ?_;intro r U' hr;have hcr:CR (h++s) [] r U':=by
  rcases hr with⟨h1,h2,h3⟩|⟨h1,h2,c,h3⟩
  . exact .inl ⟨qA6 (by rwa[qAY]),h2⟩
  subst h3;exact .inr ⟨0,c,h2,by simp⟩
 refine qFM (fun n env U=>∃i:Nat,i<=2/\n=2-i/\env 25=.sl 1 [[.sl 4 (h.map qt) .none],[.sl 4 (s.map qt) .none]] .none/\env 26=.int .i64 2/\env 27=.int .i64 i/\CR (h++s) (if i=0 then [] else if i=1 then h else h++s) (env 6) U) 2 ⟨0,by simp[];exact hcr⟩ ?_;rintro n env U ⟨i,hi,rfl,h25,h26,h27,hcr⟩;have hcase:i=0\/i=1\/i=2:=by omega
 rcases hcase with rfl|rfl|rfl
 . simp at hcr;rcases hcr with⟨ht,h6⟩|⟨b,c,h6,hb,hl,hc⟩
   . simp at ht;obtain⟨rfl,rfl⟩:=ht;simp[*,zx,ja,qq,qV,Kc,za];exact⟨1,by omega,1,by omega,rfl,rfl,.inl ⟨rfl,rfl⟩⟩
   obtain⟨v',U',e1,e2⟩:=qdy (T:=h++s) (X:=h) hb hl hc (by simp;omega);simp at h6 e1;simp[*];exact⟨1,by omega,1,by omega,rfl,rfl,by simpa using e2⟩
 . simp at hcr;rcases hcr with⟨ht,h6⟩|⟨b,c,h6,hb,hl,hc⟩
   . simp at ht;obtain⟨rfl,rfl⟩:=ht;simp[*,zx,ja,qq,qV,Kc,za];exact⟨2,by omega,by omega,rfl,.inl ⟨rfl,rfl⟩⟩
   obtain⟨v',U',e1,e2⟩:=qdy (T:=h++s) (X:=s) hb hl hc (by omega);simp[*];exact⟨2,by omega,by omega,rfl,by simpa using e2⟩
 simp at hcr;rcases hcr with⟨ht,h6⟩|⟨b,c,h6,hb,hl,hc⟩
 . simp at ht;obtain⟨rfl,rfl⟩:=ht;simp[*]
 have hk:=Wz (h++s) c hl hc;simp at hk hl;rw[qAY]at h6;simp[*,WX]
def qid(p:Problem)(s:Str)(hl:Fits p.vars):Pure prog GG 179 [.str s,.rptr (qA p)] (.bool (!Qn p.vars s)):=by
 refine qFP qg func179 rfl (by kernel_rfl) ?_;simp;refine qFz (index GG p.vars s hl) (by simp) ?_;have:=Qq (fun v:Var=>v.name==s) p.vars;simp[this,Qn]
def qsK(p)(hl:Fits p.vars)(hh:p.hard.length<=10000)(hs:p.soft.length<=10000)(hw:∀e∈p.hard++p.soft,Wen e/\hgt e<=1000/\(pre e).length<=100000):
 Pure prog GG 122 [.agg (qA p)] (.int .i64 (qY (zB p.vars) (p.hard++p.soft))):=by
 refine qFP qg func122 rfl (by kernel_rfl) ?_;simp[qi,qp];obtain⟨L,hL⟩:∃L,L=p.hard++p.soft:=⟨_,rfl⟩;have hlen:L.length<=20000:=by rw[hL,qAY];omega
 refine qFA (qlr p.hard p.soft hh hs) (by simp) (by simp[Leq]) ?_;rw[<- hL]at hw⊢;simp;refine qFM (fun n env U=>∃i tail,i<=L.length/\n=L.length-i/\env 1=.ptr 0 0/\env 11=.sl 4 (L.map qt) .none/\env 12=.int .i64 L.length/\env 13=.int .i64 i/\U=⟨.cells (qA p)::tail,[]⟩/\∀e∈L.take i,zB p.vars e=0) L.length ⟨0,[],by simp⟩ ?_;rintro n env U ⟨i,tail,hi,rfl,h1,h11,h12,h13,rfl,hz⟩
 cases hv:L[i]? with
 | some e=>
  obtain⟨hc,hv'⟩:=qAU.1 hv;have hm:=qAV hv;obtain⟨hwe,hh1,hp1⟩:=hw e hm;have bad:zB p.vars e≠0->qY (zB p.vars) L=zB p.vars e:=fun h=>k0 hv hz h
  simp[h11,h12,h13,hc,hv',qc e,qBx];rw[<- qc e];refine qFz (Y4 e hwe (by omega)) (by simp) ?_;by_cases h0:zp e=0
  . simp[h0,qc e];rw[<- qc e];refine qFz (QA e hwe hp1) (by simp) ?_;have hab:=QW (e:=e);cases ha:Ye e
    . rw[ha]at hab;have hlz:(zQ [3,24] e).length=0:=(by have:=of_decide_eq_false hab;omega);have hnil:=qA6 hlz;simp[hnil,h1,qc e];rw[<- qc e];refine qFz (ZT e hwe hp1) (by simp) ?_
      try simp[h1,h11,h12,h13]
      have hfn:Fits (zQ [2] e):=by
       have:∀(l:List Ex) (s:List Str),(l.foldl (WJ [2]) s).length<=s.length+l.length:=by
        intro l
        induction l with
        |nil=>intro s;simp
        |cons a r ih=>intro s;have:=ih (WJ [2] s a);have:=vJ (ops:=[2]) (s:=s) (e:=a);simp only[qBw,qBc];omega
       have:=this (pre e) [];simp only[Fits,zQ,qB8]at this⊢;omega
      refine qa.lent (Ww GG (zQ [2] e) (fun s=>!Qn p.vars s) 179 [] [.rptr (qA p)] hfn rfl (by simp) fun s _=>qid p s hl) rfl ?_ ?_
      . simp[frz]
      rw[QN];cases hf:Zm p.vars e
      . have x:zB p.vars e=0:=(by simp only[zB,h0,ha,hf];rfl);simp[h1,h11,h12,h13];exact⟨_,by omega,i+1,by omega,rfl,wr (by omega) (by omega),q9 hv hz x⟩
      have x:zB p.vars e=7:=(by simp only[zB,h0,ha,hf];rfl);rw[bad (by rw[x];decide),x];simp
    rw[ha]at hab;have x:zB p.vars e=9:=(by simp only[zB,h0,ha];rfl);rw[bad (by rw[x];decide),x];simp[of_decide_eq_true hab]
  have x:zB p.vars e=zp e:=by simp only[zB];rw[if_pos h0]
  rw[bad (by rwa[x]),x];simp[h0]
 | none=>
  have hc:¬i<L.length:=by simp at hv;omega
  rw[show L.take i=L from qAZ (by omega)]at hz;rw[zF.2 hz];simp[h11,h12,h13,hc]
abbrev Rg:=Int×Int
@[simp]def wa(r:Rg):List AV:=[.int .i64 r.1,.int .i64 r.2]
def vI(out:List Rg)(n:Int):List Rg:=match out.getLast? with
 |some r=>if r.2=n-1 then out.dropLast++[(r.1,n)] else out++[(n,n)]
 |none=>out++[(n,n)]
def QH(l:List Int):List Rg:=l.foldl vI []
def jE(n:Int):Ex:=.mk 1 n [] []
def wN(s:Str):Ex:=.mk 2 0 s []
def Ql(s:Str)(l:List Rg):Ex:=.mk 23 0 [] (wN s::l.flatMap fun r=>[jE r.1,jE r.2])
def orE(a b:Ex):Ex:=.mk 20 0 [] [a,b]
def z6{α:Type}(n:Nat):Nat->List α->List (List α)
 |0,_=>[]
 |k+1,l=>if l=[] then [] else l.take n::z6 n k (l.drop n)
def Qx(s:Str)(out:Ex)(l:List (List Rg)):Ex:=l.foldl (fun o c=>orE o (Ql s c)) out
def kf(s:Str)(l:List Rg):Ex:=if l=[] then jE 0 else Qx s (Ql s (l.take 16)) (z6 16 l.length (l.drop 16))
def inW(n:Int)(w:Weight):Bool:=decide (w.lo<=n)&&decide (n<=w.hi)
def vO(l:List Weight)(n:Int):Bool:=match l.find? (inW n) with
 |some w=>decide (0<w.weight)
 |none=>false
def Zz(v:Var)(l:List Weight):List Int:=((List.range (zU v)).map fun n:Nat=>(n:Int)).filter (vO l)
def vM(vs:List Var)(d:Dist):Ex:=match vs[d.var.toNat]? with
 |some v=>kf v.name (QH (Zz v d.weights))
 |none=>jE 0
def wk(p:Problem):List Ex:=p.dists.map (vM p.vars)
def qes(p:Problem):List Ex:=p.hard++wk p
noncomputable def yu(vs:List Var)(rules:List Ex):List (Int×Ex)->List (Int×Ex)
 |[]=>[]
 |x::r=>if jQ vs (rules++[x.2]) then x::yu vs (rules++[x.2]) r else yu vs rules r
def Zj(l:List Ex):List (Int×Ex):=(l.zipIdx.map fun q=>((q.2:Int),q.1)).reverse
noncomputable def Zk(p:Problem):List (Int×Ex):=(yu p.vars (qes p) (Zj p.soft)).reverse
noncomputable def qjE(p:Problem):List Ex:=qes p++(Zk p).map (·.2)
def qaD{n}(h0:0<=n)(h1:n<=65535):qv (jE n)=0:=by
 simp[qv,jE,qm,zE,Ex.op,Ex.n,Ex.name,Ex.args];omega
def qi2{s}(h:wg s=true):qv (wN s)=0:=by
 simp[qv,wN,qm,zE,Ex.op,Ex.n,Ex.name,Ex.args,h]
def ZP(n):pre (jE n)=[jE n]:=by simp[jC,jE]
def qfJ(s):pre (wN s)=[wN s]:=by simp[jC,wN]
def qcj:∀(l:List Rg),wv (l.flatMap fun r=>[jE r.1,jE r.2])=l.flatMap fun r=>[jE r.1,jE r.2]
 |[]=>rfl
 |r::l=>by rw[qBm,vo,qcj l];simp[ZP]
def qfK(s)(l:List Rg):pre (Ql s l)=Ql s l::wN s::l.flatMap fun r=>[jE r.1,jE r.2]:=by
 rw[jC];show Ql s l::wv (wN s::_)=_;rw[kh,qfJ,qcj];rfl
def qaB:∀(l:List Rg),(l.flatMap fun r=>[jE r.1,jE r.2]).length=2*l.length
 |[]=>rfl
 |r::l=>by rw[qBm,qAY,qaB l];simp;omega
def qmp(r:Rg):Prop:=(0<=r.1/\r.1<=65535)/\0<=r.2/\r.2<=65535
structure EOk(s h m e):Prop where
 nodes:∀x∈pre e,qv x=0/\x.op≠3/\x.op≠24/\(x.op=2->x.name=s)
 hgt:hgt e<=h
 size:(pre e).length<=m
def EOk.ins{s}(hs:wg s=true){l:List Rg}(hl:l≠[])(hn:l.length<=16)(hr:∀r∈l,qmp r):EOk s 2 34 (Ql s l):=by
 have hlen:=qaB l;have hpos:=qBf.2 hl;refine⟨fun x hx=>?_,?_,?_⟩
 . rw[qfK]at hx;rcases qBt.1 hx with rfl|hx
   . refine⟨?_,by simp[Ql,Ex.op],by simp[Ql,Ex.op],by simp[Ql,Ex.op]⟩;unfold qv qm;simp only[Ql,qFi,Ex.n_mk,qFj,qFk,qBc,hlen];have h1:(2*l.length+1)%2=1:=(by omega);have h2:3<=2*l.length+1:=(by omega);simp[*,show 2*l.length+1<=33 by omega]
   rcases qBt.1 hx with rfl|hx
   . exact⟨qi2 hs,by simp[wN,Ex.op],by simp[wN,Ex.op],fun _=>rfl⟩
   obtain⟨r,hr1,hx⟩:=qEO.1 hx;have:=hr r hr1;simp at hx;rcases hx with rfl|rfl
   . exact⟨qaD this.1.1 this.1.2,by simp[jE,Ex.op],by simp[jE,Ex.op],by simp[jE,Ex.op]⟩
   exact⟨qaD this.2.1 this.2.2,by simp[jE,Ex.op],by simp[jE,Ex.op],by simp[jE,Ex.op]⟩
 . rw[wC];have:Jh (Ql s l).args<=1:=by
    show Jh (wN s::_)<=1;rw[K8];have h1:Go.Proofs.YtimecmegnocamaaGreatDoor.hgt (wN s)=1:=(by simp[wC,wN]);have h2:Jh (l.flatMap fun r=>[jE r.1,jE r.2])<=1:=by
     clear hlen hpos hl hn hr h1
     induction l with
     |nil=>simp
     | cons r l ih=>
      rw[qBm];simp;have:∀n,Go.Proofs.YtimecmegnocamaaGreatDoor.hgt (jE n)=1:=fun n=>by simp[wC,jE]
      rw[this,this];omega
    omega
   omega
 rw[qfK,qBc,qBc,hlen];omega
def EOk.or{s h h' m m' a b}(ha:EOk s h m a)(hb:EOk s h' m' b):EOk s (max h h'+1) (m+m'+1) (orE a b):=by
 have hp:pre (orE a b)=orE a b::(pre a++pre b):=by rw[jC];simp[orE]
 refine⟨fun x hx=>?_,?_,?_⟩
 . rw[hp]at hx;rcases qBt.1 hx with rfl|hx
   . refine⟨?_,by simp[orE,Ex.op],by simp[orE,Ex.op],by simp[orE,Ex.op]⟩;simp[qv,orE,qm,zE,Ex.op,Ex.n,Ex.name,Ex.args]
   rcases qBb.1 hx with hx|hx
   . exact ha.nodes x hx
   exact hb.nodes x hx
 . rw[wC];have:=ha.hgt;have:=hb.hgt;simp only[orE,qFk,K8,qoh];omega
 rw[hp,qBc,qAY];have:=ha.size;have:=hb.size;omega
def EOk.chain{s}(hs:wg s=true):∀(l:List (List Rg)){h m:Nat}{out:Ex},EOk s (h+2) m out->(∀c∈l,c≠[]/\c.length<=16/\∀r∈c,qmp r)->EOk s (h+2+l.length) (m+35*l.length) (Qx s out l)
 |[],h,m,out,ho,_=>ho
 | c::l,h,m,out,ho,hc=>by
  have h1:=hc c (by simp);have h2:=ho.or (EOk.ins hs h1.1 h1.2.1 h1.2.2);have h3:=EOk.chain hs l (h:=h+1) (m:=m+34+1) (out:=orE out (Ql s c)) (by
   have e:max (h+2) 2+1=h+1+2:=(by omega);rw[e]at h2;exact h2) (fun c hm=>hc c (by simp[hm]))
  have e1:h+2+(c::l).length=h+1+2+l.length:=by simp;omega
  have e2:m+35*(c::l).length=m+34+1+35*l.length:=by simp;omega
  rw[e1,e2];exact h3
def KC{α:Type}{n}(hn:0<n):∀(k) (l:List α),∀c∈z6 n k l,c≠[]/\c.length<=n/\∀x∈c,x∈l
 |0,_,c,h=>by cases h
 | k+1,l,c,h=>by
  unfold z6 at h;split at h
  . cases h
  rename_i hl;rcases qBt.1 h with rfl|h
  . have:=qBf.2 hl;refine⟨qBf.1 (by rw[qBG];omega),by rw[qBG];omega,fun x hx=>qBH hx⟩
  obtain⟨h1,h2,h3⟩:=KC hn k _ c h;exact⟨h1,h2,fun x hx=>qCp (h3 x hx)⟩
def KD{α:Type}{n}(hn:0<n):∀(k) (l:List α) (m),l.length<=m*n->(z6 n k l).length<=m
 |0,_,m,_=>by simp[z6]
 | k+1,l,m,h=>by
  unfold z6;split
  . simp
  rename_i hl;have:=qBf.2 hl
  cases m with
  |zero=>omega
  | succ m=>
   have:=KD hn k (l.drop n) m (by rw[qCM];rw[qDs]at h;omega);simp;omega
def EOk.valid{s e h m}(ho:EOk s h m e)(hh:h<=24)(hm:m<=400){vs}(hv:Qn vs s=true):zB vs e=0:=by
 have h2:zp e=0:=by
  unfold zp;have h3:=ho.hgt;have h4:=ho.size;rw[if_neg,show qY qv (pre e)=0 from zF.2 fun x hx=>(ho.nodes x hx).1];rintro⟨_,h|h⟩
  . omega
  rw[show WU e=(pre e).length by unfold WU;rw[wr (by omega) (by omega)]]at h;omega
 have h3:Ye e=false:=by
  unfold Ye;rw[qCv];intro x hx;have:=ho.nodes x hx;simp[this.2.1,this.2.2.1]
 have h4:Zm vs e=false:=by
  unfold Zm;rw[qCv];intro x hx;have:=(ho.nodes x hx).2.2.2;by_cases h:x.op=2
  . simp[*,this h]
  simp[h]
 unfold zB;simp[*]
def VE{n}(h0:0<=n)(h1:n<=65535)(vs):zB vs (jE n)=0:=by
 have hp:=ZP n;have h2:zp (jE n)=0:=by
  unfold zp WU;rw[hp];have:hgt (jE n)=1:=by simp[wC,jE]
  rw[this];simp[qY,qaD h0 h1];decide
 unfold zB;simp[h2,show Ye (jE n)=false by unfold Ye;rw[hp];simp[jE,Ex.op],show Zm vs (jE n)=false by unfold Zm;rw[hp];simp[jE,Ex.op]]
def qbN{s}(hs:wg s=true){l:List Rg}(hl:l.length<=128)(hr:∀r∈l,qmp r){vs}(hv:Qn vs s=true):zB vs (kf s l)=0:=by
 unfold kf;split
 . exact VE (by omega) (by omega) vs
 rename_i h0;have hpos:=qBf.2 h0;have h1:=EOk.ins hs (l:=l.take 16) (qBf.1 (by rw[qBG];omega)) (by rw[qBG];omega) (fun r h=>hr r (qBH h));have h2:=EOk.chain hs (z6 16 l.length (l.drop 16)) (h:=0) h1 (fun c hc=>by
  obtain⟨a,b,c'⟩:=KC (by omega) _ _ c hc;exact⟨a,b,fun r h=>hr r (qCp (c' r h))⟩)
 have h3:=KD (n:=16) (by omega) l.length (l.drop 16) 7 (by rw[qCM];omega);exact h2.valid (by omega) (by omega) hv
def qpe{out:List Rg}{n}(hn:0<=n/\n<=65535)(h1:∀r∈out,qmp r)(h2:∀r,out.getLast?=some r->r.2<n/\2*(out.length:Int)<=r.2+2):
 (∀r∈vI out n,qmp r)/\∃r,(vI out n).getLast?=some r/\r.2=n/\2*((vI out n).length:Int)<=n+2:=by
 have new:(∀r,out.getLast?=some r->¬r.2=n-1)->(∀r∈out++[(n,n)],qmp r)/\∃r,(out++[(n,n)]).getLast?=some r/\r.2=n/\2*((out++[(n,n)]).length:Int)<=n+2:=by
  intro hne;refine⟨fun r hr=>?_,(n,n),by simp,rfl,?_⟩
  . rcases qBb.1 hr with hr|hr
    . exact h1 r hr
    . simp at hr;subst hr;exact⟨hn,hn⟩
  rw[qAY]
  cases h:out.getLast? with
  | none=>
   rw[qDq]at h;subst h;simp;omega
  | some r=>
   have:=h2 r h;have:=hne r h;simp;omega
 unfold vI
 cases h:out.getLast? with
 |none=>exact new fun r hr=>by rw[h]at hr;cases hr
 | some r=>
  simp only;have h3:=h2 r h;split
  . rename_i he;obtain⟨l,rfl⟩:=qDr.1 h;rw[qEj];refine⟨fun x hx=>?_,(r.1,n),by simp,rfl,?_⟩
    . rcases qBb.1 hx with hx|hx
      . exact h1 x (by simp[hx])
      . simp at hx;subst hx;exact⟨(h1 r (by simp)).1,hn⟩
    simp at h3⊢;omega
  rename_i he;exact new fun x hx=>by rw[h]at hx;cases hx;exact he
def qc3:∀{l:List Int}{out:List Rg}{N:Int},l.Pairwise (· < ·)->(∀x∈l,0<=x/\x<=65535/\x<N)->(∀r∈out,qmp r)->(∀r,out.getLast?=some r->r.2<N/\2*(out.length:Int)<=r.2+2/\∀x∈l,r.2<x) ->
 (∀r∈l.foldl vI out,qmp r)/\∀r,(l.foldl vI out).getLast?=some r->r.2<N/\2*((l.foldl vI out).length:Int)<=r.2+2
 |[],out,N,_,_,h1,h2=>⟨h1,fun r hr=>⟨(h2 r hr).1,(h2 r hr).2.1⟩⟩
 | x::l,out,N,hp,hx,h1,h2=>by
  rw[qBw];obtain⟨hp1,hp2⟩:=qEz.1 hp;have hx0:=hx x (by simp);obtain⟨a1,r,a2,a3,a4⟩:=qpe (n:=x) ⟨hx0.1,hx0.2.1⟩ h1 (fun r hr=>⟨(h2 r hr).2.2 x (by simp),(h2 r hr).2.1⟩);refine qc3 hp2 (fun y hy=>hx y (by simp[hy])) a1 fun r' hr'=>?_
  rw[a2]at hr';cases hr';exact⟨by omega,by omega,fun y hy=>by rw[a3];exact hp1 y hy⟩
def qec{l N}(hp:l.Pairwise (· < ·))(hx:∀x∈l,0<=x/\x<=65535/\x<N)(hN:0<=N):(∀r∈QH l,qmp r)/\2*((QH l).length:Int)<=N+1:=by
 have:=qc3 (out:=[]) hp hx (fun r h=>by cases h) (fun r h=>by cases h);refine⟨this.1,?_⟩
 cases h:(QH l).getLast? with
 |none=>rw[qDq]at h;rw[h];simp;omega
 |some r=>have:=this.2 r h;show 2*((l.foldl vI []).length:Int)<=_;omega
def qam(v l):(Zz v l).Pairwise (· < ·)/\∀x∈Zz v l,0<=x/\x<(zU v:Nat):=by
 unfold Zz;refine⟨List.Pairwise.filter _ ?_,fun x hx=>?_⟩
 . rw[qD5];exact List.pairwise_lt_range.imp fun h=>by omega
 obtain⟨hx,_⟩:=qCc.1 hx;obtain⟨n,hn,rfl⟩:=qBj.1 hx;have:=qCd.1 hn;omega
def Yy{v}(h:v.width<=8):zU v<=256:=by
 unfold zU;have:v.width.toNat<=8:=by omega
 calc 2^v.width.toNat<=2^8:=qBn (by omega) this
  _=256:=rfl
def qho{vs}(hv:∀v∈vs,j4 v=0)(d):zB vs (vM vs d)=0:=by
 unfold vM;split
 . rename_i v h;have hm:=qAV h;have h1:=zi (hv v hm);have h2:=qam v d.weights;have h3:=Yy h1.2.2;have h4:=qec (N:=(zU v:Nat)) h2.1 (fun x hx=>by have:=h2.2 x hx;omega) (by omega);exact qbN h1.1 (by omega) h4.1 (by unfold Qn;rw[qBr];exact⟨v,hm,by simp⟩)
 exact VE (by omega) (by omega) vs
def qgw:∀(l:List Ex) (i) (a),l[i]?=some a->((l.flatMap qt).drop (i*4)).take 4=qt a/\i*4+4<=(l.flatMap qt).length
 |[],i,a,h=>by simp at h
 | x::r,0,a,h=>by
  simp at h;subst h;rw[qBm,qCK,qBZ,qB6 (by rw[zo];omega),qAZ (by rw[zo];omega),qAY,zo];exact⟨rfl,by omega⟩
 | x::r,i+1,a,h=>by
  have ih:=qgw r i a (by simpa using h);rw[qBm,qCN,zo,qBq (by rw[zo];omega),qBk,show(i+1)*4-4=i*4 by omega,qAY,zo];exact⟨ih.1,by omega⟩
def qk0:∀(l:List Ex) (i) (a),l[i]?=some a->zA (l.flatMap qt) (i*4) (qt a)=l.flatMap qt:=fun l i a h=>by
 have hi:=(qAU.1 h).1;rw[QI (sz:=4) zo l i a hi];have:l.set i a=l:=by
  obtain⟨_,rfl⟩:=qAU.1 h;exact List.set_getElem_self hi
 rw[this]
def qfL{e a}(h:a∈e.args):(pre a).length<=(pre e).length:=by
 rw[jC e,qBc];have:∀l:List Ex,a∈l->(pre a).length<=(wv l).length:=by
  intro l
  induction l with
  |nil=>intro h;cases h
  | cons x r ih=>
   intro h;rw[kh,qAY];rcases qBt.1 h with rfl|h
   . omega
   have:=ih h;omega
 have:=this _ h;omega
def qgP(e):e.args.length<=(pre e).length:=by
 rw[jC e,qBc];have:∀l:List Ex,l.length<=(wv l).length:=by
  intro l
  induction l with
  |nil=>simp
  |cons x r ih=>rw[kh,qAY,jC x];simp;omega
 have:=this e.args;omega
def qlq:∀e,(pre e).length<=100000->Pure prog GG 68 [.agg (qt e)] (.agg (qt e)):=by
 refine qFN fun e ih hs=>?_
 have hal:=qgP e;refine qFl o0 true qg func68 rfl (by kernel_rfl) ?_;have hE:=qc e;by_cases h0:e.args=[]
 . rw[h0]at hE;rw[hE];simp[qG,kq,qbu];refine qFu (fun n ev U=>ev 1=.ptr 0 0/\ev 2=.ptr 1 0/\ev 3=.sl 4 [] (.chain 0 0)/\ev 14=.int .i64 0/\ev 15=.int .i64 0/\∃T,U=⟨[.cells [.int .i64 e.op,.int .i64 e.n,.str e.name,.sl 4 [] .none],.cells [.int .i64 0,.int .i64 0,.str [],.sl 0 [] .nil]],T⟩) 0 ?_ ?_
   . exact⟨by simp,by simp,by simp,by simp,by simp,_,rfl⟩
   rintro n ev U R hR ⟨e1,e2,e3,e14,e15,T,rfl⟩;simp[e1,e2,e3,e14,e15];have hfc:∀H,frz H 7 (.sl 4 [] (.chain 0 0))=.sl 4 [] .none:=fun H=>by rw[frz];simp[qO]
   rw[frz];simp[qO,qw,Zl,qeD,hfc,zm]
 have hpos:=qBf.2 h0;have hne:¬(e.args.length:Int)=0:=by omega
 have hb:e.args.length<=549755813888:=by omega
 have hz:((List.replicate e.args.length [AV.int .i64 0,.int .i64 0,.str [],.sl 0 [] .nil]).flatten).length=e.args.length*4:=by simp
 have hput:=putAt_all ((List.replicate e.args.length [AV.int .i64 0,.int .i64 0,.str [],.sl 0 [] .nil]).flatten) (e.args.flatMap qt) (by rw[hz,ju (sz:=4) zo e.args]);have hcp:∀B0 B1:Blk,kq (Dof prog) ⟨[B0,B1,.cells (List.replicate e.args.length [AV.int .i64 0,.int .i64 0,.str [],.sl 0 [] .nil]).flatten],[]⟩ 23 (.ms 2 0 e.args.length 4) (.sl 4 (e.args.map qt) .none)=some (.int .i64 e.args.length,⟨[B0,B1,.cells (e.args.flatMap qt)],[]⟩):=fun B0 B1=>by
  have hz':=hz;generalize (List.replicate e.args.length [AV.int .i64 0,.int .i64 0,.str [],.sl 0 [] .nil]).flatten=Z at *;simp[kq,qbu,qpE,show(e.args.map qt).flatten=e.args.flatMap qt by rw[qCD],hput,hz',show(e.args.map qt).take e.args.length=e.args.map qt from qAZ (by simp),h0]
 have hat:=qgw e.args;have hpt:=qk0 e.args;rw[hE];generalize hZ:(List.replicate e.args.length [AV.int .i64 0,.int .i64 0,.str [],.sl 0 [] .nil]).flatten=Z at *;generalize hFE:e.args.flatMap qt=FE at *;simp[qG,h0,show(e.args.length:Int)<=549755813888 by omega,hZ,hcp];refine qFF e.args (fun d ev U=>ev 1=.ptr 0 0/\ev 2=.ptr 1 0/\ev 3=.ms 2 0 e.args.length 4/\ev 14=.int .i64 e.args.length/\ev 15=.int .i64 d.length/\U=⟨[.cells [.int .i64 e.op,.int .i64 e.n,.str e.name,.sl 4 (e.args.map qt) .none],.cells [.int .i64 0,.int .i64 0,.str [],.sl 0 [] .nil],.cells FE],[]⟩) ?_ ?_ ?_
 . exact⟨by simp,by simp⟩
 . rintro d a rest ev U R hR hd hx hlt ⟨e1,e2,e3,e14,e15,rfl⟩;have hm:=qAV hx;have hia:=ih a hm (by have:=qfL hm;omega);have hw:=wr (n:=(d.length:Int)+1) (by omega) (by omega);obtain⟨ht,hle⟩:=hat d.length a hx;have hp:=hpt d.length a hx;have ha2:=yN a;have hl4:=zo a;have hnr:=nrE a;generalize qt a=W at *;simp[-qZ,e3,e14,e15,hlt,ht,hle];refine qFp hia (by simp[qw,hnr]) ?_;simp[-qZ,ha2,hl4,hp,hle,e15,hlt,hw];exact hR _ _ ⟨by simp[e1],by simp[e2],by simp[e3],by simp[e14],by simp⟩
 rintro ev U ⟨e1,e2,e3,e14,e15,rfl⟩;simp[e1,e2,e3,e14,e15];have ho:jr 2 4 qt [Blk.cells [AV.int .i64 e.op,.int .i64 e.n,.str e.name,.ms 2 0 e.args.length 4],.cells [.int .i64 e.op,.int .i64 e.n,.str e.name,.ms 2 0 e.args.length 4],.cells FE] (.ms 2 0 e.args.length 4) e.args:=.inr ⟨h0,rfl,by rw[hFE];rfl⟩;have f1:=ho.frz zo (fun x=>nrE x) jw 6;have f2:=ho.frzNo zo (fun x=>nrE x) jw 6;rw[frz,if_neg (by simp[qO,qw])];simp only[qA7,qBy,Zl,qeD,qO,qw,Leq,zm,qC2,qB7,and_true,true_and];exact⟨f2,f1⟩
def inR(v:Int)(r:Rg):Bool:=decide (r.1<=v)&&decide (v<=r.2)
def qqm(b):(b2i b≠0)↔b=true:=by cases b<;>simp[b2i]
def qi8(env n):yn env (jE n)=n:=by rw[yX];simp[jE,vw]
def qmF(env s):yn env (wN s)=(jB env s).getD 0:=by rw[yX];simp[wN,vw]
def qud(env a b):(yn env (orE a b)≠0)↔(yn env a≠0\/yn env b≠0):=by
 rw[yX];have:vw env (orE a b).op (orE a b).n (orE a b).name ((orE a b).args.map (yn env))=b2i (!decide (yn env a=0)||!decide (yn env b=0)):=by
  simp[orE,vw,opW,jZ]
 rw[this,qqm];simp
def K6(v):∀(l:List Rg),jh v (l.flatMap fun r=>[r.1,r.2])=l.any (inR v)
 |[]=>rfl
 |r::l=>by rw[qBm];simp only[qBl,qBk,jh,qC1,K6 v l,inR]
def qfj(env):∀(l:List Rg),(l.flatMap fun r=>[jE r.1,jE r.2]).map (yn env)=l.flatMap fun r=>[r.1,r.2]
 |[]=>rfl
 |r::l=>by rw[qBm,qBV,qfj env l,qBm];simp[qi8]
def qi9(env s)(l:List Rg):(yn env (Ql s l)≠0)↔∃r∈l,inR ((jB env s).getD 0) r=true:=by
 rw[yX];have:vw env (Ql s l).op (Ql s l).n (Ql s l).name ((Ql s l).args.map (yn env))=b2i (l.any (inR ((jB env s).getD 0))):=by
  rw[<- K6,<- qfj env l];simp[Ql,vw,opW,qmF]
 rw[this,qqm,qBr]
def qbL(env s):∀(l:List (List Rg)) (out),(yn env (Qx s out l)≠0)↔(yn env out≠0\/∃c∈l,∃r∈c,inR ((jB env s).getD 0) r=true)
 |[],out=>by simp[Qx]
 | c::l,out=>by
  show(yn env (Qx s (orE out (Ql s c)) l)≠0)↔_;rw[qbL env s l,qud,qi9];simp only[qBt,exists_eq_or_imp,or_assoc]
def Vz{α:Type}{n}(hn:0<n):∀(k) (l:List α),l.length<=k->(z6 n k l).flatten=l
 | 0,l,h=>by
  have:l=[]:=qA6 (by omega);subst this;rfl
 | k+1,l,h=>by
  unfold z6;split
  . rename_i h0;rw[h0];rfl
  rename_i h0;have:=qBf.2 h0;rw[qBI,Vz hn k _ (by rw[qCM];omega),qBF]
def qi7(env s)(l:List Rg):(yn env (kf s l)≠0)↔∃r∈l,inR ((jB env s).getD 0) r=true:=by
 unfold kf;split
 . rename_i h;subst h;simp[qi8]
 rw[qbL,qi9];have h1:=Vz (n:=16) (by omega) l.length (l.drop 16) (by rw[qCM];omega);constructor
 . rintro(⟨r,hr,h⟩|⟨c,hc,r,hr,h⟩)
   . exact⟨r,qBH hr,h⟩
   . refine⟨r,qCp (i:=16) ?_,h⟩;rw[<- h1];exact qBv.2 ⟨c,hc,hr⟩
 rintro⟨r,hr,h⟩;rw[<- qBF 16 l]at hr;rcases qBb.1 hr with hr|hr
 . exact .inl ⟨r,hr,h⟩
 rw[<- h1]at hr;obtain⟨c,hc,hr⟩:=qBv.1 hr;exact .inr ⟨c,hc,r,hr,h⟩
def qfE(v):∀(l),(∃r∈QH l,inR v r=true)↔v∈l:=by
 have key:∀(l:List Int) (out:List Rg),(∀r∈out,r.1<=r.2)->((∃r∈l.foldl vI out,inR v r=true)↔((∃r∈out,inR v r=true)\/v∈l)):=by
  intro l
  induction l with
  |nil=>intro out _;simp
  | cons n l ih=>
   intro out ho;rw[qBw];have hs:(∀r∈vI out n,r.1<=r.2)/\((∃r∈vI out n,inR v r=true)↔((∃r∈out,inR v r=true)\/v=n)):=by
    unfold vI;split
    . rename_i r hr;obtain⟨pre,hp⟩:=qDr.1 hr;subst hp;have hr2:=ho r (by simp);split
      . rename_i hn;rw[qEj];refine⟨fun q hq=>?_,?_⟩
        . rcases qBb.1 hq with hq|hq
          . exact ho q (by simp[hq])
          . have:=qBD.1 hq;subst this;dsimp only;omega
        simp only[qBb,qBD,inR,qA1,decide_eq_true_eq];constructor
        . rintro⟨q,hq|rfl,h⟩
          . exact .inl ⟨q,.inl hq,h⟩
          . dsimp only at h;by_cases hv:v=n
            . exact .inr hv
            exact .inl ⟨r,.inr rfl,by omega⟩
        rintro(⟨q,hq|rfl,h⟩|rfl)
        . exact⟨q,.inl hq,h⟩
        . exact⟨_,.inr rfl,by dsimp only;omega⟩
        exact⟨_,.inr rfl,by dsimp only;omega⟩
      refine⟨fun q hq=>?_,?_⟩
      . rcases qBb.1 hq with hq|hq
        . exact ho q hq
        . have:=qBD.1 hq;subst this;exact qEr _
      simp only[qBb,qBD,inR,qA1,decide_eq_true_eq];constructor
      . rintro⟨q,hq|rfl,h⟩
        . exact .inl ⟨q,hq,h⟩
        . exact .inr (by dsimp only at h;omega)
      rintro(⟨q,hq,h⟩|rfl)
      . exact⟨q,.inl hq,h⟩
      exact⟨_,.inr rfl,by dsimp only;omega⟩
    refine⟨fun q hq=>?_,?_⟩
    . rcases qBb.1 hq with hq|hq
      . exact ho q hq
      . have:=qBD.1 hq;subst this;exact qEr _
    simp only[qBb,qBD,inR,qA1,decide_eq_true_eq];constructor
    . rintro⟨q,hq|rfl,h⟩
      . exact .inl ⟨q,hq,h⟩
      . exact .inr (by dsimp only at h;omega)
    rintro(⟨q,hq,h⟩|rfl)
    . exact⟨q,.inl hq,h⟩
    exact⟨_,.inr rfl,by dsimp only;omega⟩
   rw[ih _ hs.1,hs.2];simp only[qBt,or_assoc]
 intro l;have:=key l [] (by simp);simpa[QH] using this
def qhh(env s l):(yn env (kf s (QH l))≠0)↔(jB env s).getD 0∈l:=by
 rw[qi7,qfE]
def ji(l:List Rg):List Int:=l.flatMap fun r=>[r.1,r.2]
def Z0(l:List Rg):(ji l).length=2*l.length:=by
 unfold ji
 induction l with
 |nil=>rfl
 |cons r l ih=>rw[qBm,qAY,ih];simp;omega
def qie(l:List Rg)(i):((ji l).drop (32*i)).take 32=ji ((l.drop (16*i)).take 16):=by
 have hd:∀(l:List Rg) (k:Nat),(ji l).drop (2*k)=ji (l.drop k):=by
  intro l k
  induction k generalizing l with
  |zero=>simp
  | succ k ih=>
   cases l with
   |nil=>simp[ji]
   | cons r l=>
    have:ji (r::l)=r.1::r.2::ji l:=by simp[ji]
    rw[this,qDv,<- ih];show List.drop (2*k+1+1) _=_;rw[qDv,qDv]
 have ht:∀(l:List Rg) (k:Nat),(ji l).take (2*k)=ji (l.take k):=by
  intro l k
  induction k generalizing l with
  |zero=>simp[ji]
  | succ k ih=>
   cases l with
   |nil=>simp[ji]
   | cons r l=>
    have:ji (r::l)=r.1::r.2::ji l:=by simp[ji]
    rw[this,show ji ((r::l).take (k+1))=r.1::r.2::ji (l.take k) by simp[ji],<- ih];show List.take (2*k+1+1) _=_;rw[qCt,qCt]
 rw[show 32*i=2*(16*i) by omega,hd];exact ht _ 16
def qiv(f:Nat->Bool)(N n:Nat):List Int :=
 if f n=true then(if n=0\/f (n-1)=false then [(n:Int)] else [])++(if n+1=N\/f (n+1)=false then [(n:Int)] else []) else []
def qdr(f:Nat->Bool)(N k:Nat):List Int:=(List.range k).flatMap (qiv f N)
def kz(f:Nat->Bool)(k:Nat):List Rg:=QH (((List.range k).filter f).map fun n:Nat=>(n:Int))
def Vo(f k):kz f (k+1)=if f k=true then vI (kz f k) (k:Int) else kz f k:=by
 unfold kz QH;rw[qCk,qDY,qBV,qBX];cases h:f k<;>simp[h]
def WC(f N k):qdr f N (k+1)=qdr f N k++qiv f N k:=by
 unfold qdr;rw[qCk,List.flatMap_append];simp
def Vp(f):∀k,(∀r∈kz f k,r.2<(k:Int))/\((0<k/\f (k-1)=true)->∃R a,kz f k=R++[(a,(k:Int)-1)])/\(¬(0<k/\f (k-1)=true)->∀r,(kz f k).getLast?=some r->r.2≠(k:Int)-1)
 |0=>by refine⟨?_,fun h=>absurd h.1 (by omega),?_⟩<;>simp[kz,QH]
 | k+1=>by
  obtain⟨h1,h2,h3⟩:=Vp f k;rw[Vo]
  cases hk:f k with
  | false=>
   rw[if_neg (by simp)];refine⟨fun r hr=>by have:=h1 r hr;omega,fun h=>absurd h.2 (by simp[hk]),fun _ r hr=>?_⟩;have:=h1 r (List.mem_of_getLast? hr);omega
  | true=>
   rw[if_pos rfl];have e1:((k+1:Nat):Int)-1=k:=(by omega);rw[e1];have hadd:∃R a,vI (kz f k) (k:Int)=R++[(a,(k:Int))]/\∀r∈R,r.2<((k+1:Nat):Int):=by
    unfold vI
    cases hg:(kz f k).getLast? with
    |none=>exact⟨_,_,rfl,fun r hr=>by have:=h1 r hr;omega⟩
    | some q=>
     dsimp only;split
     . exact⟨_,_,rfl,fun r hr=>by have:=h1 r (List.dropLast_subset _ hr);omega⟩
     exact⟨_,_,rfl,fun r hr=>by have:=h1 r hr;omega⟩
   obtain⟨R,a,hR,hRl⟩:=hadd;rw[hR];refine⟨fun r hr=>?_,fun _=>⟨R,a,rfl⟩,fun h=>absurd ⟨by omega,by simpa using hk⟩ h⟩;rcases qBb.1 hr with h|h
   . exact hRl r h
   rw[qBD.1 h];show(k:Int)<_;omega
def qgK(f N):∀k,k<=N->(if 0<k/\f (k-1)=true/\k<N/\f k=true then ∃R a,kz f k=R++[(a,(k:Int)-1)]/\qdr f N k=ji R++[a] else qdr f N k=ji (kz f k))
 |0,_=>by rw[if_neg (by omega)];rfl
 | k+1,hk=>by
  have ih:=qgK f N k (by omega);obtain⟨h1,h2,h3⟩:=Vp f k;rw[WC,Vo];have e1:((k+1:Nat):Int)-1=k:=by omega
  have e2:k+1-1=k:=by omega
  rw[e1,e2]
  cases hfk:f k with
  | false=>
   rw[if_neg (by simp[hfk]) ]at ih;rw[if_neg (by simp),if_neg (by simp)];rw[ih];simp[qiv,hfk]
  | true=>
   rw[if_pos rfl];have hkN:k<N:=(by omega);by_cases hp:0<k/\f (k-1)=true
   . rw[if_pos ⟨hp.1,hp.2,hkN,hfk⟩]at ih;obtain⟨R,a,hR,hb⟩:=ih;have hadd:vI (kz f k) (k:Int)=R++[(a,(k:Int))]:=by
      unfold vI;rw[hR];simp
     rw[hadd,hb];have hb1:qiv f N k=if k+1=N\/f (k+1)=false then [(k:Int)] else []:=by
      have hno:¬(k=0\/f (k-1)=false):=by
       intro h;rcases h with h|h
       . omega
       rw[hp.2]at h;cases h
      unfold qiv;rw[if_pos hfk,if_neg hno];simp
     rw[hb1];by_cases hn:k+1=N\/f (k+1)=false
     . have hng:¬(0<k+1/\true=true/\k+1<N/\f (k+1)=true):=by
        rintro⟨_,_,h4,h5⟩;rcases hn with h|h
        . omega
        rw[h5]at h;cases h
       rw[if_pos hn,if_neg hng];simp[ji]
     rw[if_neg hn,if_pos ⟨by omega,rfl,by omega,by cases h:f (k+1) with|true=>rfl|false=>exact absurd (.inr h) hn⟩];exact⟨R,a,rfl,by simp⟩
   have hno:qdr f N k=ji (kz f k):=by
    rw[if_neg (fun h=>hp ⟨h.1,h.2.1⟩)]at ih;exact ih
   have hadd:vI (kz f k) (k:Int)=kz f k++[((k:Int),(k:Int))]:=by
    unfold vI
    cases hg:(kz f k).getLast? with
    |none=>rfl
    |some q=>dsimp only;rw[if_neg (h3 hp q hg)]
   rw[hadd,hno];have hb1:qiv f N k=[(k:Int)]++if k+1=N\/f (k+1)=false then [(k:Int)] else []:=by
    unfold qiv;rw[if_pos hfk,if_pos];by_cases h0:k=0
    . exact .inl h0
    right
    cases h:f (k-1) with
    |false=>rfl
    |true=>exact absurd ⟨by omega,h⟩ hp
   rw[hb1];by_cases hn:k+1=N\/f (k+1)=false
   . have hng:¬(0<k+1/\true=true/\k+1<N/\f (k+1)=true):=by
      rintro⟨_,_,h4,h5⟩;rcases hn with h|h
      . omega
      rw[h5]at h;cases h
     rw[if_pos hn,if_neg hng];simp[ji]
   rw[if_neg hn,if_pos ⟨by omega,rfl,by omega,by cases h:f (k+1) with|true=>rfl|false=>exact absurd (.inr h) hn⟩];exact⟨kz f k,k,rfl,by simp⟩
def qoZ(f N):qdr f N N=ji (kz f N):=by
 have:=qgK f N N (qA5 _)
 rwa[if_neg (by omega)]at this
def qbT(v l):QH (Zz v l)=kz (fun n=>vO l n) (zU v):=by
 unfold kz Zz;rw[List.filter_map];rfl
