import Derived.Test.YtafbccendejkeaaGreatDoorPt10
import Derived.Test.YtafbccendejkeaaGreatDoorPt11
import Derived.Test.YtafbccendejkeaaGreatDoorPt09
set_option maxHeartbeats 16000000
set_option maxRecDepth 100000
set_option linter.all false
set_option linter.defProp false
namespace Go.Proofs.YtafbccendejkeaaGreatDoor
open Go Go.Abs Tryz
def oM:Opts:=⟨true,[],[],[]⟩
@[simp]def qzl:oM.mu=true:=rfl
@[simp]def qzm:oM.lw=[]:=rfl
def qr5(n:Nat)(hn:n<=1000000)(U:St):qg prog GG 253 [.sl 0 [] .nil,.int .i64 n] U (fun r U'=>(n=0/\r=.sl 0 [] .nil/\U'=U)\/(0<n/\r=.ms U.H.length 0 0 4/\∃c,U'=U.push (.cells c))):=by
 refine qg.vcO oM qe func253 rfl (by kernel_rfl) ?_;have w0:IntKind.i64.wrap 0=0:=by decide
 by_cases h0:n=0
 . subst h0;simp[qtr,w0]
 have h2:(0:Int)<n:=by omega
 simp[qtr,show ¬(n:Int)<0 by omega,show IntKind.i64.wrap (n:Int)=n from wr (by omega) (by omega),w0,show 0<n by omega,show(n:Int)<=549755813888 by omega,zj,zS,y8,zU,zq,zX,qQ]
def CR(T R:List Ex)(v:AV)(U:St):Prop:=(T=[]/\v=.sl 0 [] .nil)\/∃b c,v=.ms b 0 R.length 4/\U.H[b]?=some (.cells c)/\R.length*4<=c.length/\c.take (R.length*4)=(R.map qp).flatten
@[simp]def qa1(e):(qp e).length=4:=by rw[qc];rfl
def K4:∀(l:List Ex),((l.map qp).flatten).length=l.length*4
 |[]=>rfl
 |a::r=>by simp only[qAz,qBb,qAq,qa1,K4 r,qAD];omega
def Wn:∀(R:List Ex) (c),R.length*4<=c.length->c.take (R.length*4)=(R.map qp).flatten->vH 4 R.length c=R.map qp
 |[],c,_,_=>rfl
 | a::r,c,hl,h=>by
  have e1:c.take 4=qp a:=by
   have:=congrArg (List.take 4) h;rw[qEq,qAz,qBb,List.take_left' (qa1 a)]at this;rw[<- this];congr 1;simp only[qAD];omega
  have e2:(c.drop 4).take (r.length*4)=(r.map qp).flatten:=by
   have:=congrArg (List.drop 4) h;rw[qAz,qBb,List.drop_left' (qa1 a),qEm]at this;rw[<- this];congr 1;simp only[qAD];omega
  rw[qAD,vH,e1,Wn r (c.drop 4) (by simp only[qCd,qAD]at hl⊢;omega) e2,qAz]
def qdo{T R X b c U}(hb:U.H[b]?=some (.cells c))(hl:R.length*4<=c.length)(h:c.take (R.length*4)=(R.map qp).flatten)(hR:R.length+X.length<=1000000) :
 ∃v' U',zq (Dof prog) U 23 23 (.ms b 0 R.length 4) (.sl 4 (X.map qp) .none)=some (v',U')/\CR T (R++X) v' U':=by
 cases X with
 | nil=>
  refine⟨.ms b 0 R.length 4,U,?_,.inr ⟨b,c,by simp,hb,by simpa using hl,by simpa using h⟩⟩;simp[zq,zX,qQ,Yv]
 | cons x X=>
  refine⟨.ms U.H.length 0 (R.length+(X.length+1)) 4,{ U with H:=U.H.set b .dead++[.cells (c.take (R.length*4)++((x::X).map qp).flatten)] },?_,.inr ⟨U.H.length,c.take (R.length*4)++((x::X).map qp).flatten,by simp,by simp,?_,?_⟩⟩
  . have h1:R.length+(X.length+1)<=549755813888:=(by simp at hR;omega);simp[zq,zX,qQ,Yv,hb,h1,hl]
  . rw[h];simp only[qAq,K4];omega
  rw[h,qAs (by simp only[qAq,K4];omega),qBp,qCk]
def qk7(h s:List Ex)(hh:h.length<=10000)(hs:s.length<=10000):Pure prog GG 175 [.sl 1 [[.sl 4 (h.map qp) .none],[.sl 4 (s.map qp) .none]] .none] (.sl 4 ((h++s).map qp) .none):=by
 refine Pure.vcO oM false qe func175 rfl (by kernel_rfl) ?_;have wi:IntKind.i64.wrap 1=1:=by decide
 have wi2:IntKind.i64.wrap 2=2:=by decide
 simp;refine qE6 (fun n env U=>∃i:Nat,i<=2/\n=2-i/\env 0=.sl 1 [[.sl 4 (h.map qp) .none],[.sl 4 (s.map qp) .none]] .none/\env 3=.int .i64 (if i=0 then 0 else if i=1 then h.length else h.length+s.length)/\env 9=.sl 1 [[.sl 4 (h.map qp) .none],[.sl 4 (s.map qp) .none]] .none/\env 10=.int .i64 2/\env 11=.int .i64 i/\U=⟨[],[]⟩) 2 ⟨0,by simp⟩ ?_;rintro n env U ⟨i,hi,rfl,h0,h3,h9,h10,h11,rfl⟩;have hcase:i=0\/i=1\/i=2:=by omega
 rcases hcase with rfl|rfl|rfl
 . simp[h0,h3,h9,h10,h11,show IntKind.i64.wrap (h.length:Int)=h.length from wr (by omega) (by omega),show ¬(h.length:Int)<0 by omega,wi];exact⟨1,by omega,1,by omega,rfl,rfl,rfl⟩
 . simp[h0,h3,h9,h10,h11,show IntKind.i64.wrap ((h.length:Int)+s.length)=h.length+s.length from wr (by omega) (by omega),show ¬(h.length:Int)+s.length<0 by omega,wi2];exact⟨2,by omega,by omega,rfl,rfl⟩
 have hN:((h.length:Int)+s.length)=((h.length+s.length:Nat):Int):=by omega
 simp[h0,h3,h9,h10,h11];rw[hN];refine qEX (qr5 (h.length+s.length) (by omega) ⟨[],[]⟩) ?_;intro r U' hr;have hcr:CR (h++s) [] r U':=by
  rcases hr with⟨h1,h2,h3⟩|⟨h1,h2,c,h3⟩
  . exact .inl ⟨qAA (by rw[qAq];exact h1),h2⟩
  subst h3;exact .inr ⟨0,c,h2,rfl,by simp,by simp⟩
 refine qE6 (fun n env U=>∃i:Nat,i<=2/\n=2-i/\env 25=.sl 1 [[.sl 4 (h.map qp) .none],[.sl 4 (s.map qp) .none]] .none/\env 26=.int .i64 2/\env 27=.int .i64 i/\CR (h++s) (if i=0 then [] else if i=1 then h else h++s) (env 6) U) 2 ⟨0,by simp[];exact hcr⟩ ?_;rintro n env U ⟨i,hi,rfl,h25,h26,h27,hcr⟩;have hcase:i=0\/i=1\/i=2:=by omega
 rcases hcase with rfl|rfl|rfl
 . simp only[if_true]at hcr;rcases hcr with⟨ht,h6⟩|⟨b,c,h6,hb,hl,hc⟩
   . simp only[qDt]at ht;obtain⟨rfl,rfl⟩:=ht;simp[h25,h26,h27,h6,wi,zq,zX,qr,qQ,Yv,qY];exact⟨1,by omega,1,by omega,rfl,rfl,.inl ⟨rfl,rfl⟩⟩
   obtain⟨v',U',e1,e2⟩:=qdo (T:=h++s) (X:=h) hb hl hc (by simp;omega);simp only[qBh]at h6 e1;simp[h25,h26,h27,h6,wi,e1];exact⟨1,by omega,1,by omega,rfl,rfl,by simpa using e2⟩
 . simp only[Nat.one_ne_zero,if_false,if_true]at hcr;rcases hcr with⟨ht,h6⟩|⟨b,c,h6,hb,hl,hc⟩
   . simp only[qDt]at ht;obtain⟨rfl,rfl⟩:=ht;simp[h25,h26,h27,h6,wi2,zq,zX,qr,qQ,Yv,qY];exact⟨2,by omega,by omega,rfl,.inl ⟨rfl,rfl⟩⟩
   obtain⟨v',U',e1,e2⟩:=qdo (T:=h++s) (X:=s) hb hl hc (by omega);simp[h25,h26,h27,h6,wi2,e1];exact⟨2,by omega,by omega,rfl,by simpa using e2⟩
 simp only[show ¬(2:Nat)=0 by omega,show ¬(2:Nat)=1 by omega,if_false]at hcr;rcases hcr with⟨ht,h6⟩|⟨b,c,h6,hb,hl,hc⟩
 . simp only[qDt]at ht;obtain⟨rfl,rfl⟩:=ht;simp[h25,h26,h27,h6]
 have hk:=Wn (h++s) c hl hc;simp only[qAq]at hk hl;rw[qAq]at h6;simp[h25,h26,h27,h6,hb,hl,hk,WM]
def qh5(p:Problem)(s:Str)(hl:Fits p.vars):Pure prog GG 179 [.str s,.rptr (qt p)] (.bool (!Qf p.vars s)):=by
 refine qE9 qe func179 rfl (by kernel_rfl) ?_;simp;refine qET (index GG p.vars s hl) (by simp) ?_;have:=Qi (fun v:Var=>v.name==s) p.vars;simp[this,Qf]
def qsq(p)(hl:Fits p.vars)(hh:p.hard.length<=10000)(hs:p.soft.length<=10000)(hw:∀e∈p.hard++p.soft,Wen e/\hgt e<=1000/\(pre e).length<=100000) :
 Pure prog GG 123 [.agg (qt p)] (.int .i64 (qU (zy p.vars) (p.hard++p.soft))):=by
 refine qE9 qe func123 rfl (by kernel_rfl) ?_;simp[qf,qm];obtain⟨L,hL⟩:∃L,L=p.hard++p.soft:=⟨_,rfl⟩;have hlen:L.length<=20000:=by rw[hL,qAq];omega
 refine qEU (qk7 p.hard p.soft hh hs) (by simp) (by simp[Leq]) ?_;rw[<- hL]at hw⊢;simp;refine qE6 (fun n env U=>∃i tail,i<=L.length/\n=L.length-i/\env 1=.ptr 0 0/\env 11=.sl 4 (L.map qp) .none/\env 12=.int .i64 L.length/\env 13=.int .i64 i/\U=⟨.cells (qt p)::tail,[]⟩/\∀e∈L.take i,zy p.vars e=0) L.length ⟨0,[],by simp⟩ ?_;rintro n env U ⟨i,tail,hi,rfl,h1,h11,h12,h13,rfl,hz⟩
 cases hv:L[i]? with
 | some e=>
  obtain⟨hc,hv'⟩:=qAm.1 hv;have hm:=qAn hv;obtain⟨hwe,hh1,hp1⟩:=hw e hm;have bad:zy p.vars e≠0->qU (zy p.vars) L=zy p.vars e:=fun h=>kV hv hz h
  simp[h11,h12,h13,hc,hv',qc e,qA0];rw[<- qc e];refine qET (YZ e hwe (by omega)) (by simp) ?_;by_cases h0:zi e=0
  . simp[h0,qc e];rw[<- qc e];refine qET (Qt e hwe hp1) (by simp) ?_;have hab:=QN (e:=e);cases ha:Yc e
    . rw[ha]at hab;have hlz:(zO [3,24] e).length=0:=(by have:=of_decide_eq_false hab;omega);have hnil:=qAA hlz;simp[hnil,h1,qc e];rw[<- qc e];refine qET (ZO e hwe hp1) (by simp) ?_
      try simp[h1,h11,h12,h13]
      have hfn:Fits (zO [2] e):=by
       have:∀(l:List Ex) (s:List Str),(l.foldl (Wz [2]) s).length<=s.length+l.length:=by
        intro l
        induction l with
        |nil=>intro s;simp
        |cons a r ih=>intro s;have:=ih (Wz [2] s a);have:=vC (ops:=[2]) (s:=s) (e:=a);simp only[qA1,qAD];omega
       have:=this (pre e) [];simp only[Fits,zO,qBh]at this⊢;omega
      refine qa.lent (Wk GG (zO [2] e) (fun s=>!Qf p.vars s) 179 [] [.rptr (qt p)] hfn rfl (by simp) fun s _=>qh5 p s hl) rfl ?_ ?_
      . simp[frz]
      rw[QF];cases hf:Zj p.vars e
      . have x:zy p.vars e=0:=(by simp only[zy,h0,ha,hf];rfl);simp[h1,h11,h12,h13];exact⟨_,by omega,i+1,by omega,rfl,wr (by omega) (by omega),qW hv hz x⟩
      have x:zy p.vars e=7:=(by simp only[zy,h0,ha,hf];rfl);rw[bad (by rw[x];decide),x];simp
    rw[ha]at hab;have x:zy p.vars e=9:=(by simp only[zy,h0,ha];rfl);rw[bad (by rw[x];decide),x];simp[of_decide_eq_true hab]
  have x:zy p.vars e=zi e:=by simp only[zy];rw[if_pos h0]
  rw[bad (by rw[x];exact h0),x];simp[h0]
 | none=>
  have hc:¬i<L.length:=by simp at hv;omega
  rw[show L.take i=L from qAs (by omega)]at hz;rw[zC.2 hz];simp[h11,h12,h13,hc]
abbrev Rg:=Int×Int
@[simp]def ki(r:Rg):List AV:=[.int .i64 r.1,.int .i64 r.2]
def vB(out:List Rg)(n:Int):List Rg:=match out.getLast? with
 |some r=>if r.2=n-1 then out.dropLast++[(r.1,n)] else out++[(n,n)]
 |none=>out++[(n,n)]
def Qz(l:List Int):List Rg:=l.foldl vB []
def jD(n:Int):Ex:=.mk 1 n [] []
def wG(s:Str):Ex:=.mk 2 0 s []
def Qd(s:Str)(l:List Rg):Ex:=.mk 23 0 [] (wG s::l.flatMap fun r=>[jD r.1,jD r.2])
def orE(a b:Ex):Ex:=.mk 20 0 [] [a,b]
def z4{α:Type}(n:Nat):Nat->List α->List (List α)
 |0,_=>[]
 |k+1,l=>if l=[] then [] else l.take n::z4 n k (l.drop n)
def Qq(s:Str)(out:Ex)(l:List (List Rg)):Ex:=l.foldl (fun o c=>orE o (Qd s c)) out
def yZ(s:Str)(l:List Rg):Ex:=if l=[] then jD 0 else Qq s (Qd s (l.take 16)) (z4 16 l.length (l.drop 16))
def inW(n:Int)(w:Weight):Bool:=decide (w.lo<=n)&&decide (n<=w.hi)
def vI(l:List Weight)(n:Int):Bool:=match l.find? (inW n) with
 |some w=>decide (0<w.weight)
 |none=>false
def Zv(v:Var)(l:List Weight):List Int:=((List.range (zP v)).map fun n:Nat=>(n:Int)).filter (vI l)
def vE(vs:List Var)(d:Dist):Ex:=match vs[d.var.toNat]? with
 |some v=>yZ v.name (Qz (Zv v d.weights))
 |none=>jD 0
def wa(p:Problem):List Ex:=p.dists.map (vE p.vars)
def qep(p:Problem):List Ex:=p.hard++wa p
noncomputable def yl(vs:List Var)(rules:List Ex):List (Int×Ex)->List (Int×Ex)
 |[]=>[]
 |x::r=>if jO vs (rules++[x.2]) then x::yl vs (rules++[x.2]) r else yl vs rules r
def Zg(l:List Ex):List (Int×Ex):=(l.zipIdx.map fun q=>((q.2:Int),q.1)).reverse
noncomputable def Zh(p:Problem):List (Int×Ex):=(yl p.vars (qep p) (Zg p.soft)).reverse
noncomputable def qjo(p:Problem):List Ex:=qep p++(Zh p).map (·.2)
def qaA{n}(h0:0<=n)(h1:n<=65535):qs (jD n)=0:=by
 simp[qs,jD,ql,zB,Ex.op,Ex.n,Ex.name,Ex.args];omega
def qiN{s}(h:k0 s=true):qs (wG s)=0:=by
 simp[qs,wG,ql,zB,Ex.op,Ex.n,Ex.name,Ex.args,h]
def ZK(n):pre (jD n)=[jD n]:=by simp[jB,jD]
def qfG(s):pre (wG s)=[wG s]:=by simp[jB,wG]
def qce:∀(l:List Rg),wm (l.flatMap fun r=>[jD r.1,jD r.2])=l.flatMap fun r=>[jD r.1,jD r.2]
 |[]=>rfl
 |r::l=>by rw[qAO,ve,qce l];simp[ZK]
def qfH(s)(l:List Rg):pre (Qd s l)=Qd s l::wG s::l.flatMap fun r=>[jD r.1,jD r.2]:=by
 rw[jB];show Qd s l::wm (wG s::_)=_;rw[yy,qfG,qce];rfl
def qay:∀(l:List Rg),(l.flatMap fun r=>[jD r.1,jD r.2]).length=2*l.length
 |[]=>rfl
 |r::l=>by rw[qAO,qAq,qay l];simp;omega
def ql4(r:Rg):Prop:=(0<=r.1/\r.1<=65535)/\0<=r.2/\r.2<=65535
structure EOk(s h m e):Prop where
 nodes:∀x∈pre e,qs x=0/\x.op≠3/\x.op≠24/\(x.op=2->x.name=s)
 hgt:hgt e<=h
 size:(pre e).length<=m
def EOk.ins{s}(hs:k0 s=true){l:List Rg}(hl:l≠[])(hn:l.length<=16)(hr:∀r∈l,ql4 r):EOk s 2 34 (Qd s l):=by
 have hlen:=qay l;have hpos:=qAI.2 hl;refine⟨fun x hx=>?_,?_,?_⟩
 . rw[qfH]at hx;rcases qAM.1 hx with rfl|hx
   . refine⟨?_,by simp[Qd,Ex.op],by simp[Qd,Ex.op],by simp[Qd,Ex.op]⟩;unfold qs ql;simp only[Qd,qEC,Ex.n_mk,qED,qEE,qAD,hlen];have h1:(2*l.length+1)%2=1:=(by omega);have h2:3<=2*l.length+1:=(by omega);simp[h1,h2,show 2*l.length+1<=33 by omega]
   rcases qAM.1 hx with rfl|hx
   . exact⟨qiN hs,by simp[wG,Ex.op],by simp[wG,Ex.op],fun _=>rfl⟩
   obtain⟨r,hr1,hx⟩:=qD6.1 hx;have:=hr r hr1;simp only[qAM,qB0,or_false]at hx;rcases hx with rfl|rfl
   . exact⟨qaA this.1.1 this.1.2,by simp[jD,Ex.op],by simp[jD,Ex.op],by simp[jD,Ex.op]⟩
   exact⟨qaA this.2.1 this.2.2,by simp[jD,Ex.op],by simp[jD,Ex.op],by simp[jD,Ex.op]⟩
 . rw[wv];have:Je (Qd s l).args<=1:=by
    show Je (wG s::_)<=1;rw[ZV];have h1:Go.Proofs.YtafbccendejkeaaGreatDoor.hgt (wG s)=1:=(by simp[wv,wG]);have h2:Je (l.flatMap fun r=>[jD r.1,jD r.2])<=1:=by
     clear hlen hpos hl hn hr h1
     induction l with
     |nil=>simp
     | cons r l ih=>
      rw[qAO];simp only[qAL,qAK,ZV];have:∀n,Go.Proofs.YtafbccendejkeaaGreatDoor.hgt (jD n)=1:=fun n=>by simp[wv,jD]
      rw[this,this];omega
    omega
   omega
 rw[qfH,qAD,qAD,hlen];omega
def EOk.or{s h h' m m' a b}(ha:EOk s h m a)(hb:EOk s h' m' b):EOk s (max h h'+1) (m+m'+1) (orE a b):=by
 have hp:pre (orE a b)=orE a b::(pre a++pre b):=by rw[jB];simp[orE]
 refine⟨fun x hx=>?_,?_,?_⟩
 . rw[hp]at hx;rcases qAM.1 hx with rfl|hx
   . refine⟨?_,by simp[orE,Ex.op],by simp[orE,Ex.op],by simp[orE,Ex.op]⟩;simp[qs,orE,ql,zB,Ex.op,Ex.n,Ex.name,Ex.args]
   rcases qAC.1 hx with hx|hx
   . exact ha.nodes x hx
   exact hb.nodes x hx
 . rw[wv];have:=ha.hgt;have:=hb.hgt;simp only[orE,qEE,ZV,qnU];omega
 rw[hp,qAD,qAq];have:=ha.size;have:=hb.size;omega
def EOk.chain{s}(hs:k0 s=true):∀(l:List (List Rg)){h m:Nat}{out:Ex},EOk s (h+2) m out->(∀c∈l,c≠[]/\c.length<=16/\∀r∈c,ql4 r)->EOk s (h+2+l.length) (m+35*l.length) (Qq s out l)
 |[],h,m,out,ho,_=>ho
 | c::l,h,m,out,ho,hc=>by
  have h1:=hc c (by simp);have h2:=ho.or (EOk.ins hs h1.1 h1.2.1 h1.2.2);have h3:=EOk.chain hs l (h:=h+1) (m:=m+34+1) (out:=orE out (Qd s c)) (by
   have e:max (h+2) 2+1=h+1+2:=(by omega);rw[e]at h2;exact h2) (fun c hm=>hc c (by simp[hm]))
  have e1:h+2+(c::l).length=h+1+2+l.length:=by simp;omega
  have e2:m+35*(c::l).length=m+34+1+35*l.length:=by simp;omega
  rw[e1,e2];exact h3
def Kv{α:Type}{n}(hn:0<n):∀(k) (l:List α),∀c∈z4 n k l,c≠[]/\c.length<=n/\∀x∈c,x∈l
 |0,_,c,h=>by cases h
 | k+1,l,c,h=>by
  unfold z4 at h;split at h
  . cases h
  rename_i hl;rcases qAM.1 h with rfl|h
  . have:=qAI.2 hl;refine⟨qAI.1 (by rw[qA8];omega),by rw[qA8];omega,fun x hx=>qBa hx⟩
  obtain⟨h1,h2,h3⟩:=Kv hn k _ c h;exact⟨h1,h2,fun x hx=>qBS (h3 x hx)⟩
def Kw{α:Type}{n}(hn:0<n):∀(k) (l:List α) (m),l.length<=m*n->(z4 n k l).length<=m
 |0,_,m,_=>by simp[z4]
 | k+1,l,m,h=>by
  unfold z4;split
  . simp
  rename_i hl;have:=qAI.2 hl
  cases m with
  |zero=>omega
  | succ m=>
   have:=Kw hn k (l.drop n) m (by rw[qCd];rw[qCL]at h;omega);simp;omega
def EOk.valid{s e h m}(ho:EOk s h m e)(hh:h<=24)(hm:m<=400){vs}(hv:Qf vs s=true):zy vs e=0:=by
 have h2:zi e=0:=by
  unfold zi;have h3:=ho.hgt;have h4:=ho.size;rw[if_neg,show qU qs (pre e)=0 from zC.2 fun x hx=>(ho.nodes x hx).1];rintro⟨_,h|h⟩
  . omega
  rw[show WI e=(pre e).length by unfold WI;rw[wr (by omega) (by omega)]]at h;omega
 have h3:Yc e=false:=by
  unfold Yc;rw[qB4];intro x hx;have:=ho.nodes x hx;simp[this.2.1,this.2.2.1]
 have h4:Zj vs e=false:=by
  unfold Zj;rw[qB4];intro x hx;have:=(ho.nodes x hx).2.2.2;by_cases h:x.op=2
  . simp[h,this h,hv]
  simp[h]
 unfold zy;simp[h2,h3,h4]
def Vw{n}(h0:0<=n)(h1:n<=65535)(vs):zy vs (jD n)=0:=by
 have hp:=ZK n;have h2:zi (jD n)=0:=by
  unfold zi WI;rw[hp];have:hgt (jD n)=1:=by simp[wv,jD]
  rw[this];simp[qU,qaA h0 h1];decide
 unfold zy;simp[h2,show Yc (jD n)=false by unfold Yc;rw[hp];simp[jD,Ex.op],show Zj vs (jD n)=false by unfold Zj;rw[hp];simp[jD,Ex.op]]
def qbJ{s}(hs:k0 s=true){l:List Rg}(hl:l.length<=128)(hr:∀r∈l,ql4 r){vs}(hv:Qf vs s=true):zy vs (yZ s l)=0:=by
 unfold yZ;split
 . exact Vw (by omega) (by omega) vs
 rename_i h0;have hpos:=qAI.2 h0;have h1:=EOk.ins hs (l:=l.take 16) (qAI.1 (by rw[qA8];omega)) (by rw[qA8];omega) (fun r h=>hr r (qBa h));have h2:=EOk.chain hs (z4 16 l.length (l.drop 16)) (h:=0) h1 (fun c hc=>by
  obtain⟨a,b,c'⟩:=Kv (by omega) _ _ c hc;exact⟨a,b,fun r h=>hr r (qBS (c' r h))⟩)
 have h3:=Kw (n:=16) (by omega) l.length (l.drop 16) 7 (by rw[qCd];omega);exact h2.valid (by omega) (by omega) hv
def qoS{out:List Rg}{n}(hn:0<=n/\n<=65535)(h1:∀r∈out,ql4 r)(h2:∀r,out.getLast?=some r->r.2<n/\2*(out.length:Int)<=r.2+2) :
 (∀r∈vB out n,ql4 r)/\∃r,(vB out n).getLast?=some r/\r.2=n/\2*((vB out n).length:Int)<=n+2:=by
 have new:(∀r,out.getLast?=some r->¬r.2=n-1)->(∀r∈out++[(n,n)],ql4 r)/\∃r,(out++[(n,n)]).getLast?=some r/\r.2=n/\2*((out++[(n,n)]).length:Int)<=n+2:=by
  intro hne;refine⟨fun r hr=>?_,(n,n),by simp,rfl,?_⟩
  . rcases qAC.1 hr with hr|hr
    . exact h1 r hr
    . simp only[qAM,qB0,or_false]at hr;subst hr;exact⟨hn,hn⟩
  rw[qAq]
  cases h:out.getLast? with
  | none=>
   rw[qCJ]at h;subst h;simp;omega
  | some r=>
   have:=h2 r h;have:=hne r h;simp only[qAD,qBh];omega
 unfold vB
 cases h:out.getLast? with
 |none=>exact new fun r hr=>by rw[h]at hr;cases hr
 | some r=>
  simp only;have h3:=h2 r h;split
  . rename_i he;obtain⟨l,rfl⟩:=qCK.1 h;rw[qDB];refine⟨fun x hx=>?_,(r.1,n),by simp,rfl,?_⟩
    . rcases qAC.1 hx with hx|hx
      . exact h1 x (by simp[hx])
      . simp only[qAM,qB0,or_false]at hx;subst hx;exact⟨(h1 r (by simp)).1,hn⟩
    simp only[qAq,qAD,qBh]at h3⊢;omega
  rename_i he;exact new fun x hx=>by rw[h]at hx;cases hx;exact he
def qcX:∀{l:List Int}{out:List Rg}{N:Int},l.Pairwise (· < ·)->(∀x∈l,0<=x/\x<=65535/\x<N)->(∀r∈out,ql4 r)->(∀r,out.getLast?=some r->r.2<N/\2*(out.length:Int)<=r.2+2/\∀x∈l,r.2<x) ->
 (∀r∈l.foldl vB out,ql4 r)/\∀r,(l.foldl vB out).getLast?=some r->r.2<N/\2*((l.foldl vB out).length:Int)<=r.2+2
 |[],out,N,_,_,h1,h2=>⟨h1,fun r hr=>⟨(h2 r hr).1,(h2 r hr).2.1⟩⟩
 | x::l,out,N,hp,hx,h1,h2=>by
  rw[qA1];obtain⟨hp1,hp2⟩:=qDk.1 hp;have hx0:=hx x (by simp);obtain⟨a1,r,a2,a3,a4⟩:=qoS (n:=x) ⟨hx0.1,hx0.2.1⟩ h1 (fun r hr=>⟨(h2 r hr).2.2 x (by simp),(h2 r hr).2.1⟩);refine qcX hp2 (fun y hy=>hx y (by simp[hy])) a1 fun r' hr'=>?_
  rw[a2]at hr';cases hr';exact⟨by omega,by omega,fun y hy=>by rw[a3];exact hp1 y hy⟩
def qd9{l N}(hp:l.Pairwise (· < ·))(hx:∀x∈l,0<=x/\x<=65535/\x<N)(hN:0<=N):(∀r∈Qz l,ql4 r)/\2*((Qz l).length:Int)<=N+1:=by
 have:=qcX (out:=[]) hp hx (fun r h=>by cases h) (fun r h=>by cases h);refine⟨this.1,?_⟩
 cases h:(Qz l).getLast? with
 |none=>rw[qCJ]at h;rw[h];simp;omega
 |some r=>have:=this.2 r h;show 2*((l.foldl vB []).length:Int)<=_;omega
def qag(v l):(Zv v l).Pairwise (· < ·)/\∀x∈Zv v l,0<=x/\x<(zP v:Nat):=by
 unfold Zv;refine⟨List.Pairwise.filter _ ?_,fun x hx=>?_⟩
 . rw[qDp];exact List.pairwise_lt_range.imp fun h=>by omega
 obtain⟨hx,_⟩:=qBu.1 hx;obtain⟨n,hn,rfl⟩:=qAN.1 hx;have:=qBq.1 hn;omega
def Yw{v}(h:v.width<=8):zP v<=256:=by
 unfold zP;have:v.width.toNat<=8:=by omega
 calc 2^v.width.toNat<=2^8:=qAV (by omega) this
  _=256:=rfl
def qhj{vs}(hv:∀v∈vs,jW v=0)(d):zy vs (vE vs d)=0:=by
 unfold vE;split
 . rename_i v h;have hm:=qAn h;have h1:=zd (hv v hm);have h2:=qag v d.weights;have h3:=Yw h1.2.2;have h4:=qd9 (N:=(zP v:Nat)) h2.1 (fun x hx=>by have:=h2.2 x hx;omega) (by omega);exact qbJ h1.1 (by omega) h4.1 (by unfold Qf;rw[qAW];exact⟨v,hm,by simp⟩)
 exact Vw (by omega) (by omega) vs
def qgs:∀(l:List Ex) (i) (a),l[i]?=some a->((l.flatMap qp).drop (i*4)).take 4=qp a/\i*4+4<=(l.flatMap qp).length
 |[],i,a,h=>by simp at h
 | x::r,0,a,h=>by
  simp at h;subst h;rw[qAO,qCl,qBz,qBx (by rw[zh];omega),qAs (by rw[zh];omega),qAq,zh];exact⟨rfl,by omega⟩
 | x::r,i+1,a,h=>by
  have ih:=qgs r i a (by simpa using h);rw[qAO,qCe,zh,qA3 (by rw[zh];omega),qAK,show(i+1)*4-4=i*4 by omega,qAq,zh];exact⟨ih.1,by omega⟩
def qkH:∀(l:List Ex) (i) (a),l[i]?=some a->zx (l.flatMap qp) (i*4) (qp a)=l.flatMap qp:=fun l i a h=>by
 have hi:=(qAm.1 h).1;rw[QA (sz:=4) zh l i a hi];have:l.set i a=l:=by
  obtain⟨_,rfl⟩:=qAm.1 h;exact List.set_getElem_self hi
 rw[this]
def qfI{e a}(h:a∈e.args):(pre a).length<=(pre e).length:=by
 rw[jB e,qAD];have:∀l:List Ex,a∈l->(pre a).length<=(wm l).length:=by
  intro l
  induction l with
  |nil=>intro h;cases h
  | cons x r ih=>
   intro h;rw[yy,qAq];rcases qAM.1 h with rfl|h
   . omega
   have:=ih h;omega
 have:=this _ h;omega
def qgK(e):e.args.length<=(pre e).length:=by
 rw[jB e,qAD];have:∀l:List Ex,l.length<=(wm l).length:=by
  intro l
  induction l with
  |nil=>simp
  |cons x r ih=>rw[yy,qAq,jB x];simp;omega
 have:=this e.args;omega
def qk6:∀e,(pre e).length<=100000->Pure prog GG 73 [.agg (qp e)] (.agg (qp e)):=by
 refine qE7 fun e ih hs=>?_
 have hal:=qgK e;refine qEF o0 true qe func73 rfl (by kernel_rfl) ?_;have hE:=qc e;by_cases h0:e.args=[]
 . rw[h0]at hE;rw[hE];simp[qI,kj,qbq];refine qEO (fun n ev U=>ev 1=.ptr 0 0/\ev 2=.ptr 1 0/\ev 3=.sl 4 [] (.chain 0 0)/\ev 14=.int .i64 0/\ev 15=.int .i64 0/\∃T,U=⟨[.cells [.int .i64 e.op,.int .i64 e.n,.str e.name,.sl 4 [] .none],.cells [.int .i64 0,.int .i64 0,.str [],.sl 0 [] .nil]],T⟩) 0 ?_ ?_
   . exact⟨by simp,by simp,by simp,by simp,by simp,_,rfl⟩
   rintro n ev U R hR ⟨e1,e2,e3,e14,e15,T,rfl⟩;simp[e1,e2,e3,e14,e15];have hfc:∀H,frz H 7 (.sl 4 [] (.chain 0 0))=.sl 4 [] .none:=fun H=>by rw[frz];simp[qO]
   rw[frz];simp[qO,qz,Zi,qeC,hfc,zn]
 have hpos:=qAI.2 h0;have hne:¬(e.args.length:Int)=0:=by omega
 have hb:e.args.length<=549755813888:=by omega
 have hz:((List.replicate e.args.length [AV.int .i64 0,.int .i64 0,.str [],.sl 0 [] .nil]).flatten).length=e.args.length*4:=by simp
 have hput:=putAt_all ((List.replicate e.args.length [AV.int .i64 0,.int .i64 0,.str [],.sl 0 [] .nil]).flatten) (e.args.flatMap qp) (by rw[hz,jq (sz:=4) zh e.args]);have hcp:∀B0 B1:Blk,kj (Dof prog) ⟨[B0,B1,.cells (List.replicate e.args.length [AV.int .i64 0,.int .i64 0,.str [],.sl 0 [] .nil]).flatten],[]⟩ 23 (.ms 2 0 e.args.length 4) (.sl 4 (e.args.map qp) .none)=some (.int .i64 e.args.length,⟨[B0,B1,.cells (e.args.flatMap qp)],[]⟩):=fun B0 B1=>by
  have hz':=hz;generalize (List.replicate e.args.length [AV.int .i64 0,.int .i64 0,.str [],.sl 0 [] .nil]).flatten=Z at *;simp[kj,qbq,qpj,show(e.args.map qp).flatten=e.args.flatMap qp by rw[qBM],hput,hz',show(e.args.map qp).take e.args.length=e.args.map qp from qAs (by simp),h0]
 have hat:=qgs e.args;have hpt:=qkH e.args;rw[hE];generalize hZ:(List.replicate e.args.length [AV.int .i64 0,.int .i64 0,.str [],.sl 0 [] .nil]).flatten=Z at *;generalize hFE:e.args.flatMap qp=FE at *;simp[qI,h0,show(e.args.length:Int)<=549755813888 by omega,hZ,hcp];refine qEZ e.args (fun d ev U=>ev 1=.ptr 0 0/\ev 2=.ptr 1 0/\ev 3=.ms 2 0 e.args.length 4/\ev 14=.int .i64 e.args.length/\ev 15=.int .i64 d.length/\U=⟨[.cells [.int .i64 e.op,.int .i64 e.n,.str e.name,.sl 4 (e.args.map qp) .none],.cells [.int .i64 0,.int .i64 0,.str [],.sl 0 [] .nil],.cells FE],[]⟩) ?_ ?_ ?_
 . exact⟨by simp,by simp,by simp,by simp,by simp,by simp⟩
 . rintro d a rest ev U R hR hd hx hlt ⟨e1,e2,e3,e14,e15,rfl⟩;have hm:=qAn hx;have hia:=ih a hm (by have:=qfI hm;omega);have hw:=wr (n:=(d.length:Int)+1) (by omega) (by omega);obtain⟨ht,hle⟩:=hat d.length a hx;have hp:=hpt d.length a hx;have ha2:=yF a;have hl4:=zh a;have hnr:=nrE a;generalize qp a=W at *;simp[-qV,e3,e14,e15,hlt,ht,hle];refine qEJ hia (by simp[qz,hnr]) ?_;simp[-qV,ha2,hl4,hp,hle,e15,hlt,hw];exact hR _ _ ⟨by simp[e1],by simp[e2],by simp[e3],by simp[e14],by simp,rfl⟩
 rintro ev U ⟨e1,e2,e3,e14,e15,rfl⟩;simp[e1,e2,e3,e14,e15];have ho:jx 2 4 qp [Blk.cells [AV.int .i64 e.op,.int .i64 e.n,.str e.name,.ms 2 0 e.args.length 4],.cells [.int .i64 e.op,.int .i64 e.n,.str e.name,.ms 2 0 e.args.length 4],.cells FE] (.ms 2 0 e.args.length 4) e.args:=.inr ⟨h0,rfl,by rw[hFE];rfl⟩;have f1:=ho.frz zh (fun x=>nrE x) jr 6;have f2:=ho.frzNo zh (fun x=>nrE x) jr 6;rw[frz,if_neg (by simp[qO,qz])];simp only[qAz,qAZ,Zi,qeC,qO,qz,Leq,zn,qCo,qBC,and_true,true_and];exact⟨f2,f1⟩
def inR(v:Int)(r:Rg):Bool:=decide (r.1<=v)&&decide (v<=r.2)
def qp2(b):(b2i b≠0)↔b=true:=by cases b<;>simp[b2i]
def qiT(env n):yf env (jD n)=n:=by rw[yO];simp[jD,vl]
def qmm(env s):yf env (wG s)=(jA env s).getD 0:=by rw[yO];simp[wG,vl]
def qtP(env a b):(yf env (orE a b)≠0)↔(yf env a≠0\/yf env b≠0):=by
 rw[yO];have:vl env (orE a b).op (orE a b).n (orE a b).name ((orE a b).args.map (yf env))=b2i (!decide (yf env a=0)||!decide (yf env b=0)):=by
  simp[orE,vl,opW,jU]
 rw[this,qp2];simp
def KV(v):∀(l:List Rg),je v (l.flatMap fun r=>[r.1,r.2])=l.any (inR v)
 |[]=>rfl
 |r::l=>by rw[qAO];simp only[qAL,qAK,je,qCn,KV v l,inR]
def qfj(env):∀(l:List Rg),(l.flatMap fun r=>[jD r.1,jD r.2]).map (yf env)=l.flatMap fun r=>[r.1,r.2]
 |[]=>rfl
 |r::l=>by rw[qAO,qBp,qfj env l,qAO];simp[qiT]
def qiU(env s)(l:List Rg):(yf env (Qd s l)≠0)↔∃r∈l,inR ((jA env s).getD 0) r=true:=by
 rw[yO];have:vl env (Qd s l).op (Qd s l).n (Qd s l).name ((Qd s l).args.map (yf env))=b2i (l.any (inR ((jA env s).getD 0))):=by
  rw[<- KV,<- qfj env l];simp[Qd,vl,opW,qmm]
 rw[this,qp2,qAW]
def qbH(env s):∀(l:List (List Rg)) (out),(yf env (Qq s out l)≠0)↔(yf env out≠0\/∃c∈l,∃r∈c,inR ((jA env s).getD 0) r=true)
 |[],out=>by simp[Qq]
 | c::l,out=>by
  show(yf env (Qq s (orE out (Qd s c)) l)≠0)↔_;rw[qbH env s l,qtP,qiU];simp only[qAM,exists_eq_or_imp,or_assoc]
def Vr{α:Type}{n}(hn:0<n):∀(k) (l:List α),l.length<=k->(z4 n k l).flatten=l
 | 0,l,h=>by
  have:l=[]:=qAA (by omega);subst this;rfl
 | k+1,l,h=>by
  unfold z4;split
  . rename_i h0;rw[h0];rfl
  rename_i h0;have:=qAI.2 h0;rw[qBb,Vr hn k _ (by rw[qCd];omega),qA9]
def qiS(env s)(l:List Rg):(yf env (yZ s l)≠0)↔∃r∈l,inR ((jA env s).getD 0) r=true:=by
 unfold yZ;split
 . rename_i h;subst h;simp[qiT]
 rw[qbH,qiU];have h1:=Vr (n:=16) (by omega) l.length (l.drop 16) (by rw[qCd];omega);constructor
 . rintro(⟨r,hr,h⟩|⟨c,hc,r,hr,h⟩)
   . exact⟨r,qBa hr,h⟩
   . refine⟨r,qBS (i:=16) ?_,h⟩;rw[<- h1];exact qAX.2 ⟨c,hc,hr⟩
 rintro⟨r,hr,h⟩;rw[<- qA9 16 l]at hr;rcases qAC.1 hr with hr|hr
 . exact .inl ⟨r,hr,h⟩
 rw[<- h1]at hr;obtain⟨c,hc,hr⟩:=qAX.1 hr;exact .inr ⟨c,hc,r,hr,h⟩
def qfB(v):∀(l),(∃r∈Qz l,inR v r=true)↔v∈l:=by
 have key:∀(l:List Int) (out:List Rg),(∀r∈out,r.1<=r.2)->((∃r∈l.foldl vB out,inR v r=true)↔((∃r∈out,inR v r=true)\/v∈l)):=by
  intro l
  induction l with
  |nil=>intro out _;simp
  | cons n l ih=>
   intro out ho;rw[qA1];have hs:(∀r∈vB out n,r.1<=r.2)/\((∃r∈vB out n,inR v r=true)↔((∃r∈out,inR v r=true)\/v=n)):=by
    unfold vB;split
    . rename_i r hr;obtain⟨pre,hp⟩:=qCK.1 hr;subst hp;have hr2:=ho r (by simp);split
      . rename_i hn;rw[qDB];refine⟨fun q hq=>?_,?_⟩
        . rcases qAC.1 hq with hq|hq
          . exact ho q (by simp[hq])
          . have:=qA2.1 hq;subst this;dsimp only;omega
        simp only[qAC,qA2,inR,qAr,decide_eq_true_eq];constructor
        . rintro⟨q,hq|rfl,h⟩
          . exact .inl ⟨q,.inl hq,h⟩
          . dsimp only at h;by_cases hv:v=n
            . exact .inr hv
            exact .inl ⟨r,.inr rfl,by omega⟩
        rintro(⟨q,hq|rfl,h⟩|rfl)
        . exact⟨q,.inl hq,h⟩
        . exact⟨_,.inr rfl,by dsimp only;omega⟩
        exact⟨_,.inr rfl,by dsimp only;omega⟩
      refine⟨fun q hq=>?_,?_⟩
      . rcases qAC.1 hq with hq|hq
        . exact ho q hq
        . have:=qA2.1 hq;subst this;exact qDI _
      simp only[qAC,qA2,inR,qAr,decide_eq_true_eq];constructor
      . rintro⟨q,hq|rfl,h⟩
        . exact .inl ⟨q,hq,h⟩
        . exact .inr (by dsimp only at h;omega)
      rintro(⟨q,hq,h⟩|rfl)
      . exact⟨q,.inl hq,h⟩
      exact⟨_,.inr rfl,by dsimp only;omega⟩
    refine⟨fun q hq=>?_,?_⟩
    . rcases qAC.1 hq with hq|hq
      . exact ho q hq
      . have:=qA2.1 hq;subst this;exact qDI _
    simp only[qAC,qA2,inR,qAr,decide_eq_true_eq];constructor
    . rintro⟨q,hq|rfl,h⟩
      . exact .inl ⟨q,hq,h⟩
      . exact .inr (by dsimp only at h;omega)
    rintro(⟨q,hq,h⟩|rfl)
    . exact⟨q,.inl hq,h⟩
    exact⟨_,.inr rfl,by dsimp only;omega⟩
   rw[ih _ hs.1,hs.2];simp only[qAM,or_assoc]
 intro l;have:=key l [] (by simp);simpa[Qz] using this
def qhb(env s l):(yf env (yZ s (Qz l))≠0)↔(jA env s).getD 0∈l:=by
 rw[qiS,qfB]
def jf(l:List Rg):List Int:=l.flatMap fun r=>[r.1,r.2]
def ZY(l:List Rg):(jf l).length=2*l.length:=by
 unfold jf
 induction l with
 |nil=>rfl
 |cons r l ih=>rw[qAO,qAq,ih];simp;omega
def qh6(l:List Rg)(i):((jf l).drop (32*i)).take 32=jf ((l.drop (16*i)).take 16):=by
 have hd:∀(l:List Rg) (k:Nat),(jf l).drop (2*k)=jf (l.drop k):=by
  intro l k
  induction k generalizing l with
  |zero=>simp
  | succ k ih=>
   cases l with
   |nil=>simp[jf]
   | cons r l=>
    have:jf (r::l)=r.1::r.2::jf l:=by simp[jf]
    rw[this,qC8,<- ih];show List.drop (2*k+1+1) _=_;rw[qC8,qC8]
 have ht:∀(l:List Rg) (k:Nat),(jf l).take (2*k)=jf (l.take k):=by
  intro l k
  induction k generalizing l with
  |zero=>simp[jf]
  | succ k ih=>
   cases l with
   |nil=>simp[jf]
   | cons r l=>
    have:jf (r::l)=r.1::r.2::jf l:=by simp[jf]
    rw[this,show jf ((r::l).take (k+1))=r.1::r.2::jf (l.take k) by simp[jf],<- ih];show List.take (2*k+1+1) _=_;rw[qB9,qB9]
 rw[show 32*i=2*(16*i) by omega,hd];exact ht _ 16
def qim(f:Nat->Bool)(N n:Nat):List Int :=
 if f n=true then(if n=0\/f (n-1)=false then [(n:Int)] else [])++(if n+1=N\/f (n+1)=false then [(n:Int)] else []) else []
def qdh(f:Nat->Bool)(N k:Nat):List Int:=(List.range k).flatMap (qim f N)
def kv(f:Nat->Bool)(k:Nat):List Rg:=Qz (((List.range k).filter f).map fun n:Nat=>(n:Int))
def Ve(f k):kv f (k+1)=if f k=true then vB (kv f k) (k:Int) else kv f k:=by
 unfold kv Qz;rw[qBF,qDh,qBp,qBj];cases h:f k<;>simp[h]
def Wq(f N k):qdh f N (k+1)=qdh f N k++qim f N k:=by
 unfold qdh;rw[qBF,List.flatMap_append];simp
def Vf(f):∀k,(∀r∈kv f k,r.2<(k:Int))/\((0<k/\f (k-1)=true)->∃R a,kv f k=R++[(a,(k:Int)-1)])/\(¬(0<k/\f (k-1)=true)->∀r,(kv f k).getLast?=some r->r.2≠(k:Int)-1)
 |0=>by refine⟨?_,fun h=>absurd h.1 (by omega),?_⟩<;>simp[kv,Qz]
 | k+1=>by
  obtain⟨h1,h2,h3⟩:=Vf f k;rw[Ve]
  cases hk:f k with
  | false=>
   rw[if_neg (by simp)];refine⟨fun r hr=>by have:=h1 r hr;omega,fun h=>absurd h.2 (by simp[hk]),fun _ r hr=>?_⟩;have:=h1 r (List.mem_of_getLast? hr);omega
  | true=>
   rw[if_pos rfl];have e1:((k+1:Nat):Int)-1=k:=(by omega);rw[e1];have hadd:∃R a,vB (kv f k) (k:Int)=R++[(a,(k:Int))]/\∀r∈R,r.2<((k+1:Nat):Int):=by
    unfold vB
    cases hg:(kv f k).getLast? with
    |none=>exact⟨_,_,rfl,fun r hr=>by have:=h1 r hr;omega⟩
    | some q=>
     dsimp only;split
     . exact⟨_,_,rfl,fun r hr=>by have:=h1 r (List.dropLast_subset _ hr);omega⟩
     exact⟨_,_,rfl,fun r hr=>by have:=h1 r hr;omega⟩
   obtain⟨R,a,hR,hRl⟩:=hadd;rw[hR];refine⟨fun r hr=>?_,fun _=>⟨R,a,rfl⟩,fun h=>absurd ⟨by omega,by simpa using hk⟩ h⟩;rcases qAC.1 hr with h|h
   . exact hRl r h
   rw[qA2.1 h];show(k:Int)<_;omega
def qgF(f N):∀k,k<=N->(if 0<k/\f (k-1)=true/\k<N/\f k=true then ∃R a,kv f k=R++[(a,(k:Int)-1)]/\qdh f N k=jf R++[a] else qdh f N k=jf (kv f k))
 |0,_=>by rw[if_neg (by omega)];rfl
 | k+1,hk=>by
  have ih:=qgF f N k (by omega);obtain⟨h1,h2,h3⟩:=Vf f k;rw[Wq,Ve];have e1:((k+1:Nat):Int)-1=k:=by omega
  have e2:k+1-1=k:=by omega
  rw[e1,e2]
  cases hfk:f k with
  | false=>
   rw[if_neg (by simp[hfk]) ]at ih;rw[if_neg (by simp),if_neg (by simp)];rw[ih];simp[qim,hfk]
  | true=>
   rw[if_pos rfl];have hkN:k<N:=(by omega);by_cases hp:0<k/\f (k-1)=true
   . rw[if_pos ⟨hp.1,hp.2,hkN,hfk⟩]at ih;obtain⟨R,a,hR,hb⟩:=ih;have hadd:vB (kv f k) (k:Int)=R++[(a,(k:Int))]:=by
      unfold vB;rw[hR];simp
     rw[hadd,hb];have hb1:qim f N k=if k+1=N\/f (k+1)=false then [(k:Int)] else []:=by
      have hno:¬(k=0\/f (k-1)=false):=by
       intro h;rcases h with h|h
       . omega
       rw[hp.2]at h;cases h
      unfold qim;rw[if_pos hfk,if_neg hno];simp
     rw[hb1];by_cases hn:k+1=N\/f (k+1)=false
     . have hng:¬(0<k+1/\true=true/\k+1<N/\f (k+1)=true):=by
        rintro⟨_,_,h4,h5⟩;rcases hn with h|h
        . omega
        rw[h5]at h;cases h
       rw[if_pos hn,if_neg hng];simp[jf]
     rw[if_neg hn,if_pos ⟨by omega,rfl,by omega,by cases h:f (k+1) with|true=>rfl|false=>exact absurd (.inr h) hn⟩];exact⟨R,a,rfl,by simp⟩
   have hno:qdh f N k=jf (kv f k):=by
    rw[if_neg (fun h=>hp ⟨h.1,h.2.1⟩)]at ih;exact ih
   have hadd:vB (kv f k) (k:Int)=kv f k++[((k:Int),(k:Int))]:=by
    unfold vB
    cases hg:(kv f k).getLast? with
    |none=>rfl
    |some q=>dsimp only;rw[if_neg (h3 hp q hg)]
   rw[hadd,hno];have hb1:qim f N k=[(k:Int)]++if k+1=N\/f (k+1)=false then [(k:Int)] else []:=by
    unfold qim;rw[if_pos hfk,if_pos];by_cases h0:k=0
    . exact .inl h0
    right
    cases h:f (k-1) with
    |false=>rfl
    |true=>exact absurd ⟨by omega,h⟩ hp
   rw[hb1];by_cases hn:k+1=N\/f (k+1)=false
   . have hng:¬(0<k+1/\true=true/\k+1<N/\f (k+1)=true):=by
      rintro⟨_,_,h4,h5⟩;rcases hn with h|h
      . omega
      rw[h5]at h;cases h
     rw[if_pos hn,if_neg hng];simp[jf]
   rw[if_neg hn,if_pos ⟨by omega,rfl,by omega,by cases h:f (k+1) with|true=>rfl|false=>exact absurd (.inr h) hn⟩];exact⟨kv f k,k,rfl,by simp⟩
def qoD(f N):qdh f N N=jf (kv f N):=by
 have:=qgF f N N (qAy _);rw[if_neg (by omega)]at this;exact this
def qbM(v l):Qz (Zv v l)=kv (fun n=>vI l n) (zP v):=by
 unfold kv Zv;rw[List.filter_map];rfl
