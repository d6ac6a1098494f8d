import Derived.Test.YtafbccendejkeaaGreatDoorPv08
import Derived.Test.YtafbccendejkeaaGreatDoorPv09
import Derived.Test.YtafbccendejkeaaGreatDoorPv07
set_option maxHeartbeats 16000000
set_option maxRecDepth 100000
set_option linter.all false
namespace Go.Proofs.YtafbccendejkeaaGreatDoor
open Go Go.Abs Tryz
def oM:Opts:=⟨true,[],[],[]⟩
@[simp]def qz8:oM.mu=true:=rfl
@[simp]def qz9:oM.lw=[]:=rfl
def qsC(n:Nat)(hn:n<=1000000)(U:St):qj prog GG 253 [.sl 0 [] .nil,.int .i64 n] U (fun r U'=>(n=0/\r=.sl 0 [] .nil/\U'=U)\/(0<n/\r=.ms U.H.length 0 0 4/\∃c,U'=U.push (.cells c))):=by
 refine qj.vcO oM qX func253 rfl (by kernel_rfl) ?_;have w0:IntKind.i64.wrap 0=0:=by decide
 by_cases h0:n=0
 . subst h0;simp[qt5,w0]
 have h2:(0:Int)<n:=by omega
 simp[qt5,show ¬(n:Int)<0 by omega,show IntKind.i64.wrap (n:Int)=n from wr (by omega) (by omega),w0,show 0<n by omega,show(n:Int)<=549755813888 by omega,zl,zS,ki,zU,zr,zY,qR]
def CR(T R:List Ex)(v:AV)(U:St):Prop:=(T=[]/\v=.sl 0 [] .nil)\/∃b c,v=.ms b 0 R.length 4/\U.H[b]?=some (.cells c)/\R.length*4<=c.length/\c.take (R.length*4)=(R.map qp).flatten
@[simp]def qbh(e):(qp e).length=4:=by rw[qc];rfl
def Wp:∀(l:List Ex),((l.map qp).flatten).length=l.length*4
 |[]=>rfl
 |a::r=>by simp only[qBn,qBZ,qBe,qbh,Wp r,qBr];omega
def WJ:∀(R:List Ex) (c),R.length*4<=c.length->c.take (R.length*4)=(R.map qp).flatten->vS 4 R.length c=R.map qp
 |[],c,_,_=>rfl
 | a::r,c,hl,h=>by
  have e1:c.take 4=qp a:=by
   have:=congrArg (List.take 4) h;rw[qFi,qBn,qBZ,List.take_left' (qbh a)]at this;rw[<- this];congr 1;simp only[qBr];omega
  have e2:(c.drop 4).take (r.length*4)=(r.map qp).flatten:=by
   have:=congrArg (List.drop 4) h;rw[qBn,qBZ,List.drop_left' (qbh a),qFe]at this;rw[<- this];congr 1;simp only[qBr];omega
  rw[qBr,vS,e1,WJ r (c.drop 4) (by simp only[qC5,qBr]at hl⊢;omega) e2,qBn]
def qdG{T R X b c U}(hb:U.H[b]?=some (.cells c))(hl:R.length*4<=c.length)(h:c.take (R.length*4)=(R.map qp).flatten)(hR:R.length+X.length<=1000000):
 ∃v' U',zr (Dof prog) U 23 23 (.ms b 0 R.length 4) (.sl 4 (X.map qp) .none)=some (v',U')/\CR T (R++X) v' U':=by
 cases X with
 | nil=>
  refine⟨.ms b 0 R.length 4,U,?_,.inr ⟨b,c,by simp,hb,by simpa using hl,by simpa using h⟩⟩;simp[zr,zY,qR,YM]
 | cons x X=>
  refine⟨.ms U.H.length 0 (R.length+(X.length+1)) 4,{U with H:=U.H.set b .dead++[.cells (c.take (R.length*4)++((x::X).map qp).flatten)]},?_,.inr ⟨U.H.length,c.take (R.length*4)++((x::X).map qp).flatten,by simp,by simp,?_,?_⟩⟩
  . have h1:R.length+(X.length+1)<=549755813888:=(by simp at hR;omega);simp[zr,zY,qR,YM,hb,h1,hl]
  . rw[h];simp only[qBe,Wp];omega
  rw[h,qBh (by simp only[qBe,Wp];omega),qCi,qCU]
def qlu(h s:List Ex)(hh:h.length<=10000)(hs:s.length<=10000):Pure prog GG 175 [.sl 1 [[.sl 4 (h.map qp) .none],[.sl 4 (s.map qp) .none]] .none] (.sl 4 ((h++s).map qp) .none):=by
 refine Pure.vcO oM false qX func175 rfl (by kernel_rfl) ?_;have wi:IntKind.i64.wrap 1=1:=by decide
 have wi2:IntKind.i64.wrap 2=2:=by decide
 simp;refine qFW (fun n env U=>∃i:Nat,i<=2/\n=2-i/\env 0=.sl 1 [[.sl 4 (h.map qp) .none],[.sl 4 (s.map qp) .none]] .none/\env 3=.int .i64 (if i=0 then 0 else if i=1 then h.length else h.length+s.length)/\env 9=.sl 1 [[.sl 4 (h.map qp) .none],[.sl 4 (s.map qp) .none]] .none/\env 10=.int .i64 2/\env 11=.int .i64 i/\U=⟨[],[]⟩) 2 ⟨0,by simp⟩ ?_;rintro n env U ⟨i,hi,rfl,h0,h3,h9,h10,h11,rfl⟩;have hcase:i=0\/i=1\/i=2:=by omega
 rcases hcase with rfl|rfl|rfl
 . simp[h0,h3,h9,h10,h11,show IntKind.i64.wrap (h.length:Int)=h.length from wr (by omega) (by omega),show ¬(h.length:Int)<0 by omega,wi];exact⟨1,by omega,1,by omega,rfl,rfl,rfl⟩
 . simp[h0,h3,h9,h10,h11,show IntKind.i64.wrap ((h.length:Int)+s.length)=h.length+s.length from wr (by omega) (by omega),show ¬(h.length:Int)+s.length<0 by omega,wi2];exact⟨2,by omega,by omega,rfl,rfl⟩
 have hN:((h.length:Int)+s.length)=((h.length+s.length:Nat):Int):=by omega
 simp[h0,h3,h9,h10,h11];rw[hN];refine qFN (qsC (h.length+s.length) (by omega) ⟨[],[]⟩) ?_;intro r U' hr;have hcr:CR (h++s) [] r U':=by
  rcases hr with⟨h1,h2,h3⟩|⟨h1,h2,c,h3⟩
  . exact .inl ⟨qBo (by rwa[qBe]),h2⟩
  subst h3;exact .inr ⟨0,c,h2,by simp⟩
 refine qFW (fun n env U=>∃i:Nat,i<=2/\n=2-i/\env 25=.sl 1 [[.sl 4 (h.map qp) .none],[.sl 4 (s.map qp) .none]] .none/\env 26=.int .i64 2/\env 27=.int .i64 i/\CR (h++s) (if i=0 then [] else if i=1 then h else h++s) (env 6) U) 2 ⟨0,by simp[];exact hcr⟩ ?_;rintro n env U ⟨i,hi,rfl,h25,h26,h27,hcr⟩;have hcase:i=0\/i=1\/i=2:=by omega
 rcases hcase with rfl|rfl|rfl
 . simp only[if_true]at hcr;rcases hcr with⟨ht,h6⟩|⟨b,c,h6,hb,hl,hc⟩
   . simp only[qEl]at ht;obtain⟨rfl,rfl⟩:=ht;simp[h25,h26,h27,h6,wi,zr,zY,qr,qR,YM,qZ];exact⟨1,by omega,1,by omega,rfl,rfl,.inl ⟨rfl,rfl⟩⟩
   obtain⟨v',U',e1,e2⟩:=qdG (T:=h++s) (X:=h) hb hl hc (by simp;omega);simp only[qB0]at h6 e1;simp[h25,h26,h27,h6,wi,e1];exact⟨1,by omega,1,by omega,rfl,rfl,by simpa using e2⟩
 . simp only[Nat.one_ne_zero,if_false,if_true]at hcr;rcases hcr with⟨ht,h6⟩|⟨b,c,h6,hb,hl,hc⟩
   . simp only[qEl]at ht;obtain⟨rfl,rfl⟩:=ht;simp[h25,h26,h27,h6,wi2,zr,zY,qr,qR,YM,qZ];exact⟨2,by omega,by omega,rfl,.inl ⟨rfl,rfl⟩⟩
   obtain⟨v',U',e1,e2⟩:=qdG (T:=h++s) (X:=s) hb hl hc (by omega);simp[h25,h26,h27,h6,wi2,e1];exact⟨2,by omega,by omega,rfl,by simpa using e2⟩
 simp only[show ¬(2:Nat)=0 by omega,show ¬(2:Nat)=1 by omega,if_false]at hcr;rcases hcr with⟨ht,h6⟩|⟨b,c,h6,hb,hl,hc⟩
 . simp only[qEl]at ht;obtain⟨rfl,rfl⟩:=ht;simp[h25,h26,h27,h6]
 have hk:=WJ (h++s) c hl hc;simp only[qBe]at hk hl;rw[qBe]at h6;simp[h25,h26,h27,h6,hb,hl,hk,W8]
def qil(p:Problem)(s:Str)(hl:Fits p.vars):Pure prog GG 179 [.str s,.rptr (qu p)] (.bool (!Qr p.vars s)):=by
 refine okzQ func179 rfl rfl ?_;simp;refine qFJ (index GG p.vars s hl) (by simp) ?_;have:=Qu (fun v:Var=>v.name==s) p.vars;simp[this,Qr]
def qsW(p)(hl:Fits p.vars)(hh:p.hard.length<=10000)(hs:p.soft.length<=10000)(hw:∀e∈p.hard++p.soft,Wen e/\hgt e<=1000/\(pre e).length<=100000):
 Pure prog GG 123 [.agg (qu p)] (.int .i64 (qU (zy p.vars) (p.hard++p.soft))):=by
 refine okzQ func123 rfl rfl ?_;simp[qe,ql];obtain⟨L,hL⟩:∃L,L=p.hard++p.soft:=⟨_,rfl⟩;have hlen:L.length<=20000:=by rw[hL,qBe];omega
 refine qFK (qlu p.hard p.soft hh hs) (by simp) (by simp[Leq]) ?_;rw[<- hL]at hw⊢;simp;refine qFW (fun n env U=>∃i tail,i<=L.length/\n=L.length-i/\env 1=.ptr 0 0/\env 11=.sl 4 (L.map qp) .none/\env 12=.int .i64 L.length/\env 13=.int .i64 i/\U=⟨.cells (qu p)::tail,[]⟩/\∀e∈L.take i,zy p.vars e=0) L.length ⟨0,[],by simp⟩ ?_;rintro n env U ⟨i,tail,hi,rfl,h1,h11,h12,h13,rfl,hz⟩
 cases hv:L[i]? with
 | some e=>
  obtain⟨hc,hv'⟩:=qBa.1 hv;have hm:=qBb hv;obtain⟨hwe,hh1,hp1⟩:=hw e hm;have bad:zy p.vars e≠0->qU (zy p.vars) L=zy p.vars e:=fun h=>wj hv hz h
  simp[h11,h12,h13,hc,hv',qc e,qBO];rw[<- qc e];refine qFJ (Ki e hwe (by omega)) (by simp) ?_;by_cases h0:zk e=0
  . simp[h0,qc e];rw[<- qc e];refine qFJ (QE e hwe hp1) (by simp) ?_;have hab:=QZ (e:=e);cases ha:Yq e
    . rw[ha]at hab;have hlz:(zO [3,24] e).length=0:=(by have:=of_decide_eq_false hab;omega);have hnil:=qBo hlz;simp[hnil,h1,qc e];rw[<- qc e];refine qFJ (Z5 e hwe hp1) (by simp) ?_
      try simp[h1,h11,h12,h13]
      have hfn:Fits (zO [2] e):=by
       have:∀(l:List Ex) (s:List Str),(l.foldl (WT [2]) s).length<=s.length+l.length:=by
        intro l
        induction l with
        |nil=>intro s;simp
        |cons a r ih=>intro s;have:=ih (WT [2] s a);have:=vO (ops:=[2]) (s:=s) (e:=a);simp only[qBP,qBr];omega
       have:=this (pre e) [];simp only[Fits,zO,qB0]at this⊢;omega
      refine qa.lent (WG GG (zO [2] e) (fun s=>!Qr p.vars s) 179 [] [.rptr (qu p)] hfn rfl (by simp) fun s _=>qil p s hl) rfl ?_ ?_
      . simp[frz]
      rw[QR];cases hf:Zx p.vars e
      . have x:zy p.vars e=0:=(by simp only[zy,h0,ha,hf];rfl);simp[h1,h11,h12,h13];exact⟨_,by omega,i+1,by omega,rfl,wr (by omega) (by omega),qW hv hz x⟩
      have x:zy p.vars e=7:=(by simp only[zy,h0,ha,hf];rfl);rw[bad (by rw[x];decide),x];simp
    rw[ha]at hab;have x:zy p.vars e=9:=(by simp only[zy,h0,ha];rfl);rw[bad (by rw[x];decide),x];simp[of_decide_eq_true hab]
  have x:zy p.vars e=zk e:=by simp only[zy];rw[if_pos h0]
  rw[bad (by rwa[x]),x];simp[h0]
 | none=>
  have hc:¬i<L.length:=by simp at hv;omega
  rw[show L.take i=L from qBh (by omega)]at hz;rw[zC.2 hz];simp[h11,h12,h13,hc]
abbrev Rg:=Int×Int
@[simp]def kD(r:Rg):List AV:=[.int .i64 r.1,.int .i64 r.2]
def vN(out:List Rg)(n:Int):List Rg:=match out.getLast? with
 |some r=>if r.2=n-1 then out.dropLast++[(r.1,n)] else out++[(n,n)]
 |none=>out++[(n,n)]
def QL(l:List Int):List Rg:=l.foldl vN []
def jH(n:Int):Ex:=.mk 1 n [] []
def wS(s:Str):Ex:=.mk 2 0 s []
def Qp(s:Str)(l:List Rg):Ex:=.mk 23 0 [] (wS s::l.flatMap fun r=>[jH r.1,jH r.2])
def orE(a b:Ex):Ex:=.mk 20 0 [] [a,b]
def z6{α:Type}(n:Nat):Nat->List α->List (List α)
 |0,_=>[]
 |k+1,l=>if l=[] then [] else l.take n::z6 n k (l.drop n)
def QB(s:Str)(out:Ex)(l:List (List Rg)):Ex:=l.foldl (fun o c=>orE o (Qp s c)) out
def kh(s:Str)(l:List Rg):Ex:=if l=[] then jH 0 else QB s (Qp s (l.take 16)) (z6 16 l.length (l.drop 16))
def inW(n:Int)(w:Weight):Bool:=decide (w.lo<=n)&&decide (n<=w.hi)
def vT(l:List Weight)(n:Int):Bool:=match l.find? (inW n) with
 |some w=>decide (0<w.weight)
 |none=>false
def ZJ(v:Var)(l:List Weight):List Int:=((List.range (zP v)).map fun n:Nat=>(n:Int)).filter (vT l)
def vQ(vs:List Var)(d:Dist):Ex:=match vs[d.var.toNat]? with
 |some v=>kh v.name (QL (ZJ v d.weights))
 |none=>jH 0
def wu(p:Problem):List Ex:=p.dists.map (vQ p.vars)
def qeD(p:Problem):List Ex:=p.hard++wu p
noncomputable def yu(vs:List Var)(rules:List Ex):List (Int×Ex)->List (Int×Ex)
 |[]=>[]
 |x::r=>if jK vs (rules++[x.2]) then x::yu vs (rules++[x.2]) r else yu vs rules r
def Zu(l:List Ex):List (Int×Ex):=(l.zipIdx.map fun q=>((q.2:Int),q.1)).reverse
noncomputable def Zv(p:Problem):List (Int×Ex):=(yu p.vars (qeD p) (Zu p.soft)).reverse
noncomputable def qjM(p:Problem):List Ex:=qeD p++(Zv p).map (·.2)
def qaS{n}(h0:0<=n)(h1:n<=65535):qt (jH n)=0:=by
 simp[qt,jH,qk,zB,Ex.op,Ex.n,Ex.name,Ex.args];omega
def qi6{s}(h:wq s=true):qt (wS s)=0:=by
 simp[qt,wS,qk,zB,Ex.op,Ex.n,Ex.name,Ex.args,h]
def ZZ(n):pre (jH n)=[jH n]:=by simp[jF,jH]
def qfV(s):pre (wS s)=[wS s]:=by simp[jF,wS]
def qcu:∀(l:List Rg),wD (l.flatMap fun r=>[jH r.1,jH r.2])=l.flatMap fun r=>[jH r.1,jH r.2]
 |[]=>rfl
 |r::l=>by rw[qBC,vy,qcu l];simp[ZZ]
def qfW(s)(l:List Rg):pre (Qp s l)=Qp s l::wS s::l.flatMap fun r=>[jH r.1,jH r.2]:=by
 rw[jF];show Qp s l::wD (wS s::_)=_;rw[yJ,qfV,qcu];rfl
def qaQ:∀(l:List Rg),(l.flatMap fun r=>[jH r.1,jH r.2]).length=2*l.length
 |[]=>rfl
 |r::l=>by rw[qBC,qBe,qaQ l];simp;omega
def qmp(r:Rg):Prop:=(0<=r.1/\r.1<=65535)/\0<=r.2/\r.2<=65535
structure EOk(s h m e):Prop where
 nodes:∀x∈pre e,qt x=0/\x.op≠3/\x.op≠24/\(x.op=2->x.name=s)
 hgt:hgt e<=h
 size:(pre e).length<=m
def EOk.ins{s}(hs:wq s=true){l:List Rg}(hl:l≠[])(hn:l.length<=16)(hr:∀r∈l,qmp r):EOk s 2 34 (Qp s l):=by
 have hlen:=qaQ l;have hpos:=qBv.2 hl;refine⟨fun x hx=>?_,?_,?_⟩
 . rw[qfW]at hx;rcases qBz.1 hx with rfl|hx
   . refine⟨?_,by simp[Qp,Ex.op],by simp[Qp,Ex.op],by simp[Qp,Ex.op]⟩;unfold qt qk;simp only[Qp,qFu,Ex.n_mk,qFv,qFw,qBr,hlen];have h1:(2*l.length+1)%2=1:=(by omega);have h2:3<=2*l.length+1:=(by omega);simp[h1,h2,show 2*l.length+1<=33 by omega]
   rcases qBz.1 hx with rfl|hx
   . exact⟨qi6 hs,by simp[wS,Ex.op],by simp[wS,Ex.op],fun _=>rfl⟩
   obtain⟨r,hr1,hx⟩:=qEY.1 hx;have:=hr r hr1;simp only[qBz,qCQ,or_false]at hx;rcases hx with rfl|rfl
   . exact⟨qaS this.1.1 this.1.2,by simp[jH,Ex.op],by simp[jH,Ex.op],by simp[jH,Ex.op]⟩
   exact⟨qaS this.2.1 this.2.2,by simp[jH,Ex.op],by simp[jH,Ex.op],by simp[jH,Ex.op]⟩
 . rw[wH];have:Jv (Qp s l).args<=1:=by
    show Jv (wS s::_)<=1;rw[Jc];have h1:Go.Proofs.YtafbccendejkeaaGreatDoor.hgt (wS s)=1:=(by simp[wH,wS]);have h2:Jv (l.flatMap fun r=>[jH r.1,jH r.2])<=1:=by
     clear hlen hpos hl hn hr h1
     induction l with
     |nil=>simp
     | cons r l ih=>
      rw[qBC];simp only[qBB,qBy,Jc];have:∀n,Go.Proofs.YtafbccendejkeaaGreatDoor.hgt (jH n)=1:=fun n=>by simp[wH,jH]
      rw[this,this];omega
    omega
   omega
 rw[qfW,qBr,qBr,hlen];omega
def EOk.or{s h h' m m' a b}(ha:EOk s h m a)(hb:EOk s h' m' b):EOk s (max h h'+1) (m+m'+1) (orE a b):=by
 have hp:pre (orE a b)=orE a b::(pre a++pre b):=by rw[jF];simp[orE]
 refine⟨fun x hx=>?_,?_,?_⟩
 . rw[hp]at hx;rcases qBz.1 hx with rfl|hx
   . refine⟨?_,by simp[orE,Ex.op],by simp[orE,Ex.op],by simp[orE,Ex.op]⟩;simp[qt,orE,qk,zB,Ex.op,Ex.n,Ex.name,Ex.args]
   rcases qBp.1 hx with hx|hx
   . exact ha.nodes x hx
   exact hb.nodes x hx
 . rw[wH];have:=ha.hgt;have:=hb.hgt;simp only[orE,qFw,Jc,qom];omega
 rw[hp,qBr,qBe];have:=ha.size;have:=hb.size;omega
def EOk.chain{s}(hs:wq s=true):∀(l:List (List Rg)){h m:Nat}{out:Ex},EOk s (h+2) m out->(∀c∈l,c≠[]/\c.length<=16/\∀r∈c,qmp r)->EOk s (h+2+l.length) (m+35*l.length) (QB s out l)
 |[],h,m,out,ho,_=>ho
 | c::l,h,m,out,ho,hc=>by
  have h1:=hc c (by simp);have h2:=ho.or (EOk.ins hs h1.1 h1.2.1 h1.2.2);have h3:=EOk.chain hs l (h:=h+1) (m:=m+34+1) (out:=orE out (Qp s c)) (by
   have e:max (h+2) 2+1=h+1+2:=(by omega);rw[e]at h2;exact h2) (fun c hm=>hc c (by simp[hm]))
  have e1:h+2+(c::l).length=h+1+2+l.length:=by simp;omega
  have e2:m+35*(c::l).length=m+34+1+35*l.length:=by simp;omega
  rw[e1,e2];exact h3
def KR{α:Type}{n}(hn:0<n):∀(k) (l:List α),∀c∈z6 n k l,c≠[]/\c.length<=n/\∀x∈c,x∈l
 |0,_,c,h=>by cases h
 | k+1,l,c,h=>by
  unfold z6 at h;split at h
  . cases h
  rename_i hl;rcases qBz.1 h with rfl|h
  . have:=qBv.2 hl;refine⟨qBv.1 (by rw[qBV];omega),by rw[qBV];omega,fun x hx=>qBW hx⟩
  obtain⟨h1,h2,h3⟩:=KR hn k _ c h;exact⟨h1,h2,fun x hx=>qCJ (h3 x hx)⟩
def KT{α:Type}{n}(hn:0<n):∀(k) (l:List α) (m),l.length<=m*n->(z6 n k l).length<=m
 |0,_,m,_=>by simp[z6]
 | k+1,l,m,h=>by
  unfold z6;split
  . simp
  rename_i hl;have:=qBv.2 hl
  cases m with
  |zero=>omega
  | succ m=>
   have:=KT hn k (l.drop n) m (by rw[qC5];rw[qDB]at h;omega);simp;omega
def EOk.valid{s e h m}(ho:EOk s h m e)(hh:h<=24)(hm:m<=400){vs}(hv:Qr vs s=true):zy vs e=0:=by
 have h2:zk e=0:=by
  unfold zk;have h3:=ho.hgt;have h4:=ho.size;rw[if_neg,show qU qt (pre e)=0 from zC.2 fun x hx=>(ho.nodes x hx).1];rintro⟨_,h|h⟩
  . omega
  rw[show W4 e=(pre e).length by unfold W4;rw[wr (by omega) (by omega)]]at h;omega
 have h3:Yq e=false:=by
  unfold Yq;rw[qCV];intro x hx;have:=ho.nodes x hx;simp[this.2.1,this.2.2.1]
 have h4:Zx vs e=false:=by
  unfold Zx;rw[qCV];intro x hx;have:=(ho.nodes x hx).2.2.2;by_cases h:x.op=2
  . simp[h,this h,hv]
  simp[h]
 unfold zy;simp[h2,h3,h4]
def VR{n}(h0:0<=n)(h1:n<=65535)(vs):zy vs (jH n)=0:=by
 have hp:=ZZ n;have h2:zk (jH n)=0:=by
  unfold zk W4;rw[hp];have:hgt (jH n)=1:=by simp[wH,jH]
  rw[this];simp[qU,qaS h0 h1];decide
 unfold zy;simp[h2,show Yq (jH n)=false by unfold Yq;rw[hp];simp[jH,Ex.op],show Zx vs (jH n)=false by unfold Zx;rw[hp];simp[jH,Ex.op]]
def qb1{s}(hs:wq s=true){l:List Rg}(hl:l.length<=128)(hr:∀r∈l,qmp r){vs}(hv:Qr vs s=true):zy vs (kh s l)=0:=by
 unfold kh;split
 . exact VR (by omega) (by omega) vs
 rename_i h0;have hpos:=qBv.2 h0;have h1:=EOk.ins hs (l:=l.take 16) (qBv.1 (by rw[qBV];omega)) (by rw[qBV];omega) (fun r h=>hr r (qBW h));have h2:=EOk.chain hs (z6 16 l.length (l.drop 16)) (h:=0) h1 (fun c hc=>by
  obtain⟨a,b,c'⟩:=KR (by omega) _ _ c hc;exact⟨a,b,fun r h=>hr r (qCJ (c' r h))⟩)
 have h3:=KT (n:=16) (by omega) l.length (l.drop 16) 7 (by rw[qC5];omega);exact h2.valid (by omega) (by omega) hv
def qpm{out:List Rg}{n}(hn:0<=n/\n<=65535)(h1:∀r∈out,qmp r)(h2:∀r,out.getLast?=some r->r.2<n/\2*(out.length:Int)<=r.2+2):
 (∀r∈vN out n,qmp r)/\∃r,(vN out n).getLast?=some r/\r.2=n/\2*((vN out n).length:Int)<=n+2:=by
 have new:(∀r,out.getLast?=some r->¬r.2=n-1)->(∀r∈out++[(n,n)],qmp r)/\∃r,(out++[(n,n)]).getLast?=some r/\r.2=n/\2*((out++[(n,n)]).length:Int)<=n+2:=by
  intro hne;refine⟨fun r hr=>?_,(n,n),by simp,rfl,?_⟩
  . rcases qBp.1 hr with hr|hr
    . exact h1 r hr
    . simp only[qBz,qCQ,or_false]at hr;subst hr;exact⟨hn,hn⟩
  rw[qBe]
  cases h:out.getLast? with
  | none=>
   rw[qDz]at h;subst h;simp;omega
  | some r=>
   have:=h2 r h;have:=hne r h;simp only[qBr,qB0];omega
 unfold vN
 cases h:out.getLast? with
 |none=>exact new fun r hr=>by rw[h]at hr;cases hr
 | some r=>
  simp only;have h3:=h2 r h;split
  . rename_i he;obtain⟨l,rfl⟩:=qDA.1 h;rw[qEt];refine⟨fun x hx=>?_,(r.1,n),by simp,rfl,?_⟩
    . rcases qBp.1 hx with hx|hx
      . exact h1 x (by simp[hx])
      . simp only[qBz,qCQ,or_false]at hx;subst hx;exact⟨(h1 r (by simp)).1,hn⟩
    simp only[qBe,qBr,qB0]at h3⊢;omega
  rename_i he;exact new fun x hx=>by rw[h]at hx;cases hx;exact he
def qdf:∀{l:List Int}{out:List Rg}{N:Int},l.Pairwise (· < ·)->(∀x∈l,0<=x/\x<=65535/\x<N)->(∀r∈out,qmp r)->(∀r,out.getLast?=some r->r.2<N/\2*(out.length:Int)<=r.2+2/\∀x∈l,r.2<x) ->
 (∀r∈l.foldl vN out,qmp r)/\∀r,(l.foldl vN out).getLast?=some r->r.2<N/\2*((l.foldl vN out).length:Int)<=r.2+2
 |[],out,N,_,_,h1,h2=>⟨h1,fun r hr=>⟨(h2 r hr).1,(h2 r hr).2.1⟩⟩
 | x::l,out,N,hp,hx,h1,h2=>by
  rw[qBP];obtain⟨hp1,hp2⟩:=qEb.1 hp;have hx0:=hx x (by simp);obtain⟨a1,r,a2,a3,a4⟩:=qpm (n:=x) ⟨hx0.1,hx0.2.1⟩ h1 (fun r hr=>⟨(h2 r hr).2.2 x (by simp),(h2 r hr).2.1⟩);refine qdf hp2 (fun y hy=>hx y (by simp[hy])) a1 fun r' hr'=>?_
  rw[a2]at hr';cases hr';exact⟨by omega,by omega,fun y hy=>by rw[a3];exact hp1 y hy⟩
def qen{l N}(hp:l.Pairwise (· < ·))(hx:∀x∈l,0<=x/\x<=65535/\x<N)(hN:0<=N):(∀r∈QL l,qmp r)/\2*((QL l).length:Int)<=N+1:=by
 have:=qdf (out:=[]) hp hx (fun r h=>by cases h) (fun r h=>by cases h);refine⟨this.1,?_⟩
 cases h:(QL l).getLast? with
 |none=>rw[qDz]at h;rw[h];simp;omega
 |some r=>have:=this.2 r h;show 2*((l.foldl vN []).length:Int)<=_;omega
def qay(v l):(ZJ v l).Pairwise (· < ·)/\∀x∈ZJ v l,0<=x/\x<(zP v:Nat):=by
 unfold ZJ;refine⟨List.Pairwise.filter _ ?_,fun x hx=>?_⟩
 . rw[qEh];exact List.pairwise_lt_range.imp fun h=>by omega
 obtain⟨hx,_⟩:=qCm.1 hx;obtain⟨n,hn,rfl⟩:=qBA.1 hx;have:=qB5.1 hn;omega
def YN{v}(h:v.width<=8):zP v<=256:=by
 unfold zP;have:v.width.toNat<=8:=by omega
 calc 2^v.width.toNat<=2^8:=qBL (by omega) this
  _=256:=rfl
def qhz{vs}(hv:∀v∈vs,j5 v=0)(d):zy vs (vQ vs d)=0:=by
 unfold vQ;split
 . rename_i v h;have hm:=qBb h;have h1:=zf (hv v hm);have h2:=qay v d.weights;have h3:=YN h1.2.2;have h4:=qen (N:=(zP v:Nat)) h2.1 (fun x hx=>by have:=h2.2 x hx;omega) (by omega);exact qb1 h1.1 (by omega) h4.1 (by unfold Qr;rw[qBJ];exact⟨v,hm,by simp⟩)
 exact VR (by omega) (by omega) vs
def qgJ:∀(l:List Ex) (i) (a),l[i]?=some a->((l.flatMap qp).drop (i*4)).take 4=qp a/\i*4+4<=(l.flatMap qp).length
 |[],i,a,h=>by simp at h
 | x::r,0,a,h=>by
  simp at h;subst h;rw[qBC,qCY,qCq,qCo (by rw[zj];omega),qBh (by rw[zj];omega),qBe,zj];exact⟨rfl,by omega⟩
 | x::r,i+1,a,h=>by
  have ih:=qgJ r i a (by simpa using h);rw[qBC,qC6,zj,qBS (by rw[zj];omega),qBy,show(i+1)*4-4=i*4 by omega,qBe,zj];exact⟨ih.1,by omega⟩
def qk4:∀(l:List Ex) (i) (a),l[i]?=some a->zx (l.flatMap qp) (i*4) (qp a)=l.flatMap qp:=fun l i a h=>by
 have hi:=(qBa.1 h).1;rw[QM (sz:=4) zj l i a hi];have:l.set i a=l:=by
  obtain⟨_,rfl⟩:=qBa.1 h;exact List.set_getElem_self hi
 rw[this]
def qfX{e a}(h:a∈e.args):(pre a).length<=(pre e).length:=by
 rw[jF e,qBr];have:∀l:List Ex,a∈l->(pre a).length<=(wD l).length:=by
  intro l
  induction l with
  |nil=>intro h;cases h
  | cons x r ih=>
   intro h;rw[yJ,qBe];rcases qBz.1 h with rfl|h
   . omega
   have:=ih h;omega
 have:=this _ h;omega
def qg2(e):e.args.length<=(pre e).length:=by
 rw[jF e,qBr];have:∀l:List Ex,l.length<=(wD l).length:=by
  intro l
  induction l with
  |nil=>simp
  |cons x r ih=>rw[yJ,qBe,jF x];simp;omega
 have:=this e.args;omega
def qlt:∀e,(pre e).length<=100000->Pure prog GG 73 [.agg (qp e)] (.agg (qp e)):=by
 refine qFX fun e ih hs=>?_
 have hal:=qg2 e;refine qFx o0 true qX func73 rfl (by kernel_rfl) ?_;have hE:=qc e;by_cases h0:e.args=[]
 . rw[h0]at hE;rw[hE];simp[qD,kE,qbG];refine qFE (fun n ev U=>ev 1=.ptr 0 0/\ev 2=.ptr 1 0/\ev 3=.sl 4 [] (.chain 0 0)/\ev 14=.int .i64 0/\ev 15=.int .i64 0/\∃T,U=⟨[.cells [.int .i64 e.op,.int .i64 e.n,.str e.name,.sl 4 [] .none],.cells [.int .i64 0,.int .i64 0,.str [],.sl 0 [] .nil]],T⟩) 0 ?_ ?_
   . exact⟨by simp,by simp,by simp,by simp,by simp,_,rfl⟩
   rintro n ev U R hR ⟨e1,e2,e3,e14,e15,T,rfl⟩;simp[e1,e2,e3,e14,e15];have hfc:∀H,frz H 7 (.sl 4 [] (.chain 0 0))=.sl 4 [] .none:=fun H=>by rw[frz];simp[qL]
   rw[frz];simp[qL,qx,Zw,qeQ,hfc,zm]
 have hpos:=qBv.2 h0;have hne:¬(e.args.length:Int)=0:=by omega
 have hb:e.args.length<=549755813888:=by omega
 have hz:((List.replicate e.args.length [AV.int .i64 0,.int .i64 0,.str [],.sl 0 [] .nil]).flatten).length=e.args.length*4:=by simp
 have hput:=putAt_all ((List.replicate e.args.length [AV.int .i64 0,.int .i64 0,.str [],.sl 0 [] .nil]).flatten) (e.args.flatMap qp) (by rw[hz,ju (sz:=4) zj e.args]);have hcp:∀B0 B1:Blk,kE (Dof prog) ⟨[B0,B1,.cells (List.replicate e.args.length [AV.int .i64 0,.int .i64 0,.str [],.sl 0 [] .nil]).flatten],[]⟩ 23 (.ms 2 0 e.args.length 4) (.sl 4 (e.args.map qp) .none)=some (.int .i64 e.args.length,⟨[B0,B1,.cells (e.args.flatMap qp)],[]⟩):=fun B0 B1=>by
  have hz':=hz;generalize (List.replicate e.args.length [AV.int .i64 0,.int .i64 0,.str [],.sl 0 [] .nil]).flatten=Z at *;simp[kE,qbG,qpP,show(e.args.map qp).flatten=e.args.flatMap qp by rw[qCF],hput,hz',show(e.args.map qp).take e.args.length=e.args.map qp from qBh (by simp),h0]
 have hat:=qgJ e.args;have hpt:=qk4 e.args;rw[hE];generalize hZ:(List.replicate e.args.length [AV.int .i64 0,.int .i64 0,.str [],.sl 0 [] .nil]).flatten=Z at *;generalize hFE:e.args.flatMap qp=FE at *;simp[qD,h0,show(e.args.length:Int)<=549755813888 by omega,hZ,hcp];refine qFP e.args (fun d ev U=>ev 1=.ptr 0 0/\ev 2=.ptr 1 0/\ev 3=.ms 2 0 e.args.length 4/\ev 14=.int .i64 e.args.length/\ev 15=.int .i64 d.length/\U=⟨[.cells [.int .i64 e.op,.int .i64 e.n,.str e.name,.sl 4 (e.args.map qp) .none],.cells [.int .i64 0,.int .i64 0,.str [],.sl 0 [] .nil],.cells FE],[]⟩) ?_ ?_ ?_
 . exact⟨by simp,by simp⟩
 . rintro d a rest ev U R hR hd hx hlt ⟨e1,e2,e3,e14,e15,rfl⟩;have hm:=qBb hx;have hia:=ih a hm (by have:=qfX hm;omega);have hw:=wr (n:=(d.length:Int)+1) (by omega) (by omega);obtain⟨ht,hle⟩:=hat d.length a hx;have hp:=hpt d.length a hx;have ha2:=yP a;have hl4:=zj a;have hnr:=nrE a;generalize qp a=W at *;simp[-qV,e3,e14,e15,hlt,ht,hle];refine qFz hia (by simp[qx,hnr]) ?_;simp[-qV,ha2,hl4,hp,hle,e15,hlt,hw];exact hR _ _ ⟨by simp[e1],by simp[e2],by simp[e3],by simp[e14],by simp⟩
 rintro ev U ⟨e1,e2,e3,e14,e15,rfl⟩;simp[e1,e2,e3,e14,e15];have ho:jC 2 4 qp [Blk.cells [AV.int .i64 e.op,.int .i64 e.n,.str e.name,.ms 2 0 e.args.length 4],.cells [.int .i64 e.op,.int .i64 e.n,.str e.name,.ms 2 0 e.args.length 4],.cells FE] (.ms 2 0 e.args.length 4) e.args:=.inr ⟨h0,rfl,by rw[hFE];rfl⟩;have f1:=ho.frz zj (fun x=>nrE x) jw 6;have f2:=ho.frzNo zj (fun x=>nrE x) jw 6;rw[frz,if_neg (by simp[qL,qx])];simp only[qBn,qBN,Zw,qeQ,qL,qx,Leq,zm,qDd,qCs,and_true,true_and];exact⟨f2,f1⟩
def inR(v:Int)(r:Rg):Bool:=decide (r.1<=v)&&decide (v<=r.2)
def qqw(b):(b2i b≠0)↔b=true:=by cases b<;>simp[b2i]
def qjc(env n):yo env (jH n)=n:=by rw[yY];simp[jH,vB]
def qmH(env s):yo env (wS s)=(jE env s).getD 0:=by rw[yY];simp[wS,vB]
def quu(env a b):(yo env (orE a b)≠0)↔(yo env a≠0\/yo env b≠0):=by
 rw[yY];have:vB env (orE a b).op (orE a b).n (orE a b).name ((orE a b).args.map (yo env))=b2i (!decide (yo env a=0)||!decide (yo env b=0)):=by
  simp[orE,vB,opW,j4]
 rw[this,qqw];simp
def Wj(v):∀(l:List Rg),jk v (l.flatMap fun r=>[r.1,r.2])=l.any (inR v)
 |[]=>rfl
 |r::l=>by rw[qBC];simp only[qBB,qBy,jk,qDc,Wj v l,inR]
def qfx(env):∀(l:List Rg),(l.flatMap fun r=>[jH r.1,jH r.2]).map (yo env)=l.flatMap fun r=>[r.1,r.2]
 |[]=>rfl
 |r::l=>by rw[qBC,qCi,qfx env l,qBC];simp[qjc]
def qjd(env s)(l:List Rg):(yo env (Qp s l)≠0)↔∃r∈l,inR ((jE env s).getD 0) r=true:=by
 rw[yY];have:vB env (Qp s l).op (Qp s l).n (Qp s l).name ((Qp s l).args.map (yo env))=b2i (l.any (inR ((jE env s).getD 0))):=by
  rw[<- Wj,<- qfx env l];simp[Qp,vB,opW,qmH]
 rw[this,qqw,qBJ]
def qbZ(env s):∀(l:List (List Rg)) (out),(yo env (QB s out l)≠0)↔(yo env out≠0\/∃c∈l,∃r∈c,inR ((jE env s).getD 0) r=true)
 |[],out=>by simp[QB]
 | c::l,out=>by
  show(yo env (QB s (orE out (Qp s c)) l)≠0)↔_;rw[qbZ env s l,quu,qjd];simp only[qBz,exists_eq_or_imp,or_assoc]
def VK{α:Type}{n}(hn:0<n):∀(k) (l:List α),l.length<=k->(z6 n k l).flatten=l
 | 0,l,h=>by
  have:l=[]:=qBo (by omega);subst this;rfl
 | k+1,l,h=>by
  unfold z6;split
  . rename_i h0;rw[h0];rfl
  rename_i h0;have:=qBv.2 h0;rw[qBZ,VK hn k _ (by rw[qC5];omega),qBX]
def qjb(env s)(l:List Rg):(yo env (kh s l)≠0)↔∃r∈l,inR ((jE env s).getD 0) r=true:=by
 unfold kh;split
 . rename_i h;subst h;simp[qjc]
 rw[qbZ,qjd];have h1:=VK (n:=16) (by omega) l.length (l.drop 16) (by rw[qC5];omega);constructor
 . rintro(⟨r,hr,h⟩|⟨c,hc,r,hr,h⟩)
   . exact⟨r,qBW hr,h⟩
   . refine⟨r,qCJ (i:=16) ?_,h⟩;rw[<- h1];exact qBH.2 ⟨c,hc,hr⟩
 rintro⟨r,hr,h⟩;rw[<- qBX 16 l]at hr;rcases qBp.1 hr with hr|hr
 . exact .inl ⟨r,hr,h⟩
 rw[<- h1]at hr;obtain⟨c,hc,hr⟩:=qBH.1 hr;exact .inr ⟨c,hc,r,hr,h⟩
def qfP(v):∀(l),(∃r∈QL l,inR v r=true)↔v∈l:=by
 have key:∀(l:List Int) (out:List Rg),(∀r∈out,r.1<=r.2)->((∃r∈l.foldl vN out,inR v r=true)↔((∃r∈out,inR v r=true)\/v∈l)):=by
  intro l
  induction l with
  |nil=>intro out _;simp
  | cons n l ih=>
   intro out ho;rw[qBP];have hs:(∀r∈vN out n,r.1<=r.2)/\((∃r∈vN out n,inR v r=true)↔((∃r∈out,inR v r=true)\/v=n)):=by
    unfold vN;split
    . rename_i r hr;obtain⟨pre,hp⟩:=qDA.1 hr;subst hp;have hr2:=ho r (by simp);split
      . rename_i hn;rw[qEt];refine⟨fun q hq=>?_,?_⟩
        . rcases qBp.1 hq with hq|hq
          . exact ho q (by simp[hq])
          . have:=qBR.1 hq;subst this;dsimp only;omega
        simp only[qBp,qBR,inR,qBf,decide_eq_true_eq];constructor
        . rintro⟨q,hq|rfl,h⟩
          . exact .inl ⟨q,.inl hq,h⟩
          . dsimp only at h;by_cases hv:v=n
            . exact .inr hv
            exact .inl ⟨r,.inr rfl,by omega⟩
        rintro(⟨q,hq|rfl,h⟩|rfl)
        . exact⟨q,.inl hq,h⟩
        . exact⟨_,.inr rfl,by dsimp only;omega⟩
        exact⟨_,.inr rfl,by dsimp only;omega⟩
      refine⟨fun q hq=>?_,?_⟩
      . rcases qBp.1 hq with hq|hq
        . exact ho q hq
        . have:=qBR.1 hq;subst this;exact qEA _
      simp only[qBp,qBR,inR,qBf,decide_eq_true_eq];constructor
      . rintro⟨q,hq|rfl,h⟩
        . exact .inl ⟨q,hq,h⟩
        . exact .inr (by dsimp only at h;omega)
      rintro(⟨q,hq,h⟩|rfl)
      . exact⟨q,.inl hq,h⟩
      exact⟨_,.inr rfl,by dsimp only;omega⟩
    refine⟨fun q hq=>?_,?_⟩
    . rcases qBp.1 hq with hq|hq
      . exact ho q hq
      . have:=qBR.1 hq;subst this;exact qEA _
    simp only[qBp,qBR,inR,qBf,decide_eq_true_eq];constructor
    . rintro⟨q,hq|rfl,h⟩
      . exact .inl ⟨q,hq,h⟩
      . exact .inr (by dsimp only at h;omega)
    rintro(⟨q,hq,h⟩|rfl)
    . exact⟨q,.inl hq,h⟩
    exact⟨_,.inr rfl,by dsimp only;omega⟩
   rw[ih _ hs.1,hs.2];simp only[qBz,or_assoc]
 intro l;have:=key l [] (by simp);simpa[QL] using this
def qhs(env s l):(yo env (kh s (QL l))≠0)↔(jE env s).getD 0∈l:=by
 rw[qjb,qfP]
def jl(l:List Rg):List Int:=l.flatMap fun r=>[r.1,r.2]
def Jf(l:List Rg):(jl l).length=2*l.length:=by
 unfold jl
 induction l with
 |nil=>rfl
 |cons r l ih=>rw[qBC,qBe,ih];simp;omega
def qim(l:List Rg)(i):((jl l).drop (32*i)).take 32=jl ((l.drop (16*i)).take 16):=by
 have hd:∀(l:List Rg) (k:Nat),(jl l).drop (2*k)=jl (l.drop k):=by
  intro l k
  induction k generalizing l with
  |zero=>simp
  | succ k ih=>
   cases l with
   |nil=>simp[jl]
   | cons r l=>
    have:jl (r::l)=r.1::r.2::jl l:=by simp[jl]
    rw[this,qDZ,<- ih];show List.drop (2*k+1+1) _=_;rw[qDZ,qDZ]
 have ht:∀(l:List Rg) (k:Nat),(jl l).take (2*k)=jl (l.take k):=by
  intro l k
  induction k generalizing l with
  |zero=>simp[jl]
  | succ k ih=>
   cases l with
   |nil=>simp[jl]
   | cons r l=>
    have:jl (r::l)=r.1::r.2::jl l:=by simp[jl]
    rw[this,show jl ((r::l).take (k+1))=r.1::r.2::jl (l.take k) by simp[jl],<- ih];show List.take (2*k+1+1) _=_;rw[qC0,qC0]
 rw[show 32*i=2*(16*i) by omega,hd];exact ht _ 16
def qiD(f:Nat->Bool)(N n:Nat):List Int :=
 if f n=true then(if n=0\/f (n-1)=false then [(n:Int)] else [])++(if n+1=N\/f (n+1)=false then [(n:Int)] else []) else []
def qdz(f:Nat->Bool)(N k:Nat):List Int:=(List.range k).flatMap (qiD f N)
def kJ(f:Nat->Bool)(k:Nat):List Rg:=QL (((List.range k).filter f).map fun n:Nat=>(n:Int))
def Vx(f k):kJ f (k+1)=if f k=true then vN (kJ f k) (k:Int) else kJ f k:=by
 unfold kJ QL;rw[qCt,qD8,qCi,qCe];cases h:f k<;>simp[h]
def WM(f N k):qdz f N (k+1)=qdz f N k++qiD f N k:=by
 unfold qdz;rw[qCt,List.flatMap_append];simp
def Vy(f):∀k,(∀r∈kJ f k,r.2<(k:Int))/\((0<k/\f (k-1)=true)->∃R a,kJ f k=R++[(a,(k:Int)-1)])/\(¬(0<k/\f (k-1)=true)->∀r,(kJ f k).getLast?=some r->r.2≠(k:Int)-1)
 |0=>by refine⟨?_,fun h=>absurd h.1 (by omega),?_⟩<;>simp[kJ,QL]
 | k+1=>by
  obtain⟨h1,h2,h3⟩:=Vy f k;rw[Vx]
  cases hk:f k with
  | false=>
   rw[if_neg (by simp)];refine⟨fun r hr=>by have:=h1 r hr;omega,fun h=>absurd h.2 (by simp[hk]),fun _ r hr=>?_⟩;have:=h1 r (List.mem_of_getLast? hr);omega
  | true=>
   rw[if_pos rfl];have e1:((k+1:Nat):Int)-1=k:=(by omega);rw[e1];have hadd:∃R a,vN (kJ f k) (k:Int)=R++[(a,(k:Int))]/\∀r∈R,r.2<((k+1:Nat):Int):=by
    unfold vN
    cases hg:(kJ f k).getLast? with
    |none=>exact⟨_,_,rfl,fun r hr=>by have:=h1 r hr;omega⟩
    | some q=>
     dsimp only;split
     . exact⟨_,_,rfl,fun r hr=>by have:=h1 r (List.dropLast_subset _ hr);omega⟩
     exact⟨_,_,rfl,fun r hr=>by have:=h1 r hr;omega⟩
   obtain⟨R,a,hR,hRl⟩:=hadd;rw[hR];refine⟨fun r hr=>?_,fun _=>⟨R,a,rfl⟩,fun h=>absurd ⟨by omega,by simpa using hk⟩ h⟩;rcases qBp.1 hr with h|h
   . exact hRl r h
   rw[qBR.1 h];show(k:Int)<_;omega
def qgX(f N):∀k,k<=N->(if 0<k/\f (k-1)=true/\k<N/\f k=true then ∃R a,kJ f k=R++[(a,(k:Int)-1)]/\qdz f N k=jl R++[a] else qdz f N k=jl (kJ f k))
 |0,_=>by rw[if_neg (by omega)];rfl
 | k+1,hk=>by
  have ih:=qgX f N k (by omega);obtain⟨h1,h2,h3⟩:=Vy f k;rw[WM,Vx];have e1:((k+1:Nat):Int)-1=k:=by omega
  have e2:k+1-1=k:=by omega
  rw[e1,e2]
  cases hfk:f k with
  | false=>
   rw[if_neg (by simp[hfk]) ]at ih;rw[if_neg (by simp),if_neg (by simp)];rw[ih];simp[qiD,hfk]
  | true=>
   rw[if_pos rfl];have hkN:k<N:=(by omega);by_cases hp:0<k/\f (k-1)=true
   . rw[if_pos ⟨hp.1,hp.2,hkN,hfk⟩]at ih;obtain⟨R,a,hR,hb⟩:=ih;have hadd:vN (kJ f k) (k:Int)=R++[(a,(k:Int))]:=by
      unfold vN;rw[hR];simp
     rw[hadd,hb];have hb1:qiD f N k=if k+1=N\/f (k+1)=false then [(k:Int)] else []:=by
      have hno:¬(k=0\/f (k-1)=false):=by
       intro h;rcases h with h|h
       . omega
       rw[hp.2]at h;cases h
      unfold qiD;rw[if_pos hfk,if_neg hno];simp
     rw[hb1];by_cases hn:k+1=N\/f (k+1)=false
     . have hng:¬(0<k+1/\true=true/\k+1<N/\f (k+1)=true):=by
        rintro⟨_,_,h4,h5⟩;rcases hn with h|h
        . omega
        rw[h5]at h;cases h
       rw[if_pos hn,if_neg hng];simp[jl]
     rw[if_neg hn,if_pos ⟨by omega,rfl,by omega,by cases h:f (k+1) with|true=>rfl|false=>exact absurd (.inr h) hn⟩];exact⟨R,a,rfl,by simp⟩
   have hno:qdz f N k=jl (kJ f k):=by
    rw[if_neg (fun h=>hp ⟨h.1,h.2.1⟩)]at ih;exact ih
   have hadd:vN (kJ f k) (k:Int)=kJ f k++[((k:Int),(k:Int))]:=by
    unfold vN
    cases hg:(kJ f k).getLast? with
    |none=>rfl
    |some q=>dsimp only;rw[if_neg (h3 hp q hg)]
   rw[hadd,hno];have hb1:qiD f N k=[(k:Int)]++if k+1=N\/f (k+1)=false then [(k:Int)] else []:=by
    unfold qiD;rw[if_pos hfk,if_pos];by_cases h0:k=0
    . exact .inl h0
    right
    cases h:f (k-1) with
    |false=>rfl
    |true=>exact absurd ⟨by omega,h⟩ hp
   rw[hb1];by_cases hn:k+1=N\/f (k+1)=false
   . have hng:¬(0<k+1/\true=true/\k+1<N/\f (k+1)=true):=by
      rintro⟨_,_,h4,h5⟩;rcases hn with h|h
      . omega
      rw[h5]at h;cases h
     rw[if_pos hn,if_neg hng];simp[jl]
   rw[if_neg hn,if_pos ⟨by omega,rfl,by omega,by cases h:f (k+1) with|true=>rfl|false=>exact absurd (.inr h) hn⟩];exact⟨kJ f k,k,rfl,by simp⟩
def qo7(f N):qdz f N N=jl (kJ f N):=by
 have:=qgX f N N (qBl _)
 rwa[if_neg (by omega)]at this
def qb4(v l):QL (ZJ v l)=kJ (fun n=>vT l n) (zP v):=by
 unfold kJ ZJ;rw[List.filter_map];rfl
