import Derived.Test.YtafbccendejkeaaGreatDoorPv15
import Derived.Test.YtafbccendejkeaaGreatDoorPv16
set_option maxRecDepth 100000
set_option maxHeartbeats 16000000
set_option linter.all false
namespace Go.Proofs.YtafbccendejkeaaGreatDoor
open Go Go.Abs Tryz
def Yw(l:List Var)(i:Nat):List Int:=((List.range i).filter fun(j:Nat)=>yQ l (j:Int)).map fun(j:Nat)=>(j:Int)
def KF{l i}:Yw l (i+1)=if yQ l (i:Int)=true then Yw l i++[(i:Int)] else Yw l i:=by
 unfold Yw;rw[qCt,qD8];by_cases h:yQ l (i:Int)=true
 . simp[h]
 simp[h]
def qaJ{l i}:(Yw l i).length<=i:=by
 unfold Yw;rw[qBM];exact qB6 (qDg _ _) (by simp)
noncomputable def qJ(p:Problem):List Int:=if qg p≠0 then [] else Yw p.vars p.vars.length
def qdP(s:List Int):AV:=match s with
 |[]=>.sl 0 [] .nil
 |a::r=>.sl 1 ((a::r).map qh) (.chain 0 (r.length+1))
def qf7(s H):qL (fin H (qdP s))=true/\Leq (fin H (qdP s)) (.sl 1 (s.map qh) .none):=by
 cases s with
 |nil=>simp[qdP,Leq]
 |cons a r=>simp[qdP]
def qcA(s:List Int):List (Option Nat):=match s with
 |[]=>[]
 |_::r=>[some (r.length+1)]
def qjZ(p)(h:VQ p):Pure prog GG 53 [.agg (qu p)] (.sl 1 ((qJ p).map qh) .none):=by
 refine okzQ func53 rfl rfl ?_;have hv:=ke p h;have hr:∀i,Pure prog GG 97 [.agg [.sl 4 (p.vars.map qG) .none,.sl 4 (p.hard.map qp) .none,.sl 4 (p.soft.map qp) .none,.sl 2 (p.dists.map zn) .none,.sl 1 (p.groups.map qA) .none],.int .i64 i] (.bool (yQ p.vars i)):=fun i=>by
  have hr:=jq GG p i;rw[qaI]at hr;simpa only[qu] using hr
 simp only[qu]at hv;have hv20:=h.vars;simp;refine qFJ hv (by simp) ?_;by_cases h0:qg p=0
 . have x:qJ p=Yw p.vars p.vars.length:=(by simp[qJ,h0]);rw[x];simp[h0];refine qFW (fun q env U=>∃i,i<=p.vars.length/\q=p.vars.length-i/\env 1=.ptr 0 0/\env 3=qdP (Yw p.vars i)/\env 10=.int .i64 p.vars.length/\env 11=.int .i64 i/\U=⟨[.cells (qu p)],qcA (Yw p.vars i)⟩) p.vars.length ⟨0,by simp[Yw,qdP,qcA]⟩ ?_;rintro q env U ⟨i,hi,rfl,h1,h3,h10,h11,rfl⟩;by_cases hc:i<p.vars.length
   . have hc':(i:Int)<p.vars.length:=(by omega);have hlen:=qaJ (l:=p.vars) (i:=i);have hs:=KF (l:=p.vars) (i:=i);simp[h1,h3,h10,h11,hc];refine qFJ (hr i) (by simp) ?_;cases hri:yQ p.vars (i:Int)
     . rw[hri]at hs;simp[h1,h3,h10,h11];exact⟨_,by omega,i+1,by omega,rfl,by rw[hs];rfl,wr (by omega) (by omega),by rw[hs];rfl⟩
     rw[hri,if_pos rfl]at hs;generalize hR:Yw p.vars i=R at h3 hlen hs⊢
     cases R with
     | nil=>
      simp only[qdP]at h3;simp[h1,h3,h10,h11,qcA,qr,qe,ql,qZ];exact⟨_,by omega,i+1,by omega,rfl,by rw[hs];simp[qdP],wr (by omega) (by omega),by rw[hs];simp[]⟩
     | cons a r=>
      simp only[qdP]at h3;simp[h1,h3,h10,h11,qcA,qr,qe,ql,qZ,show r.length<=549755813886 by simp at hlen;omega];exact⟨_,by omega,i+1,by omega,rfl,by rw[hs];simp[qdP],wr (by omega) (by omega),by rw[hs];simp[]⟩
   have hi':i=p.vars.length:=(by omega);subst hi';have he:=qf7 (Yw p.vars p.vars.length) [.cells (qu p)];simp[h1,h3,h10,h11];simpa using he
 have x:qJ p=[]:=by simp[qJ,h0]
 rw[x];simp[h0,Leq]
def qjY(p)(h:VQ p)(hv20:p.vars.length<=20)(hfl:p.groups.flatten.length<4611686018427387904):Pure prog GG 34 [.agg (qu p)] (.sl 1 ((qJ p).map qh) .none):=by
 refine okzQ func34 rfl rfl ?_;have hv:=YH p h hfl;simp only[qu]at hv;simp;refine qFJ hv (by simp) ?_;by_cases h0:qg p=0
 . have x:qJ p=Yw p.vars p.vars.length:=(by simp[qJ,h0]);rw[x];simp[h0];refine qFW (fun q env U=>∃i,i<=p.vars.length/\q=p.vars.length-i/\env 1=.ptr 0 0/\env 3=qdP (Yw p.vars i)/\env 4=.int .i64 i/\U=⟨[.cells (qu p)],qcA (Yw p.vars i)⟩) p.vars.length ⟨0,by simp[Yw,qdP,qcA]⟩ ?_;rintro q env U ⟨i,hi,rfl,h1,h3,h4,rfl⟩;by_cases hc:i<p.vars.length
   . have hc':(i:Int)<p.vars.length:=(by omega);have hlen:=qaJ (l:=p.vars) (i:=i);have hs:=KF (l:=p.vars) (i:=i);have hrr:yQ p.vars (i:Int)=(p.vars[i].mode != 0):=(by simp[yQ,qBc hc]);by_cases m0:p.vars[i].mode=0
     . have hri:yQ p.vars (i:Int)=false:=(by rw[hrr];simp[m0]);rw[hri]at hs;simp[h1,h3,h4,hc,m0];exact⟨_,by omega,i+1,by omega,rfl,by rw[hs];rfl,wr (by omega) (by omega),by rw[hs];rfl⟩
     have hri:yQ p.vars (i:Int)=true:=(by rw[hrr];simp[m0]);rw[hri,if_pos rfl]at hs;generalize hR:Yw p.vars i=R at h3 hlen hs⊢
     cases R with
     | nil=>
      simp only[qdP]at h3;simp[h1,h3,h4,hc,m0,qcA,qr,qe,ql,qZ];exact⟨_,by omega,i+1,by omega,rfl,by rw[hs];simp[qdP],wr (by omega) (by omega),by rw[hs];simp[]⟩
     | cons a r=>
      simp only[qdP]at h3;simp[h1,h3,h4,hc,m0,qcA,qr,qe,ql,qZ,show r.length<=549755813886 by simp at hlen;omega];exact⟨_,by omega,i+1,by omega,rfl,by rw[hs];simp[qdP],wr (by omega) (by omega),by rw[hs];simp[]⟩
   have hi':i=p.vars.length:=(by omega);subst hi';have he:=qf7 (Yw p.vars p.vars.length) [.cells (qu p)];simp[h1,h3,h4];simpa using he
 have x:qJ p=[]:=by simp[qJ,h0]
 rw[x];simp[h0,Leq]
structure VH(p:Problem):Prop where
 names:∀v∈p.vars,Fits v.name
 exprs:∀e∈p.hard++p.soft,Wen e
 dists:Fits p.dists
 weights:∀d∈p.dists,Fits d.weights
 groups:Fits p.groups
 group:∀g∈p.groups,Fits g
def VH.small{p}(h:VH p)(hs:jY p=true):VP p:=by
 simp only[jY,qBf,qCA,qDy,decide_eq_false_iff_not,qBk,decide_eq_true_eq]at hs;obtain⟨⟨⟨⟨⟨⟨⟨⟨a1,a2⟩,a3⟩,a4⟩,a5⟩,b1⟩,b2⟩,b3⟩,b4⟩:=hs;refine⟨by omega,h.names,by omega,by omega,fun e he=>?_,h.dists,h.weights,h.groups,h.group,?_⟩
 . have hb:jr e 0=true:=by
    rcases qBp.1 he with he|he
    . exact b1 e he
    exact b2 e he
   have h1:=qdy e 0 hb;have h2:=qlK hb;exact⟨h.exprs e he,by omega,by omega⟩
 have:∀(g:List (List Int)),(∀x∈g,x.length<=20)->g.flatten.length<=g.length*20:=by
  intro g
  induction g with
  |nil=>simp
  | cons a r ih=>
   intro h;have h1:=h a (by simp);have h2:=ih fun x hx=>h x (by simp[hx])
   simp only[qBZ,qBe,qBr];omega
 have:=this p.groups b4;omega
def Y9{l i}(h:i<l.length):zM l i=l[i].width:=by simp[zM,qBc h]
def kw(l:List Var)(s:List Int):Int:=s.foldl (fun n i=>IntKind.i64.wrap (n+zM l i.toNat)) 0
def ZY{p i}(h:i∈qJ p):0<=i/\i<p.vars.length:=by
 unfold qJ at h;split at h
 . cases h
 unfold Yw at h;obtain⟨j,hj,rfl⟩:=qBA.1 h;have:=qB5.1 (qCm.1 hj).1;omega
def Ya(p)(h:p.vars.length<=20):(qJ p).length<=20:=by
 unfold qJ;split
 . simp
 exact qB6 qaJ h
def qfC{l}{s:List Int}{i}{v:Int}(h:s[i]?=some v):kw l (s.take (i+1))=IntKind.i64.wrap (kw l (s.take i)+zM l v.toNat):=by
 unfold kw;rw[qBG,h,qCe];rfl
def qtk(p)(h:VQ p)(hv20:p.vars.length<=20)(hfl:p.groups.flatten.length<4611686018427387904):Pure prog GG 18 [.agg (qu p)] (.int .i64 (kw p.vars (qJ p))):=by
 refine okzQ func18 rfl rfl ?_;have hv:=qjY p h hv20 hfl;have hlen:=Ya p hv20;have hrg:∀i∈qJ p,0<=i/\i<p.vars.length:=fun i hi=>ZY hi
 simp only[qu]at hv;generalize qJ p=R at hv hlen hrg⊢;simp;refine qFJ hv (by simp) ?_
 try simp
 refine qFW (fun q env U=>∃i,i<=R.length/\q=R.length-i/\env 1=.ptr 0 0/\env 3=.sl 1 (R.map qh) .none/\env 4=.int .i64 (kw p.vars (R.take i))/\env 5=.int .i64 i/\U=⟨[.cells (qu p)],[]⟩) R.length ⟨0,by simp[kw]⟩ ?_;rintro q env U ⟨i,hi,rfl,h1,h3,h4,h5,rfl⟩
 cases hvi:R[i]? with
 | some v=>
  obtain⟨hc,hv'⟩:=qBa.1 hvi;obtain⟨r1,r2⟩:=hrg v (qBb hvi);obtain⟨j,rfl⟩:=qBw r1;have hj:j<p.vars.length:=by omega
  have hs:=qfC (l:=p.vars) hvi;simp only[qBF]at hs;rw[Y9 hj]at hs;simp[h1,h3,h4,h5,hc,hv',hj];exact⟨_,by omega,i+1,by omega,rfl,by rw[hs],wr (by omega) (by omega)⟩
 | none=>
  have hc:¬i<R.length:=by simp at hvi;omega
  have ht:R.take i=R:=qBh (by omega);rw[ht]at h4;simp[h1,h3,h4,h5,hc]
def qv9(p)(h:VP p):Pure prog GG 18 [.agg (qu p)] (.int .i64 (kw p.vars (qJ p))):=qtk p h.q h.vars20 (by have:=h.flat;omega)
structure VM(p):Prop where
 h:VH p
 vars:Fits p.vars
 hard:Fits p.hard
 soft:Fits p.soft
 grp:∀g∈p.groups,g.length<17592186044416
def qn1(v:Var)(s:Str):Pure prog GG 348 [.agg (qG v),.rptr [.str s]] (.bool (v.name==s)):=by
 refine okzP func348 rfl rfl ?_;simp
def K6{ops e}(h:(pre e).length<=100000):(zO ops e).length<=100000:=by
 have:∀(l:List Ex) (s:List Str),(l.foldl (WT ops) s).length<=s.length+l.length:=by
  intro l
  induction l with
  |nil=>intro s;simp
  |cons a r ih=>intro s;have:=ih (WT ops s a);have:=vO (ops:=ops) (s:=s) (e:=a);simp only[qBP,qBr];omega
 have:=this (pre e) [];simp only[zO,qB0]at this⊢;omega
noncomputable def wP(vs:List Var)(e:Ex):Bool:=decide (zy vs e=0)
def qn2(p e)(hl:Fits p.vars)(hwe:Wen e)(hh:hgt e<1000000)(hsz:(pre e).length<=100000):Pure prog GG 301 [.agg (qu p),.agg (qp e)] (.bool (wP p.vars e)):=by
 refine okzP func301 rfl rfl ?_;obtain⟨r,hr⟩:∃r,r=wP p.vars e:=⟨_,rfl⟩;rw[<- hr];simp[qc e];rw[<- qc e];refine qFz (Ki e hwe hh) (by simp) ?_;by_cases h0:zk e=0
 case neg=>
  have:r=false:=by rw[hr];unfold wP zy;rw[if_pos h0];exact decide_eq_false h0
  simp[h0,this]
 simp[h0,qc e];rw[<- qc e];refine qFz (QE e hwe hsz) (by simp) ?_;have hab:=QZ (e:=e);cases ha:Yq e
 case true=>
  rw[ha]at hab;have hlz:(0:Int)<(zO [3,24] e).length:=by have:=of_decide_eq_true hab;omega
  have:r=false:=by rw[hr];unfold wP zy;simp[h0,ha]
  have hnn:¬zO [3,24] e=[]:=fun h=>by rw[h]at hlz;simp at hlz
  simp[hnn,this]
 rw[ha]at hab;have hlz:(zO [3,24] e).length=0:=by have:=of_decide_eq_false hab;omega
 have hnil:=qBo hlz;simp[hnil,qc e];rw[<- qc e];refine qFz (Z5 e hwe hsz) (by simp) ?_;have hfn:=K6 (ops:=[2]) hsz;have hrr:r = !((zO [2] e).any fun s=>!Qr p.vars s):=by
  rw[hr,QR];unfold wP zy;cases hf:Zx p.vars e<;>simp[h0,ha]
 obtain⟨N,hN⟩:∃N,N=zO [2] e:=⟨_,rfl⟩;rw[<- hN]at hfn hrr⊢;simp;refine qFD N (fun d ev U=>ev 2=.ptr 0 0/\ev 17=.sl 1 (N.map jo) .none/\ev 18=.int .i64 N.length/\ev 19=.int .i64 d.length/\(∃H,U=⟨H,[]⟩/\H[0]?=some (.cells (qu p)))/\∀s∈d,Qr p.vars s=true) ?_ ?_ ?_
 . simp
 . rintro d s rest ev U hd hx hlt ⟨e2,e17,e18,e19,⟨H,rfl,h0⟩,hall⟩;have hw:=wr (n:=(d.length:Int)+1) (by omega) (by omega);simp[-getElem?_pos,e2,e17,e18,e19,hlt,hx,qd h0];refine qFB (Qz GG p.vars (fun v=>v.name==s) 348 [] [.rptr [.str s]] hl rfl (by simp) fun v _=>qn1 v s) rfl ?_ ?_
   . simp[frz]
   cases hv:Qr p.vars s
   . have hv':(p.vars.any fun v=>v.name==s)=false:=hv;have:r=false:=by rw[hrr,Bool.not_eq_false',qBJ];exact⟨s,by rw[hd];simp,by simp[hv]⟩
     simp[hv',this]
   have hv':(p.vars.any fun v=>v.name==s)=true:=hv;simp[-getElem?_pos,hv',e2,e17,e18,e19,hw];exact⟨qd h0 _,fun t ht=>by
    rcases ht with ht|rfl
    . exact hall t ht
    exact hv⟩
 rintro ev U ⟨e2,e17,e18,e19,⟨H,rfl,h0⟩,hall⟩;have:r=true:=by
  rw[hrr,qCA,qCV];intro s hs;simp[hall s hs]
 simp[e18,e19,this]
def qpj(n):((BitVec.ofInt 64 n &&& 65535#64).toNat:Int)=n%65536:=by
 rw[BitVec.toNat_and,BitVec.toNat_ofInt];rw[show(65535#64).toNat=2^16-1 by decide,qDK];omega
def qxV{n}(h0:0<=n)(h1:n<=65535):IntKind.u16.wrap n=n:=by
 simp[IntKind.wrap,IntKind.bits,IntKind.signed];omega
def qiT(n):IntKind.u16.wrap n=n%65536:=by
 simp[IntKind.wrap,IntKind.bits,IntKind.signed]
def qwl(n):zA .and .i64 n 65535=some (.int .i64 (qw n)):=by
 have h2:=qpj n;have h5:n%65536=qw n:=rfl;show some (AV.int .i64 (IntKind.i64.wrap ((BitVec.ofInt 64 n &&& 65535#64).toNat:Int)))=_;rw[h2,h5,wr (by omega) (by omega)]
def W7(n):Pure prog GG 336 [.int .i64 n] (.int .u16 (qw n)):=by
 refine okzQ func336 rfl rfl ?_;have h1:=qv n;simp[-zA,qwl,yF,qxV h1.1 h1.2]
def YG(n)(h0:0<=n)(h1:n<=65535):Pure prog GG 337 [.int .u16 n] (.int .i64 n):=by
 refine okzQ func337 rfl rfl ?_;simp[yF,show IntKind.i64.wrap n=n from wr (by omega) (by omega)]
def qqR(n):Pure prog GG 297 [.int .i64 n] (.int .i64 (qw n)):=by
 refine okzQ func297 rfl rfl ?_
 try simp
 refine qFJ (W7 n) rfl ?_
 try simp
 refine qFJ (YG (qw n) (qv n).1 (qv n).2) rfl ?_;simp
def qjj{f x b r}(hx:qL x=true)(h0:0<=r)(h1:r<=65535)(h:Pure prog GG f [x,.int .u16 (qw b)] (.int .u16 r)):Pure prog GG 338 [.fn f [x] [],.int .i64 b] (.int .i64 r):=by
 refine okzQ func338 rfl rfl ?_
 try simp
 refine qFJ (W7 b) rfl ?_
 try simp
 refine qFJ h (by simp[hx]) ?_
 try simp
 refine qFJ (YG r h0 h1) rfl ?_;simp
def qpZ{f x r}(hx:qL x=true)(h0:0<=r)(h1:r<=65535)(h:Pure prog GG f [x] (.int .u16 r)):Pure prog GG 375 [.fn f [x] []] (.int .i64 r):=by
 refine okzQ func375 rfl rfl ?_
 try simp
 refine qFJ h (by simp[hx]) ?_
 try simp
 refine qFJ (YG r h0 h1) rfl ?_;simp
def qqX(a b):Pure prog GG 339 [.int .u16 (qw a),.int .u16 (qw b)] (.int .u16 (qw (a+b))):=by
 refine okzQ func339 rfl rfl ?_;simp[zA,show IntKind.u16.wrap (qw a+qw b)=qw (a+b) by rw[qiT];unfold qw;omega]
def qqN(a b):Pure prog GG 379 [.int .u16 (qw a),.int .u16 (qw b)] (.int .u16 (qw (a-b))):=by
 refine okzQ func379 rfl rfl ?_;simp[zA,show IntKind.u16.wrap (qw a-qw b)=qw (a-b) by rw[qiT];unfold qw;omega]
def qbL(a b):qw (qw a*qw b)=qw (a*b):=by
 unfold qw;rw[<- qFr]
def qqV(a b):Pure prog GG 380 [.int .u16 (qw a),.int .u16 (qw b)] (.int .u16 (qw (a*b))):=by
 refine okzQ func380 rfl rfl ?_;simp[zA,show IntKind.u16.wrap (qw a*qw b)=qw (a*b) by rw[qiT];exact qbL a b]
def qqU(a):Pure prog GG 377 [.int .u16 (qw a)] (.int .u16 (qw (0-a))):=by
 refine okzQ func377 rfl rfl ?_;have h:IntKind.u16.wrap (0-qw a)=qw (0-a):=by rw[qiT];unfold qw;omega
 simp only[Int.zero_sub]at h⊢;simp[unA,h]
def qmr{n}(h0:0<=n)(h1:n<=65535):(((BitVec.ofInt 16 65535) ^^^ (BitVec.ofInt 16 n)).toNat:Int)=65535-n:=by
 rw[show BitVec.ofInt 16 65535=BitVec.allOnes 16 by decide,BitVec.allOnes_xor,BitVec.toNat_not,BitVec.toNat_ofInt];omega
def qqW(a):Pure prog GG 376 [.int .u16 (qw a)] (.int .u16 (65535-qw a)):=by
 refine okzQ func376 rfl rfl ?_;have hr:=qv a;have h:=qmr hr.1 hr.2;have h4:unA .xor (.int .u16 (qw a))=some (.int .u16 (65535-qw a)):=by
  unfold unA;simp only[];rw[show(if IntKind.u16.signed=true then(-1:Int) else IntKind.u16.max)=65535 by decide];show some (AV.int .u16 (IntKind.u16.wrap (((BitVec.ofInt 16 65535) ^^^ (BitVec.ofInt 16 (qw a))).toNat:Int)))=_;rw[h,show IntKind.u16.wrap (65535-qw a)=65535-qw a from qxV (by omega) (by omega)]
 simp[-unA,h4]
def qqA(a b):Pure prog GG 298 [.int .i64 a,.int .i64 b] (.int .i64 (qw (a+b))):=by
 refine okzQ func298 rfl rfl ?_
 try simp
 refine qFJ (W7 a) rfl ?_
 try simp
 refine qFJ (qjj (by simp) (qv _).1 (qv _).2 (qqX a b)) rfl ?_;simp
def quB(a b):Pure prog GG 344 [.int .i64 a,.int .i64 b] (.int .i64 (qw (a-b))):=by
 refine okzQ func344 rfl rfl ?_
 try simp
 refine qFJ (W7 a) rfl ?_
 try simp
 refine qFJ (qjj (by simp) (qv _).1 (qv _).2 (qqN a b)) rfl ?_;simp
def qvf(a b):Pure prog GG 345 [.int .i64 a,.int .i64 b] (.int .i64 (qw (a*b))):=by
 refine okzQ func345 rfl rfl ?_
 try simp
 refine qFJ (W7 a) rfl ?_
 try simp
 refine qFJ (qjj (by simp) (qv _).1 (qv _).2 (qqV a b)) rfl ?_;simp
def qvw(a):Pure prog GG 341 [.int .i64 a] (.int .i64 (65535-qw a)):=by
 refine okzQ func341 rfl rfl ?_;have hr:=qv a
 try simp
 refine qFJ (W7 a) rfl ?_
 try simp
 refine qFJ (qpZ (by simp) (by omega) (by omega) (qqW a)) rfl ?_;simp
def qvc(a):Pure prog GG 342 [.int .i64 a] (.int .i64 (qw (0-a))):=by
 refine okzQ func342 rfl rfl ?_
 try simp
 refine qFJ (W7 a) rfl ?_
 try simp
 refine qFJ (qpZ (by simp) (qv _).1 (qv _).2 (qqU a)) rfl ?_;simp
def qtL(a b:Int):Int:=if 0<=b/\b<16 then qw (a*2^b.toNat) else 0
def qpI(a b:Int):Int:=if 0<=b/\b<16 then qw a/2^b.toNat else 0
def qfK{f x b r}(hx:qL x=true)(h0:0<=r)(h1:r<=65535)(h:0<=b->b<16->Pure prog GG f [x,.int .i64 b] (.int .u16 r)):
 Pure prog GG 381 [.fn f [x] [],.int .i64 b] (.int .i64 (if 0<=b/\b<16 then r else 0)):=by
 refine okzQ func381 rfl rfl ?_;by_cases c0:b<0
 . rw[if_neg (by omega)];simp[c0]
 by_cases c1:16<=b
 . rw[if_neg (by omega)];simp[c0,c1]
 rw[if_pos (by omega)];simp[c0,c1];refine qFJ (h (by omega) (by omega)) (by simp[hx]) ?_
 try simp
 refine qFJ (YG r h0 h1) rfl ?_;simp
def Ve(a c):qw (qw a*c)=qw (a*c):=by
 unfold qw;rw[qFr,Int.emod_emod_of_dvd _ (Int.dvd_refl _),<- qFr]
def qqP(a b)(h0:0<=b)(h1:b<16):Pure prog GG 382 [.int .u16 (qw a),.int .i64 b] (.int .u16 (qw (a*2^b.toNat))):=by
 refine okzQ func382 rfl rfl ?_;simp[qo6,IntKind.bits,show min b.toNat 16=b.toNat by omega,show IntKind.u16.wrap (qw a*2^b.toNat)=qw (a*2^b.toNat) by rw[qiT];exact Ve a _,show ¬b<0 by omega]
def qqO(a b)(h0:0<=b)(h1:b<16):Pure prog GG 383 [.int .u16 (qw a),.int .i64 b] (.int .u16 (qw a/2^b.toNat)):=by
 refine okzQ func383 rfl rfl ?_;have hp:(0:Int)<2^b.toNat:=qE4 (by omega);simp[qo6,IntKind.bits,show min b.toNat 16=b.toNat by omega,show(qw a).fdiv (2^b.toNat)=qw a/2^b.toNat from qDv _ (by omega),show ¬b<0 by omega]
def quK(a b):Pure prog GG 346 [.int .i64 a,.int .i64 b] (.int .i64 (qtL a b)):=by
 refine okzQ func346 rfl rfl ?_
 try simp
 refine qFJ (W7 a) rfl ?_
 try simp
 refine qFJ (qfK (by simp) (qv _).1 (qv _).2 (qqP a b)) rfl ?_;simp[qtL]
def quJ(a b):Pure prog GG 347 [.int .i64 a,.int .i64 b] (.int .i64 (qpI a b)):=by
 refine okzQ func347 rfl rfl ?_;have hr:=Kw b.toNat (qv a).1 (qv a).2
 try simp
 refine qFJ (W7 a) rfl ?_
 try simp
 refine qFJ (qfK (by simp) hr.1 hr.2 (qqO a b)) rfl ?_;simp[qpI]
def qyb:List UInt8:=(List.range 256).map fun i=>UInt8.ofNat (yR i 8)
def qfB{i}(h:i<256):qyb[i]?=some (UInt8.ofNat (yR i 8)):=by simp[qyb,h]
def qgc(a):∀i,i<=8->yR (a%256) i=yR a i
 |0,_=>rfl
 | i+1,h=>by
  have h1:(a%256).testBit i=a.testBit i:=by
   rw[show 256=2^8 by decide,qEe];simp;omega
  simp only[yR,qgc a i (by omega),h1]
def qgd(a):∀i,yR a (8+i)=yR a 8+yR (a/256) i
 |0=>by simp[yR]
 | i+1=>by
  have h1:(a/256).testBit i=a.testBit (8+i):=by
   rw[show 256=2^8 by decide,qE0,qDi]
  show yR a (8+i+1)=_;simp only[yR,qgd a i,h1];omega
def qnP(a):yR a 16=yR (a/256) 8+yR (a%256) 8:=by
 rw[qgc a 8 (qBl _),show 16=8+8 by rfl,qgd];omega
def qz7:([0,1,1,2,1,2,2,3,1,2,2,3,2,3,3,4,1,2,2,3,2,3,3,4,2,3,3,4,3,4,4,5,1,2,2,3,2,3,3,4,2,3,3,4,3,4,4,5,2,3,3,4,3,4,4,5,3,4,4,5,4,5,5,6,1,2,2,3,2,3,3,4,2,3,3,4,3,4,4,5,2,3,3,4,3,4,4,5,3,4,4,5,4,5,5,6,2,3,3,4,3,4,4,5,3,4,4,5,4,5,5,6,3,4,4,5,4,5,5,6,4,5,5,6,5,6,6,7,1,2,2,3,2,3,3,4,2,3,3,4,3,4,4,5,2,3,3,4,3,4,4,5,3,4,4,5,4,5,5,6,2,3,3,4,3,4,4,5,3,4,4,5,4,5,5,6,3,4,4,5,4,5,5,6,4,5,5,6,5,6,6,7,2,3,3,4,3,4,4,5,3,4,4,5,4,5,5,6,3,4,4,5,4,5,5,6,4,5,5,6,5,6,6,7,3,4,4,5,4,5,5,6,4,5,5,6,5,6,6,7,4,5,5,6,5,6,6,7,5,6,6,7,6,7,7,8]:List UInt8)=qyb:=by decide +kernel
def qr1(a)(h0:0<=a)(h1:a<=65535):Pure prog GG 378 [.int .u16 a] (.int .i64 (yR a.toNat 16)):=by
 refine okzQ func378 rfl rfl ?_;obtain⟨n,rfl⟩:=qBw h0;have e1:qo6 (Dof prog) .shr 337 (.int .u16 (n:Int)) (.int .u64 8)=some (.int .u16 ((n/256:Nat):Int)):=by
  have e:(n:Int).fdiv (2^(min 8 IntKind.u16.bits))=((n/256:Nat):Int):=by
   show(n:Int).fdiv 256=_;rw[qDv _ (by omega)];omega
  show some (AV.int .u16 ((n:Int).fdiv (2^(min 8 IntKind.u16.bits))))=_;rw[e]
 have e2:qo6 (Dof prog) .and 337 (.int .u16 (n:Int)) (.int .u16 255)=some (.int .u16 ((n%256:Nat):Int)):=by
  have e:((BitVec.ofInt 16 (n:Int) &&& 255#16).toNat:Int)=((n%256:Nat):Int):=by
   rw[BitVec.toNat_and,BitVec.toNat_ofInt];have e:(255#16).toNat=2^8-1:=(by decide);rw[e,qDK];omega
  show some (AV.int .u16 (IntKind.u16.wrap ((BitVec.ofInt 16 (n:Int) &&& 255#16).toNat:Int)))=_;rw[e,qxV (by omega) (by omega)]
 have g1:=qfB (i:=n/256) (by omega);have g2:=qfB (i:=n%256) (by omega);have l1:=Z0 (n/256) 8;have l2:=Z0 (n%256) 8;have e4:=qnP n;have u:∀x y:Nat,x<=8->y<=8->IntKind.u8.wrap (((x:Int)%256)+((y:Int)%256))=(x:Int)+y/\IntKind.i64.wrap ((x:Int)+y)=x+y:=by
  intro x y hx hy;refine⟨?_,wr (by omega) (by omega)⟩;simp[IntKind.wrap,IntKind.bits,IntKind.signed];omega
 obtain⟨w1,w2⟩:=u _ _ l1 l2;rw[qBF,e4];generalize n/256=p at *;generalize n%256=q at *;simp[e1,e2,qz7,g1,g2,-qo6,-zA];simp[w1,w2,yF]
def qr2(a):Pure prog GG 343 [.int .i64 a] (.int .i64 (yR (qw a).toNat 16)):=by
 refine okzQ func343 rfl rfl ?_
 try simp
 refine qFJ (W7 a) rfl ?_
 try simp
 refine qFJ (qr1 (qw a) (qv a).1 (qv a).2) rfl ?_;simp
def qhv(n):n.tmod 65536=if 0<=n then n%65536 else -((-n)%65536):=by
 split
 . rename_i h;exact qB4 h
 rename_i h;rw[show n.tmod 65536 = -((-n).tmod 65536) by rw[Int.neg_tmod];omega,qB4 (by omega)]
def qeu{n}(h:n<=16):(2:Int)^n<=65536/\(0:Int)<2^n:=by
 have h1:=qBL (n:=2) (by decide) h;have h2:=Nat.pow_pos (n:=n) (show 0<2 by decide);rw[show(2:Int)^n=((2^n:Nat):Int) by simp];omega
def jt(n):Pure prog GG 357 [.int .i64 n] (.int .i64 (qw n)):=by
 refine okzQ func357 rfl rfl ?_;have ht:=qhv n;by_cases h:n.tmod 65536<0
 . have hn:¬0<=n:=fun hn=>by rw[if_pos hn]at ht;omega
   rw[if_neg hn]at ht;have h1:IntKind.i64.wrap (n.tmod 65536+65535)=n.tmod 65536+65535:=wr (by omega) (by omega);have h2:IntKind.i64.wrap (n.tmod 65536+65535+1)=qw n:=by
    rw[wr (by omega) (by omega)];unfold qw;omega
   simp[h,h1,h2]
   try rw[<- h1,h2]
 have h2:n.tmod 65536=qw n:=by
  unfold qw;split at ht<;>omega
 simp[zA,h];exact h2
def qj0(a b):Pure prog GG 326 [.int .i64 a,.int .i64 b] (.int .i64 (qw (a+b))):=by
 refine qFZ qX func326 rfl (by kernel_rfl) ?_;have ha:=qv a;have hb:=qv b
 try simp
 refine qFJ (jt a) rfl ?_
 try simp
 refine qFJ (jt b) rfl ?_;simp[show IntKind.i64.wrap (qw a+qw b)=qw a+qw b from wr (by omega) (by omega)];refine qFJ (jt _) rfl ?_;simp[show qw (qw a+qw b)=qw (a+b) by unfold qw;omega]
def qrs(a b):Pure prog GG 363 [.int .i64 a,.int .i64 b] (.int .i64 (qw (a-b))):=by
 refine okzQ func363 rfl rfl ?_;have ha:=qv a;have hb:=qv b
 try simp
 refine qFJ (jt a) rfl ?_
 try simp
 refine qFJ (jt b) rfl ?_;simp[show IntKind.i64.wrap (qw a-qw b)=qw a-qw b from wr (by omega) (by omega)];refine qFJ (jt _) rfl ?_;simp[show qw (qw a-qw b)=qw (a-b) by unfold qw;omega]
def qcL{a b c d:Int}(ha0:0<=a)(ha1:a<=c)(hb0:0<=b)(hb1:b<=d):0<=a*b/\a*b<=c*d :=
 ⟨Int.mul_nonneg ha0 hb0,Int.mul_le_mul ha1 hb1 hb0 (by omega)⟩
def qrw(a b):Pure prog GG 364 [.int .i64 a,.int .i64 b] (.int .i64 (qw (a*b))):=by
 refine okzQ func364 rfl rfl ?_;have ha:=qv a;have hb:=qv b;have hm:=qcL ha.1 ha.2 hb.1 hb.2;have h2:=qbL a b
 try simp
 refine qFJ (jt a) rfl ?_
 try simp
 refine qFJ (jt b) rfl ?_;simp[show IntKind.i64.wrap (qw a*qw b)=qw a*qw b from wr (by omega) (by omega)];refine qFJ (jt _) rfl ?_;simp[h2]
def qrz(a):Pure prog GG 360 [.int .i64 a] (.int .i64 (65535-qw a)):=by
 refine okzQ func360 rfl rfl ?_;have ha:=qv a
 try simp
 refine qFJ (jt a) rfl ?_;simp[show IntKind.i64.wrap (65535-qw a)=65535-qw a from wr (by omega) (by omega)]
def qru(a):Pure prog GG 361 [.int .i64 a] (.int .i64 (qw (0-a))):=by
 refine okzQ func361 rfl rfl ?_;have ha:=qv a
 try simp
 refine qFJ (jt a) rfl ?_;simp[show IntKind.i64.wrap (-qw a) = -qw a from wr (by omega) (by omega)];refine qFJ (jt _) rfl ?_;simp[show qw (-qw a)=qw (-a) by unfold qw;omega]
def qcm(n:Nat)(hn:n<=16):Pure prog GG 392 [.int .i64 n] (.int .i64 (2^n)):=by
 refine okzQ func392 rfl rfl ?_;simp;refine qFW (fun q env U=>∃i:Nat,i<=n/\q=n-i/\env 0=.int .i64 n/\env 3=.int .i64 (2^i)/\env 4=.int .i64 i/\U=⟨[],[]⟩) n ⟨0,by simp⟩ ?_;rintro q env U ⟨i,hi,rfl,h0,h3,h4,rfl⟩;by_cases hc:i<n
 . have hc':(i:Int)<n:=(by omega);obtain⟨hp,hp0⟩:=qeu (n:=i) (by omega);simp[h0,h3,h4,hc];exact⟨_,by omega,i+1,by omega,rfl,(by rw[wr (by omega) (by omega),Int.pow_succ];omega),wr (by omega) (by omega)⟩
 have hi':i=n:=by omega
 subst hi';simp[h0,h3,h4]
def qrt(a b):Pure prog GG 368 [.int .i64 a,.int .i64 b] (.int .i64 (qtL a b)):=by
 refine okzQ func368 rfl rfl ?_;unfold qtL;by_cases c0:b<0
 . rw[if_neg (by omega)];simp[c0]
 by_cases c1:15<b
 . rw[if_neg (by omega)];simp[c0,c1]
 rw[if_pos (by omega)];obtain⟨n,rfl⟩:=qBw (show 0<=b by omega);have ha:=qv a;obtain⟨hp,hp0⟩:=qeu (n:=n) (by omega);have hm:=qcL ha.1 ha.2 (Int.le_of_lt hp0) hp;have h2:=Ve a (2^n);simp[c1,show ¬(n:Int)<0 by omega];refine qFJ (jt a) rfl ?_
 try simp
 refine qFJ (qcm n (by omega)) rfl ?_;simp[show IntKind.i64.wrap (qw a*2^n)=qw a*2^n from wr (by omega) (by omega)];refine qFJ (jt _) rfl ?_;simp[h2]
def qjN(a b):Pure prog GG 369 [.int .i64 a,.int .i64 b] (.int .i64 (qpI a b)):=by
 refine okzQ func369 rfl rfl ?_;unfold qpI;by_cases c0:b<0
 . rw[if_neg (by omega)];simp[c0]
 by_cases c1:15<b
 . rw[if_neg (by omega)];simp[c0,c1]
 rw[if_pos (by omega)];obtain⟨n,rfl⟩:=qBw (show 0<=b by omega);have ha:=qv a;obtain⟨hp,hp0⟩:=qeu (n:=n) (by omega);have hr:=Kw n ha.1 ha.2;simp[c1,show ¬(n:Int)<0 by omega];refine qFJ (jt a) rfl ?_
 try simp
 refine qFJ (qcm n (by omega)) rfl ?_;simp[qCG ha.1,show IntKind.i64.wrap (qw a/2^n)=qw a/2^n from wr (by omega) (by omega),show ¬((2:Int)^n=0) by omega]
def qqu(a n):(a/2^n)%2=if a.testBit n=true then 1 else 0:=by
 rw[qEm];have:=qEI (a/2^n);rcases this with h|h<;>simp[h]
def qjW(a:Int)(n:Nat)(hn:n<16):Pure prog GG 390 [.int .i64 a,.int .i64 n] (.int .i64 (if(qw a).toNat.testBit n=true then 1 else 0)):=by
 refine okzQ func390 rfl rfl ?_
 try simp
 refine qFJ (qjN a n) rfl ?_;have ha:=qv a;have he:(qw a/2^n).tmod 2=(if(qw a).toNat.testBit n=true then 1 else 0):=by
  obtain⟨m,hm⟩:=qBw ha.1;rw[hm];have hb:=qqu m n;have e3:∀q:Nat,(q:Int).tmod 2=((q%2:Nat):Int):=fun q=>by
   rw[qB4 (by omega)];omega
  rw[show((m:Int)/2^n)=((m/2^n:Nat):Int) by simp,e3,qBF,hb];split<;>rfl
 rw[show qpI a n=qw a/2^n by unfold qpI;rw[if_pos (by omega)];simp];simp[he]
def qnb(a):Pure prog GG 362 [.int .i64 a] (.int .i64 (yR (qw a).toNat 16)):=by
 refine okzQ func362 rfl rfl ?_;simp;refine qFW (fun q env U=>∃i:Nat,i<=16/\q=16-i/\env 0=.int .i64 a/\env 3=.int .i64 (yR (qw a).toNat i)/\env 4=.int .i64 i/\U=⟨[],[]⟩) 16 ⟨0,by simp[yR]⟩ ?_;rintro q env U ⟨i,hi,rfl,h0,h3,h4,rfl⟩;by_cases hc:i<16
 . have hc':(i:Int)<16:=(by omega);have hle:=Z0 (qw a).toNat i;simp[h0,h3,h4,hc'];refine qFJ (qjW a i hc) rfl ?_;have hw:IntKind.i64.wrap ((yR (qw a).toNat i:Int)+(if(qw a).toNat.testBit i=true then 1 else 0))=(yR (qw a).toNat (i+1):Int):=by
    rw[wr (by split<;>omega) (by split<;>omega)];simp only[yR];split<;>simp
   simp[hw];exact⟨_,by omega,i+1,by omega,rfl,rfl,wr (by omega) (by omega)⟩
 have hi':i=16:=by omega
 subst hi';simp[h0,h3,h4]
def qfb(a b:Int):(a==b)=decide (a=b):=by
 by_cases h:a=b
 . subst h;simp
 rw[decide_eq_false h];exact beq_eq_false_iff_ne.2 h
def QC(a b:Int):(a != b) = !decide (a=b):=by rw[bne,qfb]
def yI(b):Pure prog GG 340 [.bool b] (.int .i64 (b2i b)):=by
 refine okzQ func340 rfl rfl ?_;cases b<;>simp[b2i]
def j7(b):Pure prog GG 359 [.bool b] (.int .i64 (b2i b)):=by
 refine okzQ func359 rfl rfl ?_;cases b<;>simp[b2i]
def qlT(a b:Int):b2i (a==b)=b2i (decide (a=b)):=by
 have e:(a==b)=decide (a=b):=by
  by_cases h:a=b
  . subst h;simp
  rw[decide_eq_false h];exact beq_eq_false_iff_ne.2 h
 rw[e]
def qjA(op a):Pure prog GG 299 [.int .i64 op,.int .i64 a] (.int .i64 (unW op a)):=by
 refine qFZ qX func299 rfl (by kernel_rfl) ?_;by_cases h4:op=4
 . subst h4;simp;refine qFJ (yI _) rfl ?_;simp[unW,qlT]
 by_cases h5:op=5
 . subst h5;simp;refine qFJ (qvw a) rfl ?_;simp[unW]
 by_cases h6:op=6
 . subst h6;simp;refine qFJ (qvc a) rfl ?_;simp[unW]
 simp[h4,h5,h6];refine qFJ (qr2 a) rfl ?_;simp[unW,h4,h5,h6]
def qjL(op a):Pure prog GG 327 [.int .i64 op,.int .i64 a] (.int .i64 (unW op a)):=by
 refine okzQ func327 rfl rfl ?_;by_cases h4:op=4
 . subst h4;simp;refine qFJ (j7 _) rfl ?_;simp[unW,qlT]
 by_cases h5:op=5
 . subst h5;simp;refine qFJ (qrz a) rfl ?_;simp[unW]
 by_cases h6:op=6
 . subst h6;simp;refine qFJ (qru a) rfl ?_;simp[unW]
 simp[h4,h5,h6];refine qFJ (qnb a) rfl ?_;simp[unW,h4,h5,h6]
def qsg{x y:Nat}(hx:x<65536)(hy:y<65536):zA .and .i64 (x:Int) (y:Int)=some (.int .i64 ((x &&& y:Nat):Int)):=by
 have h:=qEE (n:=16) x (y:=y) (by omega);have e1:(BitVec.ofInt IntKind.i64.bits (x:Int)).toNat=x:=by
  show(BitVec.ofInt 64 (x:Int)).toNat=x;rw[BitVec.toNat_ofInt];omega
 have e2:(BitVec.ofInt IntKind.i64.bits (y:Int)).toNat=y:=by
  show(BitVec.ofInt 64 (y:Int)).toNat=y;rw[BitVec.toNat_ofInt];omega
 show some (AV.int .i64 (IntKind.i64.wrap ((BitVec.ofInt IntKind.i64.bits (x:Int) &&& BitVec.ofInt IntKind.i64.bits (y:Int)).toNat:Int)))=_;rw[BitVec.toNat_and,e1,e2,wr (by omega) (by omega)]
def qvd{x y:Nat}(hx:x<65536)(hy:y<65536):zA .or .i64 (x:Int) (y:Int)=some (.int .i64 ((x ||| y:Nat):Int)):=by
 have h:=qEJ (n:=16) (x:=x) (y:=y) (by omega) (by omega);have e1:(BitVec.ofInt IntKind.i64.bits (x:Int)).toNat=x:=by
  show(BitVec.ofInt 64 (x:Int)).toNat=x;rw[BitVec.toNat_ofInt];omega
 have e2:(BitVec.ofInt IntKind.i64.bits (y:Int)).toNat=y:=by
  show(BitVec.ofInt 64 (y:Int)).toNat=y;rw[BitVec.toNat_ofInt];omega
 show some (AV.int .i64 (IntKind.i64.wrap ((BitVec.ofInt IntKind.i64.bits (x:Int) ||| BitVec.ofInt IntKind.i64.bits (y:Int)).toNat:Int)))=_;rw[BitVec.toNat_or,e1,e2,wr (by omega) (by omega)]
def qsf{x y:Nat}(hx:x<65536)(hy:y<65536):zA .xor .i64 (x:Int) (y:Int)=some (.int .i64 ((x ^^^ y:Nat):Int)):=by
 have h:=qEF (n:=16) (x:=x) (y:=y) (by omega) (by omega);have e1:(BitVec.ofInt IntKind.i64.bits (x:Int)).toNat=x:=by
  show(BitVec.ofInt 64 (x:Int)).toNat=x;rw[BitVec.toNat_ofInt];omega
 have e2:(BitVec.ofInt IntKind.i64.bits (y:Int)).toNat=y:=by
  show(BitVec.ofInt 64 (y:Int)).toNat=y;rw[BitVec.toNat_ofInt];omega
 show some (AV.int .i64 (IntKind.i64.wrap ((BitVec.ofInt IntKind.i64.bits (x:Int) ^^^ BitVec.ofInt IntKind.i64.bits (y:Int)).toNat:Int)))=_;rw[BitVec.toNat_xor,e1,e2,wr (by omega) (by omega)]
def qaf(x i:Nat):Int:=if x.testBit i=true then 1 else 0
def qae(x i):0<=qaf x i/\qaf x i<=1:=by unfold qaf;split<;>omega
def qfS(x i:Nat)(hx:x<65536)(hi:i<16):Pure prog GG 390 [.int .i64 x,.int .i64 i] (.int .i64 (qaf x i)):=by
 have h:=qjW (x:Int) i hi;rw[QG (by omega) (by omega)]at h;simpa[qaf] using h
def qaL(x y:Nat)(lo hi:Int)(X:Nat)(hx:x<65536)(hy:y<65536)(hX:X<65536)(h:∀i,i<16->X.testBit i=decide (lo<=qaf x i+qaf y i/\qaf x i+qaf y i<=hi)):
 Pure prog GG 391 [.int .i64 x,.int .i64 y,.int .i64 lo,.int .i64 hi] (.int .i64 X):=by
 refine okzQ func391 rfl rfl ?_;simp;refine qFW (fun q env U=>q<=16/\env 0=.int .i64 x/\env 1=.int .i64 y/\env 2=.int .i64 lo/\env 3=.int .i64 hi/\env 9=.int .i64 ((X/2^q:Nat):Int)/\env 10=.int .i64 ((q:Int)-1)/\U=⟨[],[]⟩) 16 ⟨by simp,by simp,by simp,by simp,by simp,by simp;omega,by simp⟩ ?_;rintro q env U ⟨hq,h0,h1,h2,h3,h9,h10,rfl⟩
 cases q with
 | zero=>
  simp at h9 h10;simp[h0,h1,h2,h9,h10]
 | succ i=>
  have hi':i<16:=by omega
  rw[show((i+1:Nat):Int)-1=i by omega]at h10;have hbx:=qae x i;have hby:=qae y i;have hw:IntKind.i64.wrap (qaf x i+qaf y i)=qaf x i+qaf y i:=wr (by omega) (by omega);have hXb:=h i hi';have hd:X/2^i=2*(X/2^(i+1))+(if X.testBit i=true then 1 else 0):=by
   rw[<- qqu,qDC,<- Nat.div_div_eq_div_mul];omega
  have hle:X/2^i<=X:=qCp _ _;have hw2:IntKind.i64.wrap (2*((X/2^(i+1):Nat):Int))=((2*(X/2^(i+1)):Nat):Int):=by
   rw[wr (by omega) (by omega)];omega
  have hwi:IntKind.i64.wrap ((i:Int)-1)=(i:Int)-1:=wr (by omega) (by omega);generalize X/2^(i+1)=A at h9 hd hw2;generalize hB:X/2^i=B at hd hle;have hXB:(X:Int)/2^i=(B:Int):=by rw[<- hB];simp
  simp[h0,h1,h2,h9,h10];refine qFJ (qfS x i hx hi') rfl ?_
  try simp[h0,h1,h2,h3,h9,h10]
  refine qFJ (qfS y i hy hi') rfl ?_;by_cases c1:lo<=qaf x i+qaf y i
  . by_cases c2:qaf x i+qaf y i<=hi
    . rw[decide_eq_true (⟨c1,c2⟩:_/\_)]at hXb;rw[hXb]at hd;simp at hd;simp[h0,h1,h2,h3,h10,hw,hw2,c1,c2,hwi];exact⟨i,by omega,by omega,by rw[hXB,wr (by omega) (by omega)];omega,rfl⟩
    . rw[decide_eq_false (fun h=>c2 h.2)]at hXb;rw[hXb]at hd;simp at hd;simp[h0,h1,h2,h3,h10,hw,hw2,c1,c2,hwi];exact⟨i,by omega,by omega,by rw[hXB];omega,rfl⟩
  rw[decide_eq_false (fun h=>c1 h.1)]at hXb;rw[hXb]at hd;simp at hd;simp[h0,h1,h2,h3,h10,hw,hw2,c1,hwi];exact⟨i,by omega,by omega,by rw[hXB];omega,rfl⟩
def qrE(x y:Nat)(hx:x<65536)(hy:y<65536):Pure prog GG 365 [.int .i64 x,.int .i64 y] (.int .i64 ((x &&& y:Nat):Int)):=by
 refine okzQ func365 rfl rfl ?_;simp;refine qFJ (qaL x y 2 2 (x &&& y) hx hy (qEE (n:=16) x hy) fun i hi=>?_) rfl ?_
 . rw[Nat.testBit_and];unfold qaf;cases x.testBit i<;>cases y.testBit i<;>rfl
 simp
def quQ(x y:Nat)(hx:x<65536)(hy:y<65536):Pure prog GG 366 [.int .i64 x,.int .i64 y] (.int .i64 ((x ||| y:Nat):Int)):=by
 refine okzQ func366 rfl rfl ?_;simp;refine qFJ (qaL x y 1 2 (x ||| y) hx hy (qEJ (n:=16) hx hy) fun i hi=>?_) rfl ?_
 . rw[Nat.testBit_or];unfold qaf;cases x.testBit i<;>cases y.testBit i<;>rfl
 simp
def qrr(x y:Nat)(hx:x<65536)(hy:y<65536):Pure prog GG 367 [.int .i64 x,.int .i64 y] (.int .i64 ((x ^^^ y:Nat):Int)):=by
 refine okzQ func367 rfl rfl ?_;simp;refine qFJ (qaL x y 1 1 (x ^^^ y) hx hy (qEF (n:=16) hx hy) fun i hi=>?_) rfl ?_
 . rw[Nat.testBit_xor];unfold qaf;cases x.testBit i<;>cases y.testBit i<;>rfl
 simp
def Q9(env:List Signal)(name:Str):AV:=.tup [.int .i64 ((jE env name).getD 0),.bool (jE env name).isSome]
def qgL{env name i s}(h:env[i]?=some s)(hz:∀x∈env.take i,x.name≠name)(hs:s.name=name):jE env name=some (qw s.value):=by
 have e:env=env.take i++s::env.drop (i+1):=by
  rw[<- ze h,qBX]
 unfold jE;have hn:(env.take i).find? (fun s=>s.name==name)=none:=by
  rw[qDJ];intro x hx;simpa using hz x hx
 rw[e,qEK,hn];simp[hs]
def V6{env name}(h:∀x∈env,x.name≠name):jE env name=none:=by
 unfold jE;have hn:env.find? (fun s=>s.name==name)=none:=by
  rw[qDJ];intro x hx;simpa using h x hx
 rw[hn];rfl
def qeT(env:List Signal)(name:Str)(hl:Fits env):Pure prog GG 237 [.agg [.sl 2 (env.map qH) .none],.str name] (Q9 env name):=by
 refine okzQ func237 rfl rfl ?_;simp;refine qFW (fun n e U=>∃i tl,i<=env.length/\n=env.length-i/\e 1=.str name/\e 9=.sl 2 (env.map qH) .none/\e 10=.int .i64 env.length/\e 11=.int .i64 i/\U=⟨tl,[]⟩/\∀x∈env.take i,x.name≠name) env.length ⟨0,_,by simp,by simp,by simp,by simp,by simp,by simp,rfl,by simp⟩ ?_;rintro n e U ⟨i,tl,hi,rfl,h1,h9,h10,h11,rfl,hz⟩
 cases hv:env[i]? with
 | some s=>
  obtain⟨hc,hv'⟩:=qBa.1 hv;by_cases hs:s.name=name
  . have x:=qgL hv hz hs;simp[h1,h9,h10,h11,hc,hv',hs,qBO];refine qFJ (qqR s.value) rfl ?_;simp[Q9,x]
  simp[h1,h9,h10,h11,hc,hv',hs,qBO];exact⟨_,by omega,i+1,by omega,rfl,wr (by omega) (by omega),qW hv hz hs⟩
 | none=>
  have hc:¬i<env.length:=by simp at hv;omega
  rw[show env.take i=env from qBh (by omega)]at hz;have x:=V6 hz;simp[h9,h10,h11,hc,Q9,x]
def qaK(env:List Signal)(name:Str)(hl:Fits env):Pure prog GG 323 [.sl 2 (env.map qH) .none,.str name] (Q9 env name):=by
 refine okzQ func323 rfl rfl ?_;simp;refine qFW (fun n e U=>∃i,i<=env.length/\n=env.length-i/\e 0=.sl 2 (env.map qH) .none/\e 1=.str name/\e 6=.int .i64 i/\U=⟨[],[]⟩/\∀x∈env.take i,x.name≠name) env.length ⟨0,by simp⟩ ?_;rintro n e U ⟨i,hi,rfl,h0,h1,h6,rfl,hz⟩
 cases hv:env[i]? with
 | some s=>
  obtain⟨hc,hv'⟩:=qBa.1 hv;by_cases hs:s.name=name
  . have x:=qgL hv hz hs;simp[h0,h1,h6,hc,hv',hs];refine qFJ (jt s.value) rfl ?_;simp[Q9,x]
  simp[h0,h1,h6,hc,hv',hs];exact⟨_,by omega,i+1,by omega,rfl,wr (by omega) (by omega),qW hv hz hs⟩
 | none=>
  have hc:¬i<env.length:=by simp at hv;omega
  rw[show env.take i=env from qBh (by omega)]at hz;have x:=V6 hz;simp[h0,h6,hc,Q9,x]
def atR(env:List Signal)(a:Str)(i:Int):AV:=if 0<=i/\i<8 then Q9 env (zT a i.toNat) else .tup [.int .i64 0,.bool false]
def qtn(env:List Signal)(a:Str)(i:Int)(hl:Fits env)(ha:a.length<=1000):Pure prog GG 238 [.agg [.sl 2 (env.map qH) .none],.str a,.int .i64 i] (atR env a i):=by
 refine okzQ func238 rfl rfl ?_;unfold atR;by_cases c0:i<0
 . rw[if_neg (by omega)];simp[c0]
 by_cases c1:8<=i
 . rw[if_neg (by omega)];simp[c0,c1]
 rw[if_pos (by omega)];obtain⟨n,rfl⟩:=qBw (show 0<=i by omega);have he:a++[91,UInt8.ofNat (48+n),93]=zT a n:=rfl;have hf:=qeT env (zT a n) hl;have w3:IntKind.u8.wrap (48+(n:Int))=((48+n:Nat):Int):=by rw[<- show IntKind.u8.wrap ((48+n:Nat):Int)=((48+n:Nat):Int) by simp[IntKind.wrap,IntKind.bits,IntKind.signed];omega];congr 1
 have w4:UInt8.ofNat (((48+n:Nat):Int)).toNat=UInt8.ofNat (48+n):=by rw[qBF]
 simp[c0,c1,show a.length+1<=4611686018427387904 by omega,show a.length+(1+1)<=4611686018427387904 by omega,show a.length+(1+(1+1))<=4611686018427387904 by omega,show IntKind.i64.wrap (48+(n:Int))=((48+n:Nat):Int) by rw[wr (by omega) (by omega)];omega,yF,qe,ql,bytesOf];rw[show UInt8.ofNat (IntKind.u8.wrap (48+(n:Int))).toNat=UInt8.ofNat (48+n) by rw[w3,w4],he];refine qFJ hf (by simp) ?_;simp[Q9]
def qfd{env a i}:∃b,atR env a i=.tup [.int .i64 (atV env a i),.bool b]/\(i=0->b=(jE env (zT a 0)).isSome):=by
 unfold atR atV;by_cases h:0<=i/\i<8
 . rw[if_pos h,if_pos h];exact⟨_,rfl,fun e=>by subst e;rfl⟩
 rw[if_neg h,if_neg h];exact⟨false,rfl,fun e=>absurd (by omega) h⟩
def quA(env:List Signal)(a:Str)(hl:Fits env)(ha:a.length<=1000):Pure prog GG 239 [.agg [.sl 2 (env.map qH) .none],.str a] (.int .i64 (qml env a 8)):=by
 refine okzQ func239 rfl rfl ?_;simp;refine qFW (fun n e U=>∃i:Nat,i<=8/\n=8-i/\e 1=.str a/\e 2=.ptr 0 0/\e 5=.int .i64 (qml env a i)/\e 9=.int .i64 i/\U=⟨[.cells [.sl 2 (env.map qH) .none]],[]⟩) 8 ⟨0,by simp[qml]⟩ ?_;rintro n e U ⟨i,hi,rfl,h1,h2,h5,h9,rfl⟩;by_cases hc:i<8
 . have hc':(i:Int)<8:=(by omega);obtain⟨b,hb,_⟩:=qfd (env:=env) (a:=a) (i:=i);have hat:=qtn env a i hl ha;rw[hb]at hat;simp[h1,h2,h5,h9,hc'];refine qFJ hat (by simp) ?_;simp[h9];refine qFJ (qqA _ _) rfl ?_;simp[h9];exact⟨_,by omega,i+1,by omega,rfl,rfl,wr (by omega) (by omega)⟩
 have hi':i=8:=by omega
 subst hi';simp[h1,h2,h5,h9]
def qjU:∀(i:Nat),i<8->Pure prog GG 358 [.int .i64 i] (.str [UInt8.ofNat (48+i)]):=by
 intro i hi;refine okzQ func358 rfl rfl ?_;have key:i=0\/i=1\/i=2\/i=3\/i=4\/i=5\/i=6\/i=7:=by omega
 rcases key with rfl|rfl|rfl|rfl|rfl|rfl|rfl|rfl<;>simp[zl,zS,show IntKind.i64.wrap 1=1 from wr (by omega) (by omega),show IntKind.i64.wrap 2=2 from wr (by omega) (by omega),show IntKind.i64.wrap 3=3 from wr (by omega) (by omega),show IntKind.i64.wrap 4=4 from wr (by omega) (by omega),show IntKind.i64.wrap 5=5 from wr (by omega) (by omega),show IntKind.i64.wrap 6=6 from wr (by omega) (by omega),show IntKind.i64.wrap 7=7 from wr (by omega) (by omega),show IntKind.i64.wrap 8=8 from wr (by omega) (by omega)]
def qfR(a:Str)(i:Nat)(hi:i<8)(ha:a.length<=1000):Pure prog GG 324 [.str a,.int .i64 i] (.str (zT a i)):=by
 refine okzQ func324 rfl rfl ?_;simp[show a.length+1<=4611686018427387904 by omega];refine qFJ (qjU i hi) rfl ?_;simp[show a.length+(1+1)<=4611686018427387904 by omega,show a.length+(1+(1+1))<=4611686018427387904 by omega,zT]
def KG(env:List Signal)(a:Str)(i:Int)(hl:Fits env)(ha:a.length<=1000):Pure prog GG 325 [.sl 2 (env.map qH) .none,.str a,.int .i64 i] (.int .i64 (atV env a i)):=by
 refine okzQ func325 rfl rfl ?_;unfold atV;by_cases c0:i<0
 . rw[if_neg (by omega)];simp[c0]
 by_cases c1:8<=i
 . rw[if_neg (by omega)];simp[c0,c1]
 rw[if_pos (by omega)];obtain⟨n,rfl⟩:=qBw (show 0<=i by omega);simp[c0,c1];refine qFJ (qfR a n (by omega) ha) rfl ?_
 try simp
 refine qFJ (qaK env (zT a n) hl) (by simp) ?_;simp[Q9]
def Wi(k a b):zA .eql k a b=some (.bool (a==b)):=rfl
def qll(op:Int)(x y:Nat)(hx:x<65536)(hy:y<65536):Pure prog GG 300 [.int .i64 op,.int .i64 x,.int .i64 y] (.int .i64 (j4 op x y)):=by
 refine okzQ func300 rfl rfl ?_;have n1:=qsg hx hy;have n2:=qvd hx hy;have n3:=qsf hx hy;by_cases h7:op=7
 . subst h7;simp;refine qFJ (qqA x y) rfl ?_;simp[j4]
 by_cases h8:op=8
 . subst h8;simp;refine qFJ (quB x y) rfl ?_;simp[j4]
 by_cases h9:op=9
 . subst h9;simp;refine qFJ (qvf x y) rfl ?_;simp[j4]
 by_cases h10:op=10
 . subst h10;have hb:j4 10 x y=((x &&& y:Nat):Int):=(by simp[j4]);rw[hb];simp[n1,Wi,-zA]
 by_cases h11:op=11
 . subst h11;have hb:j4 11 x y=((x ||| y:Nat):Int):=(by simp[j4]);rw[hb];simp[n2,Wi,-zA]
 by_cases h12:op=12
 . subst h12;have hb:j4 12 x y=((x ^^^ y:Nat):Int):=(by simp[j4]);rw[hb];simp[n3,Wi,-zA]
 by_cases h13:op=13
 . subst h13;simp;refine qFJ (quK x y) rfl ?_;simp[j4,qtL]
 by_cases h14:op=14
 . subst h14;simp;refine qFJ (quJ x y) rfl ?_;simp[j4,qpI]
 by_cases h15:op=15
 . subst h15;simp;refine qFJ (yI _) rfl ?_
   try simp only[qfb]
   by_cases h:x=y<;>simp[j4,h]
 by_cases h16:op=16
 . subst h16;simp;refine qFJ (yI _) rfl ?_
   try simp only[QC]
   by_cases h:x=y<;>simp[j4,h]
 by_cases h17:op=17
 . subst h17;simp;refine qFJ (yI _) rfl ?_;by_cases h:x<y<;>simp[j4,h]
 by_cases h18:op=18
 . subst h18;simp;refine qFJ (yI _) rfl ?_;by_cases h:x<=y<;>simp[j4,h]
 by_cases h19:op=19
 . subst h19;by_cases h:x=0
   . simp[h];refine qFJ (yI _) rfl ?_;simp[j4]
   simp[h];refine qFJ (yI _) rfl ?_
   (try simp only[QC]);by_cases h':y=0<;>simp[j4,h,h']
 by_cases h20:op=20
 . subst h20;by_cases h:x=0
   . simp[h];refine qFJ (yI _) rfl ?_
     (try simp only[QC]);by_cases h':y=0<;>simp[j4,h']
   simp[h];refine qFJ (yI _) rfl ?_;simp[j4,h]
 rw[show j4 op x y=b2i (decide ((x:Int)=0)||!decide ((y:Int)=0)) by simp[j4,h7,h8,h9,h10,h11,h12,h13,h14,h15,h16,h17,h18,h19,h20]];by_cases h:x=0
 . simp[h7,h8,h9,h10,h11,h12,h13,h14,h15,h16,h17,h18,h19,h20,h];refine qFJ (yI _) rfl ?_;simp
 simp[h7,h8,h9,h10,h11,h12,h13,h14,h15,h16,h17,h18,h19,h20,h];refine qFJ (yI _) rfl ?_
 try simp only[QC]
 by_cases h':y=0<;>simp[h']
def qu7{op a}(h22:op≠22)(h23:op≠23):opW op [a]=unW op a:=by simp[opW,h22,h23]
def qu6{op a b}(h22:op≠22)(h23:op≠23):opW op [a,b]=j4 op a b:=by simp[opW,h22,h23]
def qga{l}:opW 22 l=if l.getD 0 0≠0 then l.getD 1 0 else l.getD 2 0:=by simp[opW]
def qpY{l}:opW 23 l=b2i (jk (l.getD 0 0) l.tail):=by simp[opW]
def Ye{a x y r}:jk a (x::y::r)=((decide (x<=a)&&decide (a<=y))||jk a r):=by simp[jk]
def Ja{a r}(h:r.length<2):jk a r=false:=by
 match r,h with
 |[],_=>rfl
 |[x],_=>rfl
 |x::y::r,h=>simp at h;omega
def qfi{α:Type}{p:α->Bool}{l:List α}{a:α}(h:a∈l)(hp:p a=false):l.all p=false:=by
 rw[qCu];intro e;rw[qBk.1 e a h]at hp;cases hp
def qvj{l:List Int}(h:l.length=3):∃a b c,l=[a,b,c]:=by
 match l,h with
 |[a,b,c],_=>exact⟨a,b,c,rfl⟩
def qsk{l:List Int}(h:l.length=1):∃a,l=[a]:=by
 match l,h with
 |[a],_=>exact⟨a,rfl⟩
def qvk{l:List Int}(h:l.length=2):∃a b,l=[a,b]:=by
 match l,h with
 |[a,b],_=>exact⟨a,b,rfl⟩
def qhW(op l)(hr:∀v∈l,0<=v/\v<=65535)(h22:op=22->l.length=3)(h23:op=23->3<=l.length/\l.length<=33)(ho:op≠22->op≠23->l.length=1\/l.length=2):
 Pure prog GG 240 [.int .i64 op,.sl 1 (l.map qh) .none] (.int .i64 (opW op l)):=by
 refine okzQ func240 rfl rfl ?_;by_cases c22:op=22
 . obtain⟨a,b,c,rfl⟩:=qvj (h22 c22);subst c22;by_cases ha:a=0
   . simp[ha,qga]
   simp[ha,qga]
 by_cases c23:op=23
 . obtain⟨h3,h33⟩:=h23 c23;subst c23;obtain⟨a,ga⟩:∃a,l[0]?=some a:=⟨_,qBc (by omega)⟩;obtain⟨g0,ga'⟩:=qBa.1 ga;have hw:opW 23 l=b2i (jk a (l.drop 1)):=by
    rw[qpY,qBi,ga];simp
   rw[hw];generalize hT:jk a (l.drop 1)=T;simp;refine qFW (fun n env U=>∃i:Nat,1<=i/\i<=l.length+1/\n=l.length+1-i/\env 1=.sl 1 (l.map qh) .none/\env 5=.int .i64 i/\U=⟨[],[]⟩/\jk a (l.drop i)=T) l.length ⟨1,by simp,by omega,by omega,by simp,by simp,rfl,hT⟩ ?_;rintro n env U ⟨i,hi1,hi2,rfl,h1,h5,rfl,hin⟩;have w1:IntKind.i64.wrap ((i:Int)+1)=(i:Int)+1:=wr (by omega) (by omega);have w2:IntKind.i64.wrap ((i:Int)+2)=((i+2:Nat):Int):=(by rw[wr (by omega) (by omega)];omega);have n1:((i:Int)+1).toNat=i+1:=(by omega);have p1:(0:Int)<=(i:Int)+1:=(by omega);by_cases hc:i+1<l.length
   . obtain⟨x,gx⟩:∃x,l[i]?=some x:=⟨_,qBc (by omega)⟩;obtain⟨y,gy⟩:∃y,l[i+1]?=some y:=⟨_,qBc (by omega)⟩;obtain⟨q1,gx'⟩:=qBa.1 gx;obtain⟨q2,gy'⟩:=qBa.1 gy;rw[ze gx,ze gy,Ye]at hin;have hc':(i:Int)+1<l.length:=(by omega);by_cases c1:x<=a
     . by_cases c2:a<=y
       . have hT1:T=true:=(by rw[<- hin];simp[c1,c2]);rw[hT1];simp[h1,h5,w1,n1,p1,hc',hc,q1,g0,ga',gx',gy',c1,c2,b2i]
       . have hin:jk a (l.drop (i+2))=T:=(by rw[<- hin];simp[c1,c2]);simp[h1,h5,w1,w2,n1,p1,hc',hc,q1,g0,ga',gx',gy',c1,c2];exact⟨_,by omega,i+2,by omega,by omega,rfl,by omega,hin⟩
     have hin:jk a (l.drop (i+2))=T:=(by rw[<- hin];simp[c1]);simp[h1,h5,w1,w2,hc',q1,g0,ga',gx',c1];exact⟨_,by omega,i+2,by omega,by omega,rfl,by omega,hin⟩
   have hc':¬(i:Int)+1<l.length:=(by omega);rw[show T=false by rw[<- hin];exact Ja (by simp;omega)];simp[h1,h5,w1,hc',b2i]
 rcases ho c22 c23 with h|h
 . obtain⟨a,rfl⟩:=qsk h;rw[qu7 c22 c23];simp[c22,c23];refine qFJ (qjA op a) rfl ?_;simp
 obtain⟨a,b,rfl⟩:=qvk h;obtain⟨a0,a1⟩:=hr a (by simp);obtain⟨b0,b1⟩:=hr b (by simp);obtain⟨x,rfl⟩:=qBw a0;obtain⟨y,rfl⟩:=qBw b0;rw[qu6 c22 c23];simp[c22,c23];refine qFJ (qll op x y (by omega) (by omega)) rfl ?_;simp
def qaM(s:List Int):AV:=match s with
 |[]=>.sl 0 [] .nil
 |a::r=>.sl 1 ((a::r).map qh) (.chain 0 (r.length+1))
def qcy(s:List Int):List (Option Nat):=match s with
 |[]=>[]
 |_::r=>[some (r.length+1)]
def qf4(s):qL (plain (qaM s))=true:=by cases s<;>simp[qaM]
def qf5(s):Leq (plain (qaM s)) (.sl 1 (s.map qh) .none):=by
 cases s with
 |nil=>simp[qaM,Leq]
 |cons a r=>exact Leq.sl rfl
section
variable {P:Program}{G:Nat->AV}{U:St}{f:FuncId}{Q:AV->St->Prop}{r:AV}
def qa.outN2{d a s}(ha:qL a=true)(h:Abs.Pure P G f [a,.sl 1 (s.map qh) .none] r)(hq:Q r U):qa P G d f [a,qaM s] U Q:=by
 refine qFY h ?_ ?_ hq
 . simp only[qBn,qBN,qx,qf4,yt ha,ha,qFl]
 simp only[qBn,qBN,zm,and_true,yt ha];exact⟨qFG _,qf5 s⟩
def qa.outN3{d a b s}(ha:qL a=true)(hb:qL b=true)(h:Abs.Pure P G f [a,b,.sl 1 (s.map qh) .none] r)(hq:Q r U):qa P G d f [a,b,qaM s] U Q:=by
 refine qFY h ?_ ?_ hq
 . simp only[qBn,qBN,qx,qf4,yt ha,yt hb,ha,hb,qFl]
 simp only[qBn,qBN,zm,and_true,yt ha,yt hb];exact⟨qFG _,qFG _,qf5 s⟩
end
def qbu{e:Ex}(h:kc e){n:Nat}(hop:e.op≠23)(ha:zB e.op=n):e.args.length=n:=by
 obtain⟨_,_,_,_,ho,_⟩:=jm h.self;have:=vA ho hop;omega
def ql2{e}(h:kc e):e.args.length<=33:=by
 obtain⟨_,_,_,_,ho,_⟩:=jm h.self;by_cases h23:e.op=23
 . have:=Zs ho h23;omega
 have:=vA ho h23;unfold zB at this
 repeat' split at this
 all_goals omega
def qkc{e}(h:kc e)(h1:e.op≠1)(h2:e.op≠2)(h3:e.op≠3)(h24:e.op≠24)(h22:e.op≠22)(h23:e.op≠23):e.args.length=1\/e.args.length=2:=by
 obtain⟨k1,k2,_,_,ho,_⟩:=jm h.self;have:=vA ho h23;unfold zB at this;rw[if_neg (by omega)]at this
 repeat' split at this
 all_goals omega
def qq4(env)(hl:Fits env):∀e,Wen e->kc e->Pure prog GG 165 [.agg [.sl 2 (env.map qH) .none],.agg (qp e)] (.int .i64 (yo env e)):=by
 refine qFX fun e ih hwe hn=>?_
 refine okzQ func165 rfl rfl ?_;have hfa:=hwe.fits;have hrg:∀v∈e.args.map (yo env),0<=v/\v<=65535:=by
  intro v hv;obtain⟨a,ha,rfl⟩:=qBA.1 hv;exact Vl env a (hn.arg ha)
 obtain⟨k1,k2,k3,k4,k5,k6,k7,k8⟩:=jm hn.self;simp only[qc e];simp;refine qFW (fun n ev U=>∃i tl,i<=e.args.length/\n=e.args.length-i/\ev 2=.ptr 0 0/\ev 3=.ptr 1 0/\ev 5=qaM ((e.args.map (yo env)).take i)/\ev 13=.sl 4 (e.args.map qp) .none/\ev 14=.int .i64 e.args.length/\ev 15=.int .i64 i/\U=⟨.cells [.sl 2 (env.map qH) .none]::.cells (qp e)::tl,qcy ((e.args.map (yo env)).take i)⟩) e.args.length ⟨0,[],by simp,by simp,by simp,by simp,by simp[qaM],by simp,by simp,by simp,by simp[qc e,qcy]⟩ ?_;rintro n ev U ⟨i,tl,hi,rfl,h2,h3,h5,h13,h14,h15,rfl⟩
 cases hv:e.args[i]? with
 | some a=>
  obtain⟨hc,hv'⟩:=qBa.1 hv;have hm:=qBb hv;have ht:(e.args.map (yo env)).take (i+1)=(e.args.map (yo env)).take i++[yo env a]:=by
   rw[qBG,qBD,hv];rfl
  have hlen:((e.args.map (yo env)).take i).length<=e.args.length:=by simp;omega
  generalize hR:(e.args.map (yo env)).take i=R at h5 ht hlen⊢;have ih:=ih a hm (hwe.arg hm) (hn.arg hm);simp[h2,h3,h5,h13,h14,h15,hc,hv',qc a,qBO];rw[<- qc a];refine qFJ ih (by simp) ?_
  cases R with
  | nil=>
   simp only[qaM]at h5;simp[qaM,qcy,qr,qe,ql,qZ,h15];exact⟨_,by omega,i+1,by omega,rfl,by rw[ht];simp[],wr (by omega) (by omega),by rw[ht];simp[]⟩
  | cons b r=>
   have hb:r.length<=549755813886:=(by have:=ql2 hn;simp at hlen;omega);simp only[qaM]at h5;simp[qaM,qcy,qr,qe,ql,qZ,hb,h15];exact⟨_,by omega,i+1,by omega,rfl,by rw[ht];simp[],wr (by omega) (by omega),by rw[ht];simp[]⟩
 | none=>
  have hc:¬i<e.args.length:=by simp at hv;omega
  rw[qBh (by simp;omega)]at h5⊢;rw[yY];generalize hR:e.args.map (yo env)=R at h5 hrg⊢;have hRl:R.length=e.args.length:=by rw[<- hR];simp
  unfold vB;by_cases c1:e.op=1
  . simp[h2,h3,h5,h13,h14,h15,hc,qc e,c1]
  by_cases c2:e.op=2
  . simp[h2,h3,h5,h13,h14,h15,hc,qc e,c2];refine qFJ (qeT env e.name hl) (by simp) ?_;simp[Q9]
  by_cases c3:e.op=3
  . have hname:=wF (k7 (.inl c3));obtain⟨v,rfl⟩:=qsk (l:=R) (by rw[hRl];exact qbu hn (n:=1) (by omega) (by rw[c3];decide));obtain⟨b,hb,_⟩:=qfd (env:=env) (a:=e.name) (i:=v);have hat:=qtn env e.name v hl (by omega);rw[hb]at hat;simp only[qaM]at h5;simp[h2,h3,h5,h13,h14,h15,hc,qc e,c3];refine qFJ hat (by simp) ?_;simp
  by_cases c24:e.op=24
  . have hname:=wF (k7 (.inr c24));simp[h2,h3,h5,h13,h14,h15,hc,qc e,c24];refine qFJ (quA env e.name hl (by omega)) (by simp) ?_;simp
  simp[h2,h3,h5,h13,h14,h15,hc,qc e,c1,c2,c3,c24];refine qa.outN2 (by simp) (qhW e.op R hrg (fun c=>?_) (fun c=>?_) (fun c22 c23=>?_)) ?_
  . rw[hRl];exact qbu hn (n:=3) (by omega) (by rw[c];decide)
  . rw[hRl];have:=Zs k5 c;omega
  . rw[hRl];exact qkc hn c1 c2 c3 c24 c22 c23
  simp
def qcX(env e):jP env e=((zO [2] e).all (fun s=>(jE env s).isSome)&&(zO [3,24] e).all fun s=>(jE env (zT s 0)).isSome):=by
 rw[qB7,qBf,jP];simp only[qBk];constructor
 . intro h;refine⟨fun s hs=>?_,fun s hs=>?_⟩
   . obtain⟨x,hx,hop,rfl⟩:=yd.1 hs;have:=h x hx;have h2:x.op=2:=(by simpa using hop);simpa[qiO,h2] using this
   obtain⟨x,hx,hop,rfl⟩:=yd.1 hs;have:=h x hx;have h3:x.op=3\/x.op=24:=(by simpa using hop);unfold qiO at this
   rwa[if_neg (by omega),if_pos h3]at this
 rintro⟨h1,h2⟩ x hx;unfold qiO;split
 . rename_i h;exact h1 _ (yd.2 ⟨x,hx,by simp[h],rfl⟩)
 split
 . rename_i h;exact h2 _ (yd.2 ⟨x,hx,by simpa using h,rfl⟩)
 rfl
def qmb{α:Type}{p:α->Bool}{l:List α}{i:Nat}{a:α}(h:l[i]?=some a)(hp:p a=false):l.all p=false:=qfi (qBb h) hp
def qbz{α:Type}{p:α->Bool}{l:List α}{i:Nat}(hi:l.length<=i)(h:∀a∈l.take i,p a=true):l.all p=true:=by
 rw[qBh hi]at h;exact qBk.2 h
def qcK{ops e}:(zO ops e).length<=(pre e).length:=by
 unfold zO;have:∀(l:List Ex) (s:List Str),(l.foldl (WT ops) s).length<=s.length+l.length:=by
  intro l
  induction l with
  |nil=>intro s;simp
  | cons a r ih=>
   intro s;have h1:=ih (WT ops s a);have h2:=vO (ops:=ops) (s:=s) (e:=a);simp only[qBP,qBr];omega
 simpa using this (pre e) []
def qsp(env)(hl:Fits env)(e)(hwe:Wen e)(hn:kc e)(hsz:(pre e).length<=100000):Pure prog GG 164 [.agg [.sl 2 (env.map qH) .none],.agg (qp e)] (.bool (jP env e)):=by
 refine okzQ func164 rfl rfl ?_;have hnm:=Z5 e hwe hsz;have har:=QE e hwe hsz;have hk:=qcX env e;generalize jP env e=r at hk⊢;have harr:∀s∈zO [3,24] e,s.length<=1000:=by
  intro s hs;obtain⟨x,hx,hop,rfl⟩:=yd.1 hs;have:=wF ((jm (hn x hx)).2.2.2.2.2.2.1 (by simpa using hop));omega
 have l1:=qcK (ops:=[2]) (e:=e);have l2:=qcK (ops:=[3,24]) (e:=e);generalize zO [2] e=A at hnm l1 hk⊢;generalize zO [3,24] e=B at har harr l2 hk⊢;simp only[qc e];simp;rw[<- qc e];refine qFJ hnm (by simp) ?_
 try simp
 refine qFW (fun n ev U=>∃i,i<=A.length/\n=A.length-i/\ev 2=.ptr 0 0/\ev 3=.ptr 1 0/\ev 14=.sl 1 (A.map jo) .none/\ev 15=.int .i64 A.length/\ev 16=.int .i64 i/\U=⟨[.cells [.sl 2 (env.map qH) .none],.cells (qp e)],[]⟩/\∀s∈A.take i,(jE env s).isSome=true) A.length ⟨0,by simp[qc e]⟩ ?_;rintro n ev U ⟨i,hi,rfl,h2,h3,h14,h15,h16,rfl,hz⟩
 cases hv:A[i]? with
 | some s=>
  obtain⟨hc,hv'⟩:=qBa.1 hv;simp[h2,h3,h14,h15,h16,hc,hv'];refine qFJ (qeT env s hl) (by simp) ?_;cases hf:(jE env s).isSome
  . rw[qmb (p:=fun s=>(jE env s).isSome) hv hf,qDo]at hk;subst hk;simp[Q9,hf]
  simp[Q9,hf,h2,h3,h14,h15,h16];exact⟨_,by omega,i+1,by omega,rfl,wr (by omega) (by omega),by simpa using qW (p:=fun s=>(jE env s).isSome=true) hv (by simpa using hz) hf⟩
 | none=>
  have hlen:A.length<=i:=by simpa using hv
  have hc:¬i<A.length:=by omega
  rw[qbz (p:=fun s=>(jE env s).isSome) hlen hz,qCs]at hk;simp[h3,h14,h15,h16,hc,qc e];rw[<- qc e];refine qFJ har (by simp) ?_
  try simp
  have h2':=h2;refine qFW (fun n ev U=>∃i,i<=B.length/\n=B.length-i/\ev 2=.ptr 0 0/\ev 30=.sl 1 (B.map jo) .none/\ev 31=.int .i64 B.length/\ev 32=.int .i64 i/\U=⟨[.cells [.sl 2 (env.map qH) .none],.cells (qp e)],[]⟩/\∀s∈B.take i,(jE env (zT s 0)).isSome=true) B.length ⟨0,by simp[qc e,h2']⟩ ?_;rintro n ev U ⟨i,hi,rfl,h2,h30,h31,h32,rfl,hz⟩
  cases hv:B[i]? with
  | some s=>
   obtain⟨hc,hv'⟩:=qBa.1 hv;obtain⟨b,hb,hb0⟩:=qfd (env:=env) (a:=s) (i:=0);have hb0:=hb0 rfl;have hat:=qtn env s 0 hl (harr s (qBb hv));rw[hb]at hat;simp[h2,h30,h31,h32,hc,hv'];refine qFJ hat (by simp) ?_;cases hf:(jE env (zT s 0)).isSome
   . rw[qmb (p:=fun s=>(jE env (zT s 0)).isSome) hv hf]at hk;subst hk;simp[hb0,hf]
   simp[hb0,hf,h2,h30,h31,h32];exact⟨_,by omega,i+1,by omega,rfl,wr (by omega) (by omega),by simpa using qW (p:=fun s=>(jE env (zT s 0)).isSome=true) hv (by simpa using hz) hf⟩
  | none=>
   have hlen:B.length<=i:=(by simpa using hv);have hc:¬i<B.length:=(by omega);rw[qbz (p:=fun s=>(jE env (zT s 0)).isSome) hlen hz]at hk;subst hk;simp[h30,h31,h32,hc]
def qqj(env)(hl:Fits env)(e)(hwe:Wen e)(hh:hgt e<1000000)(hsz:(pre e).length<=100000):Pure prog GG 111 [.agg (qp e),.sl 2 (env.map qH) .none] (.tup [.int .i64 (jB env e),.int .i64 (Qw env e)]):=by
 refine okzQ func111 rfl rfl ?_;have hva:=Ki e hwe hh;have hE:Qw env e=if zk e≠0 then 1 else if jP env e=true then 0 else 7:=rfl
 have hV:jB env e=if zk e=0/\jP env e=true then yo env e else 0:=rfl
 by_cases h0:zk e=0
 . have hn:=v7 h0;have hkn:=qsp env hl e hwe hn hsz;have hval:=qq4 env hl e hwe hn;cases hk:jP env e
   . have e1:Qw env e=7:=(by rw[hE];simp[h0,hk]);have e2:jB env e=0:=(by rw[hV];simp[h0,hk]);rw[e1,e2];rw[h0]at hva;rw[hk]at hkn;simp only[qc e];simp[zt,zX,qM,zx];rw[<- qc e];refine qFJ hva (by simp) ?_;simp[qc e];rw[<- qc e];refine qFJ hkn (by simp) ?_;simp
   have e1:Qw env e=0:=(by rw[hE];simp[h0,hk]);have e2:jB env e=yo env e:=(by rw[hV];simp[h0,hk]);rw[e1,e2];rw[h0]at hva;rw[hk]at hkn;simp only[qc e];simp[zt,zX,qM,zx];rw[<- qc e];refine qFJ hva (by simp) ?_;simp[qc e];rw[<- qc e];refine qFJ hkn (by simp) ?_;simp[qc e];rw[<- qc e];refine qFJ hval (by simp) ?_;simp
 have e1:Qw env e=1:=by rw[hE];simp[h0]
 have e2:jB env e=0:=by rw[hV];simp[h0]
 rw[e1,e2];simp only[qc e];simp[zt,zX,qM,zx];rw[<- qc e];refine qFJ hva (by simp) ?_;simp[h0]
def qAp(F A:Nat)(p:Problem)(l:List Ex)(s:Option (List Int)×Bool)(H:List Blk)(r:AV)(U':St):Prop :=
 KpL [F,A] H U'.H/\(∃va n,U'.H[F]?=some (.cells (qbg p l va s.2 n)))/\((∃a bh vh,s.1=some a/\r=.tup [vh,.bool true]/\qg5 bh U'.H vh a)\/(s.1=none/\r=.tup [.sl 0 [] .nil,.bool false]))
def qAq(F A t:Nat)(p:Problem)(l:List Ex)(s:Option (List Int)×Bool)(H:List Blk)(n:Nat)(ev:Env)(U:St):Prop :=
 ev 0=.ptr F 0/\∃H' T' a over b c,U=⟨H',T'⟩/\KpL [F,A] H H'/\FndR F A t p l a over n H'/\okA p.vars a/\jC b 2 qH H' (ev 4) (wL p.vars c)/\c.length=p.vars.length/\b≠F/\b≠A/\H.length<=b/\s=if over then(none,true) else qdS p.vars l n a
def qos{L:List Signal}{i g x}(h:L[i]?=some g):(L.flatMap qH).set (i*2+1) (.int .i64 x)=(L.set i ⟨g.name,x⟩).flatMap qH:=by
 induction L generalizing i with
 |nil=>simp at h
 | cons a r ih=>
  cases i with
  |zero=>simp at h;subst h;simp
  | succ i=>
   simp at h;rw[show(i+1)*2+1=(i*2+1)+2 by omega,qBC,qD3,qBC,<- ih h];simp
def qoE{vs}{c a:List Int}(hc:c.length=vs.length)(ha:a.length=vs.length){i x}(hx:a[i]?=some x){g}(hg:(wL vs (a.take i++c.drop i))[i]?=some g):(wL vs (a.take i++c.drop i)).set i ⟨g.name,x⟩=wL vs (a.take (i+1)++c.drop (i+1)):=by
 apply qCb;intro k;have hl:(a.take i++c.drop i).length=vs.length:=by simp;omega
 have hl':(a.take (i+1)++c.drop (i+1)).length=vs.length:=by simp;omega
 by_cases hk:k<vs.length
 . obtain⟨v,hv⟩:∃v,vs[k]?=some v:=⟨_,qBc hk⟩;by_cases hki:k=i
   . subst hki;have h1:(a.take (k+1)++c.drop (k+1))[k]?=some x:=by
      rw[qBq (by simp;omega),qDD (by omega),hx]
     rw[qBg (by rwa[yL hl]),vG hv h1];obtain⟨y,hy⟩:∃y,(a.take k++c.drop k)[k]?=some y:=⟨_,qBc (by omega)⟩;rw[vG hv hy]at hg;cases hg;rfl
   rw[qBd (Ne.symm hki)];have:(a.take i++c.drop i)[k]?=(a.take (i+1)++c.drop (i+1))[k]?:=by
    rw[qCc,qCc];simp only[qBV,qCj,qB8];by_cases h1:k<i
    . rw[if_pos (by omega),if_pos (by omega),if_pos (by omega),if_pos (by omega)]
    rw[if_neg (by omega),if_neg (by omega)];congr 1;omega
   obtain⟨y,hy⟩:∃y,(a.take i++c.drop i)[k]?=some y:=⟨_,qBc (by omega)⟩;rw[vG hv hy,vG hv (by rwa[<- this])]
 rw[qBI (by rw[qCD,yL hl];omega),qBI (by rw[yL hl'];omega)]
def qnB:List (Nat×Sch×List Nat):=[(1,.step 0 [9,8,3,2,1] (.step 1 [9,8,3,2] (.step 2 [9,8,3] (.step 3 [9,8] (.step 4 [9,8,7,6,5] (.step 5 [9,8,7,6] (.step 6 [9,8,7] (.step 7 [9,8] (.step 8 [9] (.step 9 [] (.done)))))))))),[8])]
def qvy{F A t p l a n H}(T)(h:FndR F A t p l a false n H)(hAl:A<H.length)(hn:n<=262144)(hl2:p.vars.length<=1000)(hok:okA p.vars a)(hw:∀v∈p.vars,0<=v.width/\v.width<=28)
 (hx:∀e∈l,Wen e/\hgt e<=1000/\(pre e).length<=100000) (hfl:Fits l):qj prog GG 242 [.ptr F 0] ⟨H,T⟩ (qAp F A p l (qdS p.vars l n a) H):=by
 refine qFy ⟨false,qnB,[],[]⟩ qX func242 rfl (by kernel_rfl) ?_;have hF:=h.f;have hlen:=hok.len;have henv:=qsX (A:=A) (t:=t) p a hlen hl2 T h.r;simp only[qu]at henv;simp only[qbg]at hF;simp;rw[qP rfl];simp[zc,hF];refine qFC henv ?_;rintro v ⟨H1,T1⟩ ⟨rfl,hk1,b,ho,hb⟩;simp only at hk1 ho;simp;obtain⟨s,hs⟩:∃s,s=qdS p.vars l n a:=⟨_,rfl⟩;rw[<- hs];have hFl:=(qBa.1 h.f).1;have hr1:FndR F A t p l a false n H1:=⟨(hk1.2 _ _ h.f (by simp)),fun ha=>hk1.2 _ _ (h.r ha) (by simp)⟩;rw[show yp p.vars a=wL p.vars a by rw[Qx,if_pos hlen]]at ho;refine qFE (fun m ev U=>m<=262144/\qAq F A t p l s H m ev U) n ?_ ?_
 . refine⟨hn,by simp,H1,T1,a,false,b,a,rfl,hk1.sub (by simp),hr1,hok,by simpa using ho,hlen,?_,?_,hb,by simpa using hs⟩
   . omega
   . omega
 rintro m ev U R hR ⟨hm,e0,H',T',a',over,b',c,rfl,hk,hfr,hok',ho',hc,hbF,hbA,hbH,hs'⟩;have hF':=hfr.f;have hF'l:=(qBa.1 hF').1;simp only[qbg]at hF'
 cases over with
 | true=>
  simp at hs';subst hs';simp[e0,hF'];exact⟨hk,⟨_,_,hfr.f⟩,.inr ⟨rfl,rfl⟩⟩
 | false=>
  simp only[qBE,if_false]at hs'
  cases m with
  | zero=>
   have hs':=hs';subst hs';simp[e0,hF'];exact⟨hk,⟨_,_,hfr.f⟩,.inr ⟨rfl,rfl⟩⟩
  | succ m=>
   have hlen':=hok'.len;have hw1:=wr (n:=(m:Int)) (by omega) (by omega);have hcl:=qoY (A:=A) (t:=t) a' (by omega) T' (H:=H'.set F (.cells (qbg p l (Ju A t a') false m))) (fun ha=>by
    have:=hfr.r ha;rw[qBd (Ne.symm (hfr.ne ha))];exact this)
   have hFs:∀y,(H'.set F y)[F]?=some y:=fun y=>qBg hF'l
   simp only[qbg]at hcl;simp[e0,hF',hw1,show(0:Int)<(m:Int)+1 by omega,hFs];refine qFC hcl ?_;rintro vh ⟨H2,T2⟩ ⟨rfl,hk2,bh,hrow,hbh⟩;simp only at hk2 hrow;rw[qCD]at hbh;have hA2:a'≠[]->H2[A]?=some (.cells (zd a')):=fun ha=>hk2.2 _ _ (by rw[qBd (Ne.symm (hfr.ne ha))];exact hfr.r ha) (by simp)
   have ho2:jC b' 2 qH H2 (ev 4) (wL p.vars c):=ho'.keep fun x _ hx=>hk2.2 _ _ (by rw[qBd (Ne.symm hbF)];exact hx) (by simp)
   have hkH2:=(hk.trans (qF8 (by simp))).trans (hk2.sub (by simp));have hbh':bh≠F/\bh≠A:=by
    have:=hk.1;constructor<;>omega
   have hbb:a'≠[]->bh≠b':=fun ha=>by
    have hne:wL p.vars c≠[]:=fun e=>by
     have:=yL hc;rw[e]at this;exact ha (qBo (by rw[hlen',<- this];rfl))
    have:=ho'.lt hne;omega
   generalize hv4:ev 4=v4 at *;have hln:∀H T,YT (Dof prog) ⟨H,T⟩ 28 vh=some (.int .i64 a'.length):=fun H T=>by
    rcases hrow with⟨ha0,szt,tok,rfl⟩|⟨ha0,rfl,hbc⟩
    . simp[YT,ha0]
    simp[YT]
   by_cases hdummy:True
   . simp[-YT,hln];refine qFP a' (fun d ev2 U2=>ev2 0=.ptr F 0/\ev2 4=v4/\ev2 5=vh/\ev2 45=vh/\ev2 46=.int .i64 a'.length/\ev2 47=.int .i64 d.length/\∃H3,U2=⟨H3,T2⟩/\KpL [b'] H2 H3/\jC b' 2 qH H3 v4 (wL p.vars (a'.take d.length++c.drop d.length))) ?_ ?_ ?_
     . exact⟨by simp[e0],by simp[hv4],by simp,by simp,by simp,by simp,H2,by simp,qF5,by simpa using ho2⟩
     . rintro d x rest ev2 U2 R2 hR2 hd hx2 hlt ⟨g0,g4,g5,g45,g46,g47,H3,rfl,hk3,ho3⟩;have hdw:=wr (n:=(d.length:Int)+1) (by omega) (by omega);have ha0:a'≠[]:=fun e=>by rw[e]at hlt;simp at hlt
       obtain⟨_,hvh,hbc⟩:=hrow.resolve_left (fun h=>ha0 h.1);have g45':=g45;rw[hvh]at g45';have hdr:(zd a').drop d.length=.int .i64 x::(zd a').drop (d.length+1):=by
        obtain⟨h1,h2⟩:=qBa.1 (by rw[qbf,hx2];rfl);rw[qBx h1,h2]
       have hcl:(a'.take d.length++c.drop d.length).length=p.vars.length:=(by simp;omega);have hel:=yL hcl;have hne:wL p.vars (a'.take d.length++c.drop d.length)≠[]:=fun e=>by rw[e]at hel;simp at hel;omega
       obtain⟨hv,hbl⟩:=ho3.at hne;obtain⟨g,hg⟩:∃g,(wL p.vars (a'.take d.length++c.drop d.length))[d.length]?=some g:=⟨_,qBc (by rw[hel];omega)⟩;have hset:=qos (x:=x) hg;have hput:=qoE hc hlen' hx2 hg;have hfl2:((wL p.vars (a'.take d.length++c.drop d.length)).flatMap qH).length=p.vars.length*2:=(by rw[Go.Abs.ju (sz:=2) (fun x=>by simp),hel]);have hbll:=(qBa.1 hbl).1;rw[hel]at hv;rw[hput]at hset;generalize hFL:(wL p.vars (a'.take d.length++c.drop d.length)).flatMap qH=FL at *;simp[g4,g45',g46,g47,hlt,show H3[bh]?=some (.cells (zd a')) from hk3.2 _ _ hbc (by simpa using hbb ha0),hdr,show d.length+1<=(zd a').length by rw[qQ];omega,hv,show(d.length:Int)<p.vars.length by omega,hbl,show d.length*2+1+1<=p.vars.length*2 by omega,hfl2,hset,hdw];have hcl':(a'.take (d.length+1)++c.drop (d.length+1)).length=p.vars.length:=(by simp;omega);have hel':=yL hcl';refine hR2 _ _ ⟨by simp[g0],by simp[g4],by simp[g5],by simp[g45],by simp[g46],by simp,_,rfl,hk3.trans (qF8 (by simp)),?_⟩;rw[qBe,qBK];refine .inr ⟨fun e=>by rw[e]at hel';simp at hel';omega,by rw[hel'];exact hv,qBg hbll⟩
     rintro ev2 U2 ⟨g0,g4,g5,g45,g46,g47,H3,rfl,hk3,ho3⟩;rw[show a'.take a'.length++c.drop a'.length=a' by rw[qCX,qBS (by omega),qBU]]at ho3;have hF3:FndR F A t p l a' false m H3:=⟨hk3.2 _ _ (hk2.2 _ _ (hFs _) (by simp)) (by simpa using Ne.symm hbF),fun ha=>hk3.2 _ _ (hA2 ha) (by simpa using Ne.symm hbA)⟩;have hadv:=qiI T2 hF3 hlen' (by omega) hok' hw;simp[g0,g46,g47];refine qFC hadv ?_;rintro v2 ⟨H4,T4⟩ ⟨rfl,hT4,hF4,hk4⟩;simp only at hT4 hF4 hk4;subst hT4;have ho4:jC b' 2 qH H4 v4 (wL p.vars a'):=ho3.keep fun x _ hx=>hk4.2 _ _ hx (by simp;exact⟨hbF,hbA⟩)
     have hrow4:∀u,qg5 bh (H4++u) vh a':=fun u=>by
      rcases hrow with h|⟨h1,h2,h3⟩
      . exact .inl h
      exact .inr ⟨h1,h2,qd (hk4.2 _ _ (hk3.2 _ _ h3 (by simpa using hbb h1)) (by simp;exact hbh')) u⟩
     have hF4f:=hF4.f;simp only[qbg]at hF4f;have hkH4:KpL [F,A] H H4:=by
      refine⟨by have:=hkH2.1;have:=hk3.1;have:=hk4.1;omega,fun k x hk0 hn0=>?_⟩;have h2:=hkH2.2 k x hk0 hn0;have hkl:=(qBa.1 hk0).1;have h3:=hk3.2 k x h2 (by simp;omega);exact hk4.2 k x h3 hn0
     have hstep:s=if ku p.vars l a' then(some a',(qF p.vars a').2) else if(qF p.vars a').2 then(none,true) else qdS p.vars l m (qF p.vars a').1:=hs'
     have hok4:=Z3 hok';simp[hF4f,g0];have hel4:=yL hlen';have hsat:ku p.vars l a'=l.all fun e=>decide (jB (wL p.vars a') e≠0):=by unfold ku;rw[show yp p.vars a'=wL p.vars a' by rw[Qx,if_pos hlen']]
     refine qFP l (fun d ev3 U3=>ev3 0=.ptr F 0/\ev3 4=v4/\ev3 5=vh/\ev3 63=.sl 4 (l.map qp) .none/\ev3 64=.int .i64 l.length/\ev3 65=.int .i64 d.length/\(∃u,U3=⟨H4++u,T4⟩)/\∀e∈d,jB (wL p.vars a') e≠0) ?_ ?_ ?_
     . exact⟨by simp[g0],by simp[g4],by simp[g5],by simp,by simp,by simp,⟨[],by simp⟩,by simp⟩
     . rintro d e rest ev3 U3 R3 hR3 hd hx3 hlt ⟨f0,f4,f5,f63,f64,f65,⟨u,rfl⟩,hnz⟩;have hm3:=qBb hx3;obtain⟨hwe,hh,hsz⟩:=hx e hm3;have hdw:=wr (n:=(d.length:Int)+1) (by unfold Fits at hfl;omega) (by unfold Fits at hfl;omega);have hev:=qqj (wL p.vars a') (by show(wL p.vars a').length<_;omega) e hwe (by omega) hsz;have hou:∀u,jC b' 2 qH (H4++u) v4 (wL p.vars a'):=fun u=>ho4.keep fun x _ hx=>qd hx u
       simp[-getElem?_pos,f4,f63,f64,f65,hlt,hx3,qc e];rw[<- qc e];refine qFB hev rfl ?_ ?_
       . simp only[qBn,qBN,zm,and_true];refine⟨?_,(hou _).frz (fun x=>by simp) (fun x=>by simp) (fun x=>by simp) 7⟩;rw[qs (by simp)];exact qFG _
       by_cases hz:jB (wL p.vars a') e=0
       . have hsf:ku p.vars l a'=false:=(by rw[hsat,qEi];exact⟨e,hm3,by simp[hz]⟩);rw[hsf]at hstep;simp only[qBE,if_false]at hstep;simp[hz];exact hR m _ _ (by omega) ⟨by omega,by simp[f0],_,T4,(qF p.vars a').1,(qF p.vars a').2,b',a',rfl,hkH4.trans qF7,hF4.look _,hok4,by simpa[f4] using hou _,hlen',hbF,hbA,hbH,hstep⟩
       simp[hz,f65,hdw];refine hR3 _ _ ⟨by simp[f0],by simp[f4],by simp[f5],by simp[f63],by simp[f64],by simp,⟨_,by simp;rfl⟩,fun x hx=>?_⟩;rcases qBp.1 hx with hx|hx
       . exact hnz x hx
       simp only[qBz,qCQ,or_false]at hx
       rwa[hx]
     rintro ev3 U3 ⟨f0,f4,f5,f63,f64,f65,⟨u,rfl⟩,hnz⟩;rw[show ku p.vars l a'=true by rw[hsat,qBk];exact fun e he=>by simpa using hnz e he,if_pos rfl]at hstep;simp[f5,f64,f65];rw[hstep];exact⟨hkH4.trans qF7,⟨_,_,(hF4.look u).f⟩,.inl ⟨a',bh,_,rfl,rfl,hrow4 u⟩⟩
   exact absurd trivial hdummy
def qnC:List (Nat×Sch×List Nat):=[(9,.step 1 [9,8,7] (.step 2 [9,8,7,5,4,3] (.step 3 [9,8,7,5,4] (.step 4 [9,8,7,5] (.step 6 [9,8,7] (.fork (.cons 0 (.step 5 [9,8,7] (.step 7 [9,8] (.step 8 [9] (.step 9 [] (.done))))) (.cons 5 (.step 0 [9,8,7] (.step 7 [9,8] (.step 8 [9] (.step 9 [] (.done))))) (.nil)))))))),[]),(14,.step 0 [8,7,3,2,1] (.step 1 [8,7,3,2] (.step 2 [8,7,3] (.step 3 [8,7] (.step 4 [8,7] (.step 5 [8,7,6] (.step 6 [8,7] (.step 7 [8] (.step 8 [] (.done))))))))),[])]
noncomputable def qgZ(p:Problem)(l:List Ex)(n:Int):Bool:=decide (qg p=0)&&(decide (0<=n)&&(decide (n<=262144)&&l.all (wP p.vars)))
def qtC(p:Problem)(l:List Ex)(n:Nat)(r:AV)(U':St):Prop :=
 if qgZ p l n=true then ∃F A t,r=.tup [.ptr F 0,.int .i64 0]/\FndR F A t p l (qO p.vars) false n U'.H/\A<U'.H.length else r=.tup [.nilp,.int .i64 1]
def qpb(p l)(n:Nat)(h:VQ p)(hfl:Fits l)(hx:∀e∈l,Wen e/\hgt e<=1000/\(pre e).length<=100000)(hn:n<4611686018427387904)(H T):
 qj prog GG 241 [.agg (qu p),.sl 4 (l.map qp) .none,.int .i64 n] ⟨H,T⟩ (qtC p l n):=by
 refine qFy ⟨false,qnC,[],[]⟩ qX func241 rfl (by kernel_rfl) ?_;have hval:=ke p h;obtain⟨Q,hQ⟩:∃Q,Q=qtC p l n:=⟨_,rfl⟩;rw[<- hQ];by_cases hv:qg p=0
 case neg=>
  have:Q=fun r _=>r=.tup [.nilp,.int .i64 1]:=by rw[hQ];funext r U;unfold qtC;rw[if_neg (by simp[qgZ,hv])]
  simp only[qu]at hval;simp;refine qFz hval (by simp) ?_;simp[hv,this]
 by_cases hn2:n<=262144
 case neg=>
  have:Q=fun r _=>r=.tup [.nilp,.int .i64 1]:=by rw[hQ];funext r U;unfold qtC;rw[if_neg (by simp[qgZ];omega)]
  have hn3:(262144:Int)<n:=by omega
  simp only[qu]at hval;simp;refine qFz hval (by simp) ?_;simp[hv,hn3,this]
 simp only[qu]at hval;simp;refine qFz hval (by simp) ?_;simp[hv,show ¬(262144:Int)<n by omega,show ¬(n:Int)<0 by omega];refine qFP l (fun d ev U=>ev 1=.sl 4 (l.map qp) .none/\ev 2=.int .i64 n/\ev 3=.ptr H.length 0/\ev 24=.sl 4 (l.map qp) .none/\ev 25=.int .i64 l.length/\ev 26=.int .i64 d.length/\(∃H',U=⟨H',T⟩/\H'[H.length]?=some (.cells (qu p)))/\∀e∈d,wP p.vars e=true) ?_ ?_ ?_
 . refine⟨by simp,by simp,by simp,by simp,by simp,by simp,⟨_,rfl,?_⟩,by simp⟩;simp
 . rintro d e rest ev U R hR hd hxe hlt ⟨e1,e2,e3,e24,e25,e26,⟨H',rfl,hP⟩,hall⟩;have hm:=qBb hxe;obtain⟨hwe,hh,hsz⟩:=hx e hm;have hkn:=qn2 p e (by have:=h.vars;show p.vars.length<_;omega) hwe (by omega) hsz;have hdw:=wr (n:=(d.length:Int)+1) (by unfold Fits at hfl;omega) (by unfold Fits at hfl;omega);simp only[qu]at hkn hP;simp[-getElem?_pos,e3,e24,e25,e26,hlt,hxe,qd hP,qc e];rw[<- qc e];refine qFz hkn (by simp) ?_
   cases hk:wP p.vars e with
   | false=>
    have:Q=fun r _=>r=.tup [.nilp,.int .i64 1]:=by
     rw[hQ];funext r U;unfold qtC;have hb:qgZ p l n=false:=by
      have:l.all (wP p.vars)=false:=qEi.2 ⟨e,hm,by simp[hk]⟩;simp[qgZ,this]
     rw[hb];simp
    simp[this]
   | true=>
    simp[e26,hdw];refine hR _ _ ⟨by simp[e1],by simp[e2],by simp[e3],by simp[e24],by simp[e25],by simp,⟨_,rfl,qd hP _⟩,fun x hx=>?_⟩;rcases qBp.1 hx with hx|hx
    . exact hall x hx
    simp only[qBz,qCQ,or_false]at hx
    rwa[hx]
 rintro ev U ⟨e1,e2,e3,e24,e25,e26,⟨H',rfl,hP⟩,hall⟩;have hbeg:qgZ p l n=true:=by
  have:=qBk.2 hall;simp[qgZ,this,hv];omega
 have hQ':Q=fun r U'=>∃F A t,r=.tup [.ptr F 0,.int .i64 0]/\FndR F A t p l (qO p.vars) false n U'.H/\A<U'.H.length:=by
  rw[hQ];funext r U;unfold qtC;rw[if_pos hbeg]
 rw[hQ'];simp only[qu]at hP;by_cases hv0:p.vars=[]
 . rw[hv0]at hP;simp only[qBN]at hP;simp[e25,e26];rw[qP rfl];simp[zc,e1,e2,e3,hP,qd hP,hv0,qD,zt,zX,qM];refine⟨?_,?_⟩
   all_goals
    refine qFE (fun m ev U=>ev 10=.ptr H'.length 0/\ev 46=.int .i64 0/\ev 47=.int .i64 0/\U=⟨H'++[.cells [.sl 4 [] .none,.sl 4 (p.hard.map qp) .none,.sl 4 (p.soft.map qp) .none,.sl 2 (p.dists.map zn) .none,.sl 1 (p.groups.map qA) .none,.sl 4 (l.map qp) .none,.sl 1 [] (.chain T.length 0),.bool false,.int .i64 n]],T++[some 0]⟩) 0 ⟨by simp,by simp⟩ ?_;rintro m ev U R hR ⟨f10,f46,f47,rfl⟩;simp[f10,f46,f47];refine⟨H'.length,⟨T.length,?_,fun h=>absurd rfl h⟩,by simp⟩;simp[hv0,Ju,qO]
 have hpos:=qBv.2 hv0;have hv1:(p.vars.length:Int)<=549755813888:=by have:=h.vars;omega
 simp[e25,e26];rw[qP rfl];simp[zc,e1,e2,e3,hP,qd hP,hv0,hv1,qD,zt,zX,qM];refine⟨?_,?_⟩
 all_goals
  refine qFP p.vars (fun d ev U=>ev 10=.ptr (H'.length+1) 0/\ev 45=.sl 4 (p.vars.map qG) .none/\ev 46=.int .i64 p.vars.length/\ev 47=.int .i64 d.length/\∃H3,U=⟨H3,T⟩/\H'.length<H3.length/\FndR (H'.length+1) H'.length T.length p l (qO d++List.replicate (p.vars.length-d.length) 0) false n H3) ?_ ?_ ?_
  . refine⟨by simp,by simp,by simp,by simp,_,rfl,by simp,⟨?_,fun _=>?_⟩⟩
    . have hz:qO []++List.replicate (p.vars.length-([]:List Var).length) (0:Int)≠[]:=fun e=>by
       have:=congrArg List.length e;simp[qO]at this
       first|omega|exact hv0 (by simpa using this)
      have hzl:(qO []++List.replicate (p.vars.length-([]:List Var).length) (0:Int)).length=p.vars.length:=(by simp[qO]);rw[qbg,Ju,if_neg hz,hzl];simp
    . simp[qO,zd]
  . rintro d v rest ev U R hR hd hxv hlt ⟨f10,f45,f46,f47,H3,rfl,hAl,hfr⟩;have hdw:=wr (n:=(d.length:Int)+1) (by omega) (by omega);have hrl:List.replicate (p.vars.length-d.length) (0:Int)=0::List.replicate (p.vars.length-(d.length+1)) 0:=by
     rw[show p.vars.length-d.length=(p.vars.length-(d.length+1))+1 by omega,qCZ]
    rw[hrl]at hfr;have hsd:qO (d++[v])=qO d++[if v.mode=0 then v.value else 0]:=(by simp[qO]);have hsl:(qO d).length=d.length:=(by simp[qO]);have hnext:∀x:Int,qO d++x::List.replicate (p.vars.length-(d.length+1)) 0=(qO d++[x])++List.replicate (p.vars.length-(d.length+1)) 0:=fun x=>by simp
    have hzl:∀x:Int,(qO d++x::List.replicate (p.vars.length-(d.length+1)) 0).length=p.vars.length:=fun x=>by simp[hsl];omega
    have hz:∀x:Int,qO d++x::List.replicate (p.vars.length-(d.length+1)) 0≠[]:=fun x=>by simp
    have hF3:=hfr.f;have hA3:=hfr.r (hz 0);have hrow:∀x:Int,Ju H'.length T.length (qO d++x::List.replicate (p.vars.length-(d.length+1)) 0)=.ms H'.length 0 p.vars.length 1:=fun x=>by rw[Ju,if_neg (hz x),hzl]
    rw[qbg,hrow]at hF3;by_cases hm0:v.mode=0
    . rw[if_pos hm0]at hsd;have hset:(zd (qO d++0::List.replicate (p.vars.length-(d.length+1)) 0)).set d.length (.int .i64 v.value)=zd (qO d++v.value::List.replicate (p.vars.length-(d.length+1)) 0):=by
       rw[yN,qBY _ _ (by omega),hsl,qB9];rfl
      simp[-getElem?_pos,f45,f46,f47,hlt,hxv,hm0];rw[qP rfl];simp[-getElem?_pos,zc,f10,f47,qd hF3,qd hA3,hlt,show(zd (qO d++0::List.replicate (p.vars.length-(d.length+1)) 0)).length=p.vars.length by rw[qQ,hzl],hset,show d.length+1<=p.vars.length by omega,hdw];refine hR _ _ ⟨by simp[f10],by simp[f45],by simp[f46],by simp,_,rfl,by simp;omega,?_⟩;rw[hsd,qBe,qBK,<- hnext];refine⟨?_,fun _=>?_⟩
      . rw[qbg,hrow,qBd (by omega)];exact qd hF3 _
      exact qBg (by simp;omega)
    rw[if_neg hm0]at hsd;simp[-getElem?_pos,f45,f46,f47,hlt,hxv,hm0,hdw];refine hR _ _ ⟨by simp[f10],by simp[f45],by simp[f46],by simp,_,rfl,by simp;omega,?_⟩;rw[hsd,qBe,qBK,<- hnext];exact hfr.look _
  rintro ev U ⟨f10,f45,f46,f47,H3,rfl,hAl,hfr⟩;rw[qB9,qDX,qBU]at hfr;simp[f10,f46,f47];exact⟨H'.length,⟨T.length,hfr⟩,hAl⟩
def z5{p}(h:qg p=0):∀v∈p.vars,j5 v=0:=by
 have hv:jj p.vars=0:=by
  unfold qg at h;split at h
  . exact absurd h (by assumption)
  rename_i h1;exact qB2.1 h1
 unfold jj at hv;split at hv
 . cases hv
 split at hv
 . rename_i h1;exact absurd hv h1
 rename_i h1;exact zC.1 (qB2.1 h1)
def jQ:∀(a),zd a=a.flatMap qh
 |[]=>rfl
 | x::r=>by
  have:=jQ r;rw[qBC,<- this];rfl
noncomputable def Yh(p:Problem)(l:List Ex)(n:Nat):List Int×Int :=
 if qgZ p l n=true then(match qdS p.vars l n (qO p.vars) with
  |(some a,_)=>(a,0)
  |(none,true)=>([],11)
  |(none,false)=>([],18)) else([],1)
def qou(p:Problem)(l:List Ex)(n:Nat)(h:VQ p)(hfl:Fits l)(hx:∀e∈l,Wen e/\hgt e<=1000/\(pre e).length<=100000)(hn:n<4611686018427387904):
 Pure prog GG 166 [.agg (qu p),.sl 4 (l.map qp) .none,.int .i64 n] (.tup [.sl 1 ((Yh p l n).1.map qh) .none,.int .i64 (Yh p l n).2]):=by
 refine qFx o0 true qX func166 rfl (by kernel_rfl) ?_;have hb:=qpb p l n h hfl hx hn [.cells (qu p)] [];simp only[qu]at hb;simp;refine qFC hb ?_;rintro v ⟨H1,T1⟩ hq;unfold qtC at hq;by_cases hg:qgZ p l n=true
 . rw[if_pos hg]at hq;obtain⟨F,A,t,rfl,hfr,hAl⟩:=hq;simp only at hfr hAl;have hv:qg p=0:=by
    simp only[qgZ,qBf,decide_eq_true_eq]at hg;exact hg.1
   have hn2:n<=262144:=by
    simp only[qgZ,qBf,decide_eq_true_eq]at hg;omega
   have hw:∀v∈p.vars,0<=v.width/\v.width<=28:=fun v hm=>by have:=zf (z5 hv v hm);omega
   have hh:=qvy T1 hfr hAl hn2 h.vars (Qi p.vars) hw hx hfl;have hFA:Yh p l n=(match qdS p.vars l n (qO p.vars) with
    |(some a,_)=>(a,0)
    |(none,true)=>([],11)
    |(none,false)=>([],18)):=if_pos hg
   rw[hFA];generalize qdS p.vars l n (qO p.vars)=s at *;simp;refine qFC hh ?_;rintro v2 ⟨H2,T2⟩ ⟨hk,⟨va,n',hF2⟩,hres⟩;simp only[qbg]at hF2;rcases hres with⟨a,bh,vh,hs,rfl,hrow⟩|⟨hs,rfl⟩
   . obtain⟨s1,s2⟩:=s;simp only at hs;subst hs;simp only at hrow;simp;rcases hrow with⟨rfl,sz,tok,rfl⟩|⟨ha0,rfl,hbc⟩
     . have hc:∀H t k,frz H 7 (.sl sz [] (.chain t k))=.sl sz [] .none:=fun H t k=>by rw[frz];simp[qL]
       cases tok with
       | chain t k=>
        rw[frz,if_neg (by simp[qL,qx])];simp only[qBn,qBN,hc,Zw,qL,qx,Leq,zm];simp[q9]
       |none=>rw[qs (by simp)];exact⟨by simp,by simp[Leq,zm]⟩
       |nil=>rw[qs (by simp)];exact⟨by simp,by simp[Leq,zm]⟩
       |tight=>rw[qs (by simp)];exact⟨by simp,by simp[Leq,zm]⟩
     have ho:jC bh 1 qh H2 (.ms bh 0 a.length 1) a:=.inr ⟨ha0,rfl,by
      rw[hbc,jQ]⟩
     have f1:=ho.frz (fun x=>by simp) (fun x=>by simp) (fun x=>by simp) 6;have f2:=ho.frzNo (fun x=>by simp) (fun x=>by simp) (fun x=>by simp) 6;rw[frz,if_neg (by simp[qL,qx])];simp only[qBn,qBN,Zw,qL,qx,Leq,zm,qDd,and_true];exact⟨f2,f1⟩
   obtain⟨s1,s2⟩:=s;simp only at hs hF2;subst hs;cases s2
   . simp[hF2];rw[qs (by simp)];exact⟨by simp,by simp[Leq,zm]⟩
   simp[hF2];rw[qs (by simp)];exact⟨by simp,by simp[Leq,zm]⟩
 rw[if_neg hg]at hq;subst hq;have hFA:Yh p l n=([],1):=if_neg hg;rw[hFA];simp;rw[qs (by simp)];exact⟨by simp,by simp[Leq,zm]⟩
def qlP(p)(h:VQ p)(hv20:p.vars.length<=20):Pure prog GG 26 [.agg (qu p)] (.int .i64 (kw p.vars (qJ p))):=by
 refine qFZ qX func26 rfl (by kernel_rfl) ?_;have hv:=qjZ p h;have hlen:=Ya p hv20;have hrg:∀i∈qJ p,0<=i/\i<p.vars.length:=fun i hi=>ZY hi
 simp only[qu]at hv;generalize qJ p=R at hv hlen hrg⊢;simp;refine qFJ hv (by simp) ?_
 try simp
 refine qFW (fun q env U=>∃i,i<=R.length/\q=R.length-i/\env 1=.ptr 0 0/\env 3=.int .i64 (kw p.vars (R.take i))/\env 7=.sl 1 (R.map qh) .none/\env 8=.int .i64 R.length/\env 9=.int .i64 i/\U=⟨[.cells (qu p)],[]⟩) R.length ⟨0,by simp[kw]⟩ ?_;rintro q env U ⟨i,hi,rfl,h1,h3,h7,h8,h9,rfl⟩
 cases hvi:R[i]? with
 | some v=>
  obtain⟨hc,hv'⟩:=qBa.1 hvi;obtain⟨r1,r2⟩:=hrg v (qBb hvi);obtain⟨j,rfl⟩:=qBw r1;have hj:j<p.vars.length:=by omega
  have hs:=qfC (l:=p.vars) hvi;simp only[qBF]at hs;rw[Y9 hj]at hs;simp[h1,h3,h7,h8,h9,hc,hv',hj];exact⟨_,by omega,i+1,by omega,rfl,by rw[hs],wr (by omega) (by omega)⟩
 | none=>
  have hc:¬i<R.length:=by simp at hvi;omega
  rw[show R.take i=R from qBh (by omega)]at h3;simp[h3,h7,h8,h9,hc]
def qlY(p)(h:VQ p)(hv20:p.vars.length<=20)(h0:0<=kw p.vars (qJ p))(h28:kw p.vars (qJ p)<=28):Pure prog GG 167 [.agg (qu p)] (.int .i64 ((2^(kw p.vars (qJ p)).toNat:Nat):Int)):=by
 refine okzP func167 rfl rfl ?_;have hb:=qlP p h hv20;have hs:=wN h0 h28;generalize kw p.vars (qJ p)=B at *;generalize hN:2^B.toNat=N at *;simp only[qu]at hb;simp;refine qFz hb (by simp) ?_;simp[show ¬B<0 by omega,IntKind.bits,hs]
def qlQ(v:Var):Nat:=if v.mode=0 then 0 else v.width.toNat
def qfD{l}(hw:∀v∈l,0<=v.width/\v.width<=8)(hl:l.length<=1000):∀k,k<=l.length->kw l (Yw l k)=(((l.take k).map qlQ).sum:Nat)/\((l.take k).map qlQ).sum<=8*k
 |0,_=>⟨by simp[Yw,kw],by simp⟩
 | k+1,hk=>by
  obtain⟨i1,i2⟩:=qfD hw hl k (by omega);obtain⟨v,hv⟩:∃v,l[k]?=some v:=⟨_,qBc (by omega)⟩;have hwv:=hw v (qBb hv);have ht:l.take (k+1)=l.take k++[v]:=by rw[qBG,hv];rfl
  have hr:yQ l (k:Int)=(v.mode != 0):=by simp[yQ,hv]
  rw[KF,hr,ht,qCi,qE2];by_cases hm:v.mode=0
  . have hb:qlQ v=0:=(by simp[qlQ,hm]);simp only[hm,bne_self_eq_false,qBE,if_false,qBn,qBN,qDe,qFo,hb];exact⟨by simpa using i1,by omega⟩
  have hb:qlQ v=v.width.toNat:=by simp[qlQ,hm]
  have hm':(v.mode != 0)=true:=by simpa using hm
  rw[if_pos hm'];have hs:kw l (Yw l k++[(k:Int)])=IntKind.i64.wrap (kw l (Yw l k)+zM l k):=by
   unfold kw;rw[qCe];simp
  rw[hs,i1];have hwa:zM l k=v.width:=by simp[zM,hv]
  rw[hwa];simp only[qBn,qBN,qDe,qFo,hb,qCB];rw[wr (by omega) (by omega)];exact⟨by omega,by omega⟩
def Y5{p}(hv:qg p=0)(hl:p.vars.length<=1000):kw p.vars (qJ p)=((p.vars.map qlQ).sum:Nat)/\(jM p.vars).length=2^(p.vars.map qlQ).sum:=by
 have hw:∀v∈p.vars,0<=v.width/\v.width<=8:=fun v hm=>by have:=zf (z5 hv v hm);omega
 have h1:=qfD hw hl p.vars.length (qBl _);rw[qCX]at h1;rw[show qJ p=Yw p.vars p.vars.length by unfold qJ;rw[if_neg (by simpa using hv)]];exact⟨h1.1,ZD p.vars⟩
noncomputable def Ys(p:Problem)(l:List Ex):Bool:=decide (qg p=0)&&(l.all (wP p.vars)&&jK p.vars l)
def Zn(p l)(h:VQ p)(hv20:p.vars.length<=20)(hb:kw p.vars (qJ p)<=18)(hfl:Fits l)(hx:∀e∈l,Wen e/\hgt e<=1000/\(pre e).length<=100000):
 Pure prog GG 117 [.agg (qu p),.sl 4 (l.map qp) .none] (.bool (Ys p l)):=by
 refine okzP func117 rfl rfl ?_;have h0:0<=kw p.vars (qJ p):=by
  by_cases hv:qg p=0
  . rw[(Y5 hv (by omega)).1];omega
  have:qJ p=[]:=by unfold qJ;rw[if_pos (by simpa using hv)]
  rw[this];simp[kw]
 have ha:=qlY p h hv20 h0 (by omega);have hp:2^(kw p.vars (qJ p)).toNat<=2^18:=qBL (by omega) (by omega);have hf:=qou p l (2^(kw p.vars (qJ p)).toNat) h hfl hx (by omega);have hr:(Yh p l (2^(kw p.vars (qJ p)).toNat)).2≠18/\decide ((Yh p l (2^(kw p.vars (qJ p)).toNat)).2=0)=Ys p l:=by
  unfold Yh;by_cases hg:qgZ p l (2^(kw p.vars (qJ p)).toNat:Nat)=true
  . rw[if_pos hg];simp only[qgZ,qBf,decide_eq_true_eq]at hg;obtain⟨hv,_,_,hk⟩:=hg;have hab:=Y5 hv (by omega);have hs:=qol (vs:=p.vars) (l:=l) (k:=2^(kw p.vars (qJ p)).toNat) (by rw[hab.2,hab.1];simp);have hsb:Ys p l=jK p.vars l:=(by simp[Ys,hv,hk]);rw[hsb,<- hs.1];generalize qdS p.vars l _ (qO p.vars)=s at hs;obtain⟨s1,s2⟩:=s
    cases s1 with
    |some a=>simp
    | none=>
     have:=hs.2 rfl;simp only at this;subst this;simp
  rw[if_neg hg];have hsb:Ys p l=false:=by
   apply qCu.2;intro hh;simp only[Ys,qBf,decide_eq_true_eq]at hh;apply hg;simp only[qgZ,qBf,decide_eq_true_eq];have hp0:0<2^(kw p.vars (qJ p)).toNat:=qD2 _;generalize 2^(kw p.vars (qJ p)).toNat=N at *;exact⟨hh.1,by omega,by omega,hh.2.1⟩
  rw[hsb];simp
 generalize Yh p l (2^(kw p.vars (qJ p)).toNat)=fa at *;generalize 2^(kw p.vars (qJ p)).toNat=N at *;obtain⟨hr1,hr2⟩:=hr;rw[<- hr2];have hm:w6 (.int .i64 (N:Int)) (.int .i64 262144)=some (.int .i64 N):=by
  simp only[w6];rw[if_neg (by omega)]
 simp only[qu]at ha hf;simp;refine qFz ha (by simp) ?_;simp[hm];refine qFz hf (by simp) ?_;simp[hr1];rw[qB7];simp
