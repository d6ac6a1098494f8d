import Derived.Test.YtimecmegnocamaaGreatDoorPq16
set_option maxRecDepth 100000
set_option maxHeartbeats 16000000
set_option linter.all false
set_option linter.defProp false
namespace Go.Proofs.YtimecmegnocamaaGreatDoor
open Go Go.Abs Tryz
def qlv(n:Nat)(d:List Int):List AV:=(List.range n).map fun(j:Nat)=>AV.int .i64 (d.count (j:Int))
@[simp]def qs3{n d}:(qlv n d).length=n:=by simp[qlv]
def qoP{n}:List.replicate n (AV.int .i64 0)=qlv n []:=by
 simp only[qlv,List.count_nil]
 induction n with
 |zero=>simp
 |succ n ih=>rw[qCk,qBV,<- ih,qDL];simp
def YO{n j d}(h:j<n):(qlv n d)[j]?=some (.int .i64 (d.count (j:Int))):=by simp[qlv,h]
def qoO{n j d}(h:j<n):(qlv n d).set j (.int .i64 ((d.count (j:Int):Int)+1))=qlv n (d++[(j:Int)]):=by
 apply qB2;intro i;by_cases hi:i<n
 . rw[qCU,YO hi,YO hi];by_cases hij:j=i
   . subst hij;simp[h,List.count_append]
   rw[if_neg hij];have:¬(j:Int)=i:=by omega
   simp[List.count_append,this]
 rw[qBs (by simp;omega),qBs (by simp;omega)]
def RI(n:Nat)(d:List Int):Prop:=∀v∈d,0<=v/\v<(n:Int)
def RI.add{n:Nat}{d:List Int}{v:Int}(h:RI n d)(h0:0<=v)(h1:v<n):RI n (d++[v]):=fun x hx=>by
 rcases qBb.1 hx with hx|hx
 . exact h x hx
 rw[qBD.1 hx];exact⟨h0,h1⟩
noncomputable def okG(l:List Var)(g:List (List Int)):Bool:=decide (zK l g=0)
def Zi{l g}(h:¬yh l g):okG l g=false:=by
 simp only[okG,zK,if_neg h];rfl
def qaA{l g}(h:yh l g):okG l g=true:=by
 simp only[okG,zK,if_pos h];rfl
def Jx{l g v}(h:v∈g.flatten)(hv:v<0\/(l.length:Int)<=v):¬yh l g:=fun hg=>by
 have:=Jp (hg.2.1 v h);omega
def qkN(g)(hg:Fits g):Pure prog GG 96 [.sl 4 [] .none,.sl 1 (g.map qD) .none] (.bool (okG [] g)):=by
 refine qFP qg func96 rfl (by kernel_rfl) ?_;simp[qG];refine qFM (fun n env U=>n=1/\env 0=.sl 4 [] .none/\env 1=.sl 1 (g.map qD) .none/\env 6=.int .i64 0) 1 ⟨rfl,by simp⟩ ?_;rintro n env U ⟨rfl,h0,h1,h6⟩
 cases g with
 | nil=>
  rw[show okG [] []=true from qaA ⟨by simp,by simp,by simp,fun i hi=>by simp at hi⟩];simp[h1,h6];refine qFM (fun n env U=>n=1/\env 0=.sl 4 [] .none/\env 9=.int .i64 0) 1 ⟨rfl,by simp[h0]⟩ ?_;rintro n env U ⟨rfl,h0,h9⟩;simp[h0,h9]
 | cons g r=>
  have hp:(0:Int)<r.length+1:=by omega
  cases g with
  | nil=>
   rw[Zi (wD (by simp))];simp[h1,h6,hp]
  | cons v g=>
   rw[Zi (Jx (v:=v) (by simp) (by simp;omega))];simp[h1,h6,hp,show ¬(g.length:Int)+1=0 by omega];refine qFM (fun n env U=>n=1/\env 0=.sl 4 [] .none/\env 1=.sl 1 (((v::g)::r).map qD) .none/\env 6=.int .i64 0/\env 7=.int .i64 0) 1 ⟨rfl,by simp[h0,h1,h6]⟩ ?_;rintro n env U ⟨rfl,h0,h1,h6,h7⟩;have hp3:(0:Int)<g.length+1:=(by omega);by_cases hv:v<0
   . simp[h1,h6,h7,hp3,hv]
   have hv':0<=v:=(by omega);simp[h0,h1,h6,h7,hp3,hv,hv']
def qhw(a b)(ha:Fits a):Pure prog GG 24 [.sl 1 (a.map qh) .none,.sl 1 (b.map qh) .none] (.bool (decide (a=b))):=by
 refine qFP qg func24 rfl (by kernel_rfl) ?_;by_cases hlen:a.length=b.length
 . have hlen':((a.length:Int)=b.length):=(by omega);simp[hlen];refine qFM (fun n env U=>∃i,i<=a.length/\n=a.length-i/\env 0=.sl 1 (a.map qh) .none/\env 1=.sl 1 (b.map qh) .none/\env 5=.int .i64 i/\U=⟨[],[]⟩/\a.take i=b.take i) a.length ⟨0,by simp⟩ ?_;rintro n env U ⟨i,hi,rfl,h0,h1,h5,rfl,ht⟩
   cases hv:a[i]? with
   | some v=>
    obtain⟨hc,hv'⟩:=qAU.1 hv;have hcb:i<b.length:=(by omega);have hvb:=qAW hcb;by_cases he:v=b[i]
    . simp[h0,h1,h5,hc,hv',hcb,<- he];refine⟨_,by omega,i+1,by omega,rfl,wr (by omega) (by omega),?_⟩;rw[qBi,qBi,hv,hvb,ht,<- he]
    have hne:¬a=b:=by
     intro e;subst e;rw[hv]at hvb;exact he (Option.some.inj hvb)
    simp[h0,h1,h5,hc,hv',hcb,he,hne]
   | none=>
    have hc:¬i<a.length:=(by simp at hv;omega);have e:a=b:=by
     rwa[qAZ (by omega),qAZ (by omega)]at ht
    subst e;simp[h0,h5,hc]
 have hlen':¬((a.length:Int)=b.length):=by omega
 simp[hlen',show ¬a=b from fun e=>hlen (by rw[e])]
def qkM(l g)(hv:l≠[])(hv20:l.length<=20)(hg:Fits g)(hgs:∀x∈g,Fits x)(hfl:g.flatten.length<4611686018427387904):Pure prog GG 96 [.sl 4 (l.map qM) .none,.sl 1 (g.map qD) .none] (.bool (okG l g)):=by
 refine qFP qg func96 rfl (by kernel_rfl) ?_;have hn0:=qBf.2 hv;obtain⟨N,hN⟩:∃N,N=l.length:=⟨_,rfl⟩;have hc2:¬(N:Int)=0:=by omega
 simp[qG,<- hN,show(N:Int)<=549755813888 by omega,show ¬N=0 by omega,qoP];refine qFM (fun n env U=>∃i,i<=g.length/\n=g.length-i/\env 0=.sl 4 (l.map qM) .none/\env 1=.sl 1 (g.map qD) .none/\env 5=.ms 0 0 N 1/\env 6=.int .i64 i/\U=⟨[.cells (qlv N (g.take i).flatten)],[]⟩/\NE (g.take i)/\RI N (g.take i).flatten) g.length ⟨0,by simp,by simp,by simp,by simp,by simp,by simp,by simp,by simp[NE],by simp[RI]⟩ ?_;rintro n env U ⟨i,hi,rfl,h0,h1,h5,h6,rfl,hne,hri⟩
 cases hgi:g[i]? with
 | some x=>
  obtain⟨hc,hv'⟩:=qAU.1 hgi;have hm:=qAV hgi;have hfg:=hgs x hm;by_cases hge:x=[]
  . rw[Zi (wD (hge▸hm))];subst hge;simp[h1,h6,hc,hv']
  have hgl:¬(x.length:Int)=0:=by have:=qBf.2 hge;omega
  simp[h1,h6,hc,hv',show ¬x.length=0 by have:=qBf.2 hge;omega];refine qFM (fun n env U=>∃k,k<=x.length/\n=x.length-k/\env 0=.sl 4 (l.map qM) .none/\env 1=.sl 1 (g.map qD) .none/\env 5=.ms 0 0 N 1/\env 6=.int .i64 i/\env 7=.int .i64 k/\U=⟨[.cells (qlv N ((g.take i).flatten++x.take k))],[]⟩/\RI N ((g.take i).flatten++x.take k)) x.length ⟨0,by simp[h0,h1,h5,h6];exact hri⟩ ?_;clear h0 h1 h5 h6;rintro n env U ⟨k,hk,rfl,h0,h1,h5,h6,h7,rfl,hri2⟩
  cases hvk:x[k]? with
  | some v=>
   obtain⟨hck,hvk'⟩:=qAU.1 hvk;have hsp:=VT hgi hvk;have hmv:v∈g.flatten:=(by rw[hsp];simp);have hcl:((g.take i).flatten++x.take k).length<4611686018427387904:=by
    rw[hsp]at hfl;simp only[qAY,qBc]at hfl⊢;omega
   by_cases hv0:v<0
   . rw[Zi (Jx hmv (.inl hv0))];simp[h0,h1,h5,h6,h7,hc,hv',hck,hvk',hv0]
   by_cases hvN:(N:Int)<=v
   . rw[Zi (Jx hmv (.inr (by omega)))];simp[h0,h1,h5,h6,h7,hc,hv',hck,hvk',hv0,hvN,<- hN]
   have r1:0<=v:=(by omega);obtain⟨j,rfl⟩:=qBe r1;have hj:j<N:=(by omega);have hj':(j:Int)<N:=(by omega);have hj1:j+1<=N:=hj;have hg1:=YO (d:=(g.take i).flatten++x.take k) hj;have hset:=qoO (d:=(g.take i).flatten++x.take k) hj;have hcnt:(((g.take i).flatten++x.take k).count (j:Int))<4611686018427387904:=qB3 List.count_le_length hcl;obtain⟨q,hq⟩:∃q,((g.take i).flatten++x.take k).count (j:Int)=q:=⟨_,rfl⟩;rw[hq]at hg1 hset hcnt;have ht1:=kI hg1;have htk:x.take (k+1)=x.take k++[(j:Int)]:=(by rw[qBi,hvk];rfl);simp[h0,h1,h5,h6,h7,hc,hv',hck,hvk',show ¬(j:Int)<0 by omega,hvN,hj',hj1,ht1,show IntKind.i64.wrap ((q:Int)+1)=q+1 from wr (by omega) (by omega),hset,<- hN];refine⟨_,by omega,k+1,by omega,rfl,wr (by omega) (by omega),?_,?_⟩
   . rw[htk]
   rw[htk,<- qBE];exact hri2.add (by omega) hj'
  | none=>
   have hck:¬k<x.length:=(by simp at hvk;omega);have ht:x.take k=x:=qAZ (by omega);rw[ht]at hri2;have hft:=qc6 hgi;simp[h0,h1,h5,h6,h7,hc,hv',hck,show IntKind.i64.wrap ((i:Int)+1)=((i+1:Nat):Int) by rw[wr (by omega) (by omega)];omega];refine⟨_,by omega,i+1,by omega,rfl,rfl,?_,?_,?_⟩
   . rw[hft,ht]
   . intro y hy;rw[qBi,hgi]at hy;rcases qBb.1 hy with hy|hy
     . exact hne y hy
     simp at hy;rwa[hy]
   rwa[hft]
 | none=>
  have hc:¬i<g.length:=by simp at hgi;omega
  have ht:g.take i=g:=qAZ (by omega);rw[ht]at hne hri;have hgc:=qcW (l:=l) hne (by rwa[<- hN]);simp[h1,h6,hc];refine qFM (fun n env U=>∃i,i<=N/\n=N-i/\env 0=.sl 4 (l.map qM) .none/\env 5=.ms 0 0 N 1/\env 9=.int .i64 i/\U=⟨[.cells (qlv N g.flatten)],[]⟩/\∀j:Nat,j<i->g.flatten.count (j:Int)=if yO l j=true then 1 else 0) N ⟨0,by simp[h0,h5,ht]⟩ ?_;rintro n env U ⟨j,hj0,rfl,h0,h5,h9,rfl,hall⟩;by_cases hj:j<N
  . have hjl:j<l.length:=(by omega);have hj':(j:Int)<N:=(by omega);have hj1:j+1<=N:=hj;have hg1:=YO (d:=g.flatten) hj;have ht1:=kI hg1;have next:(g.flatten.count (j:Int)=if yO l j=true then 1 else 0)->∀q:Nat,q<j+1->g.flatten.count (q:Int)=if yO l q=true then 1 else 0:=fun h q hq=>by
     rcases qB5.1 hq with hq|rfl
     . exact hall q hq
     exact h
    have bad:¬(g.flatten.count (j:Int)=if yO l j=true then 1 else 0)->okG l g=false:=fun h=>Zi fun hok=>h (hgc.1 hok j hjl)
    have hrj:yO l (j:Int)=(l[j].mode != 0):=(by simp[yO,qAW hjl]);by_cases m0:l[j].mode=0
    . have hr:yO l (j:Int)=false:=(by rw[hrj];simp[m0]);by_cases hcq:g.flatten.count (j:Int)=0
      . rw[hcq]at ht1;simp[h0,h5,h9,<- hN,hj,hj',hj1,m0,ht1];exact⟨_,by omega,j+1,by omega,rfl,wr (by omega) (by omega),next (by rw[hr,hcq];rfl)⟩
      have hcq':¬((g.flatten.count (j:Int):Nat):Int)=0:=(by omega);rw[bad (by rwa[hr])];simp[h0,h5,h9,<- hN,hj,hj',hj1,m0,ht1]
      try exact fun e=>absurd e hcq
    have hr:yO l (j:Int)=true:=(by rw[hrj];simp[m0]);by_cases hcq:g.flatten.count (j:Int)=1
    . rw[hcq]at ht1;simp[h0,h5,h9,<- hN,hj,hj',hj1,m0,ht1];exact⟨_,by omega,j+1,by omega,rfl,wr (by omega) (by omega),next (by rw[hr,hcq];rfl)⟩
    have hcq':¬((g.flatten.count (j:Int):Nat):Int)=1:=(by omega);rw[bad (by rwa[hr])];simp[h0,h5,h9,<- hN,hj,hj',hj1,m0,ht1,hcq']
    try exact fun e=>absurd e hcq
  have x:=qaA (hgc.2 fun q hq=>hall q (by omega));rw[x];simp[h0,h9,<- hN,hj]
def qoj(l g)(hv20:l.length<=20)(hg:Fits g)(hgs:∀x∈g,Fits x)(hfl:g.flatten.length<4611686018427387904):Pure prog GG 96 [.sl 4 (l.map qM) .none,.sl 1 (g.map qD) .none] (.bool (okG l g)):=by
 by_cases hv:l=[]
 . subst hv;exact qkN g hg
 exact qkM l g hv hv20 hg hgs hfl
