import Derived.Test.YtfmdnopgncbmoaaGreatDoorPs13
set_option maxRecDepth 100000
set_option maxHeartbeats 16000000
set_option linter.all false
set_option linter.defProp false
namespace Go.Proofs.YtfmdnopgncbmoaaGreatDoor
open Go Go.Abs Tryz
def qjo(n:Nat)(d:List Int):List AV:=(List.range n).map fun(j:Nat)=>AV.int .i64 (d.count (j:Int))
@[simp]def qqE{n d}:(qjo n d).length=n:=by simp[qjo]
def qmJ{n}:List.replicate n (AV.int .i64 0)=qjo n []:=by
 simp only[qjo,List.count_nil]
 induction n with
 |zero=>simp
 |succ n ih=>rw[qAc,qzE,<- ih,qBk];simp
def JY{n j d}(h:j<n):(qjo n d)[j]?=some (.int .i64 (d.count (j:Int))):=by simp[qjo,h]
def qmI{n j d}(h:j<n):(qjo n d).set j (.int .i64 ((d.count (j:Int):Int)+1))=qjo n (d++[(j:Int)]):=by
 apply qzC;intro i;by_cases hi:i<n
 . rw[qBi,JY hi,JY hi];by_cases hij:j=i
   . subst hij;simp[h,List.count_append]
   rw[if_neg hij];have:¬(j:Int)=i:=by omega
   simp[List.count_append,this]
 rw[qy6 (by simp;omega),qy6 (by simp;omega)]
def RI(n:Nat)(d:List Int):Prop:=∀v∈d,0<=v/\v<(n:Int)
def RI.add{n:Nat}{d:List Int}{v:Int}(h:RI n d)(h0:0<=v)(h1:v<n):RI n (d++[v]):=fun x hx=>by
 rcases qy0.1 hx with hx|hx
 . exact h x hx
 rw[qzh.1 hx];exact⟨h0,h1⟩
noncomputable def okG(l:List Var)(g:List (List Int)):Bool:=decide (zy l g=0)
def QA{l g}(h:¬jR l g):okG l g=false:=by
 simp only[okG,zy,if_neg h];rfl
def Vd{l g}(h:jR l g):okG l g=true:=by
 simp only[okG,zy,if_pos h];rfl
def ZI{l g v}(h:v∈g.flatten)(hv:v<0\/(l.length:Int)<=v):¬jR l g:=fun hg=>by
 have:=Zy (hg.2.1 v h);omega
def qiB(g)(hg:Fits g):Pure prog GG 36 [.sl 4 [] .none,.sl 1 (g.map zJ) .none] (.bool (okG [] g)):=by
 refine qDb qe func36 rfl (by kernel_rfl) ?_;simp[qz];refine qC9 (fun n env U=>n=1/\env 0=.sl 4 [] .none/\env 1=.sl 1 (g.map zJ) .none/\env 6=.int .i64 0) 1 ⟨rfl,by simp⟩ ?_;rintro n env U ⟨rfl,h0,h1,h6⟩
 cases g with
 | nil=>
  rw[show okG [] []=true from Vd ⟨by simp,by simp,by simp,fun i hi=>by simp at hi⟩];simp[h1,h6];refine qC9 (fun n env U=>n=1/\env 0=.sl 4 [] .none/\env 9=.int .i64 0) 1 ⟨rfl,by simp[h0]⟩ ?_;rintro n env U ⟨rfl,h0,h9⟩;simp[h0,h9]
 | cons g r=>
  have hp:(0:Int)<r.length+1:=by omega
  cases g with
  | nil=>
   rw[QA (kU (by simp))];simp[h1,h6,hp]
  | cons v g=>
   rw[QA (ZI (v:=v) (by simp) (by simp;omega))];simp[h1,h6,hp,show ¬(g.length:Int)+1=0 by omega];refine qC9 (fun n env U=>n=1/\env 0=.sl 4 [] .none/\env 1=.sl 1 (((v::g)::r).map zJ) .none/\env 6=.int .i64 0/\env 7=.int .i64 0) 1 ⟨rfl,by simp[h0,h1,h6]⟩ ?_;rintro n env U ⟨rfl,h0,h1,h6,h7⟩;have hp3:(0:Int)<g.length+1:=(by omega);by_cases hv:v<0
   . simp[h1,h6,h7,hp3,hv]
   have hv':0<=v:=(by omega);simp[h0,h1,h6,h7,hp3,hv,hv']
def qiA(l g)(hv:l≠[])(hv20:l.length<=20)(hg:Fits g)(hgs:∀x∈g,Fits x)(hfl:g.flatten.length<4611686018427387904):Pure prog GG 36 [.sl 4 (l.map qD) .none,.sl 1 (g.map zJ) .none] (.bool (okG l g)):=by
 refine qDb qe func36 rfl (by kernel_rfl) ?_;have hn0:=qyZ.2 hv;obtain⟨N,hN⟩:∃N,N=l.length:=⟨_,rfl⟩;have hc2:¬(N:Int)=0:=by omega
 simp[qz,<- hN,show(N:Int)<=549755813888 by omega,show ¬N=0 by omega,qmJ];refine qC9 (fun n env U=>∃i,i<=g.length/\n=g.length-i/\env 0=.sl 4 (l.map qD) .none/\env 1=.sl 1 (g.map zJ) .none/\env 5=.ms 0 0 N 1/\env 6=.int .i64 i/\U=⟨[.cells (qjo N (g.take i).flatten)],[]⟩/\NE (g.take i)/\RI N (g.take i).flatten) g.length ⟨0,by simp,by simp,by simp,by simp,by simp,by simp,by simp,by simp[NE],by simp[RI]⟩ ?_;rintro n env U ⟨i,hi,rfl,h0,h1,h5,h6,rfl,hne,hri⟩
 cases hgi:g[i]? with
 | some x=>
  obtain⟨hc,hv'⟩:=qyF.1 hgi;have hm:=qyG hgi;have hfg:=hgs x hm;by_cases hge:x=[]
  . rw[QA (kU (hge▸hm))];subst hge;simp[h1,h6,hc,hv']
  have hgl:¬(x.length:Int)=0:=by have:=qyZ.2 hge;omega
  simp[h1,h6,hc,hv',show ¬x.length=0 by have:=qyZ.2 hge;omega];refine qC9 (fun n env U=>∃k,k<=x.length/\n=x.length-k/\env 0=.sl 4 (l.map qD) .none/\env 1=.sl 1 (g.map zJ) .none/\env 5=.ms 0 0 N 1/\env 6=.int .i64 i/\env 7=.int .i64 k/\U=⟨[.cells (qjo N ((g.take i).flatten++x.take k))],[]⟩/\RI N ((g.take i).flatten++x.take k)) x.length ⟨0,by simp[h0,h1,h5,h6];exact hri⟩ ?_;clear h0 h1 h5 h6;rintro n env U ⟨k,hk,rfl,h0,h1,h5,h6,h7,rfl,hri2⟩
  cases hvk:x[k]? with
  | some v=>
   obtain⟨hck,hvk'⟩:=qyF.1 hvk;have hsp:=Wy hgi hvk;have hmv:v∈g.flatten:=(by rw[hsp];simp);have hcl:((g.take i).flatten++x.take k).length<4611686018427387904:=by
    rw[hsp]at hfl;simp only[qyK,qyY]at hfl⊢;omega
   by_cases hv0:v<0
   . rw[QA (ZI hmv (.inl hv0))];simp[h0,h1,h5,h6,h7,hc,hv',hck,hvk',hv0]
   by_cases hvN:(N:Int)<=v
   . rw[QA (ZI hmv (.inr (by omega)))];simp[h0,h1,h5,h6,h7,hc,hv',hck,hvk',hv0,hvN,<- hN]
   have r1:0<=v:=(by omega);obtain⟨j,rfl⟩:=qzg r1;have hj:j<N:=(by omega);have hj':(j:Int)<N:=(by omega);have hj1:j+1<=N:=hj;have hg1:=JY (d:=(g.take i).flatten++x.take k) hj;have hset:=qmI (d:=(g.take i).flatten++x.take k) hj;have hcnt:(((g.take i).flatten++x.take k).count (j:Int))<4611686018427387904:=qzw List.count_le_length hcl;obtain⟨q,hq⟩:∃q,((g.take i).flatten++x.take k).count (j:Int)=q:=⟨_,rfl⟩;rw[hq]at hg1 hset hcnt;have ht1:=yU hg1;have htk:x.take (k+1)=x.take k++[(j:Int)]:=(by rw[qzb,hvk];rfl);simp[h0,h1,h5,h6,h7,hc,hv',hck,hvk',show ¬(j:Int)<0 by omega,hvN,hj',hj1,ht1,show IntKind.i64.wrap ((q:Int)+1)=q+1 from wr (by omega) (by omega),hset,<- hN];refine⟨_,by omega,k+1,by omega,rfl,wr (by omega) (by omega),?_,?_⟩
   . rw[htk]
   rw[htk,<- qze];exact hri2.add (by omega) hj'
  | none=>
   have hck:¬k<x.length:=(by simp at hvk;omega);have ht:x.take k=x:=qyN (by omega);rw[ht]at hri2;have hft:=qbF hgi;simp[h0,h1,h5,h6,h7,hc,hv',hck,show IntKind.i64.wrap ((i:Int)+1)=((i+1:Nat):Int) by rw[wr (by omega) (by omega)];omega];refine⟨_,by omega,i+1,by omega,rfl,rfl,?_,?_,?_⟩
   . rw[hft,ht]
   . intro y hy;rw[qzb,hgi]at hy;rcases qy0.1 hy with hy|hy
     . exact hne y hy
     simp at hy;rwa[hy]
   rwa[hft]
 | none=>
  have hc:¬i<g.length:=by simp at hgi;omega
  have ht:g.take i=g:=qyN (by omega);rw[ht]at hne hri;have hgc:=qbu (l:=l) hne (by rwa[<- hN]);simp[h1,h6,hc];refine qC9 (fun n env U=>∃i,i<=N/\n=N-i/\env 0=.sl 4 (l.map qD) .none/\env 5=.ms 0 0 N 1/\env 9=.int .i64 i/\U=⟨[.cells (qjo N g.flatten)],[]⟩/\∀j:Nat,j<i->g.flatten.count (j:Int)=if yo l j=true then 1 else 0) N ⟨0,by simp[h0,h5,ht]⟩ ?_;rintro n env U ⟨j,hj0,rfl,h0,h5,h9,rfl,hall⟩;by_cases hj:j<N
  . have hjl:j<l.length:=(by omega);have hj':(j:Int)<N:=(by omega);have hj1:j+1<=N:=hj;have hg1:=JY (d:=g.flatten) hj;have ht1:=yU hg1;have next:(g.flatten.count (j:Int)=if yo l j=true then 1 else 0)->∀q:Nat,q<j+1->g.flatten.count (q:Int)=if yo l q=true then 1 else 0:=fun h q hq=>by
     rcases qzK.1 hq with hq|rfl
     . exact hall q hq
     exact h
    have bad:¬(g.flatten.count (j:Int)=if yo l j=true then 1 else 0)->okG l g=false:=fun h=>QA fun hok=>h (hgc.1 hok j hjl)
    have hrj:yo l (j:Int)=(l[j].mode != 0):=(by simp[yo,qyH hjl]);by_cases m0:l[j].mode=0
    . have hr:yo l (j:Int)=false:=(by rw[hrj];simp[m0]);by_cases hcq:g.flatten.count (j:Int)=0
      . rw[hcq]at ht1;simp[h0,h5,h9,<- hN,hj,hj',hj1,m0,ht1];exact⟨_,by omega,j+1,by omega,rfl,wr (by omega) (by omega),next (by rw[hr,hcq];rfl)⟩
      have hcq':¬((g.flatten.count (j:Int):Nat):Int)=0:=(by omega);rw[bad (by rwa[hr])];simp[h0,h5,h9,<- hN,hj,hj',hj1,m0,ht1]
      try exact fun e=>absurd e hcq
    have hr:yo l (j:Int)=true:=(by rw[hrj];simp[m0]);by_cases hcq:g.flatten.count (j:Int)=1
    . rw[hcq]at ht1;simp[h0,h5,h9,<- hN,hj,hj',hj1,m0,ht1];exact⟨_,by omega,j+1,by omega,rfl,wr (by omega) (by omega),next (by rw[hr,hcq];rfl)⟩
    have hcq':¬((g.flatten.count (j:Int):Nat):Int)=1:=(by omega);rw[bad (by rwa[hr])];simp[h0,h5,h9,<- hN,hj,hj',hj1,m0,ht1,hcq']
    try exact fun e=>absurd e hcq
  have x:=Vd (hgc.2 fun q hq=>hall q (by omega));rw[x];simp[h0,h9,<- hN,hj]
def qmb(l g)(hv20:l.length<=20)(hg:Fits g)(hgs:∀x∈g,Fits x)(hfl:g.flatten.length<4611686018427387904):Pure prog GG 36 [.sl 4 (l.map qD) .none,.sl 1 (g.map zJ) .none] (.bool (okG l g)):=by
 by_cases hv:l=[]
 . subst hv;exact qiB g hg
 exact qiA l g hv hv20 hg hgs hfl
