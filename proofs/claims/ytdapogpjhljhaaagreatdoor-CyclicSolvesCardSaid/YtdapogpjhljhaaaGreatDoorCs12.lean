import Derived.Test.YtdapogpjhljhaaaGreatDoorCs10
set_option maxRecDepth 100000
set_option maxHeartbeats 16000000
set_option linter.all false
set_option linter.defProp false
namespace Go.Proofs.YtdapogpjhljhaaaGreatDoor
open Go Go.Abs Tryz
def qlM(n:Nat)(d:List Int):List AV:=(List.range n).map fun(j:Nat)=>AV.int .i64 (d.count (j:Int))
@[simp]def qtd{n d}:(qlM n d).length=n:=by simp[qlM]
def qo9{n}:List.replicate n (AV.int .i64 0)=qlM n []:=by
 simp only[qlM,List.count_nil]
 induction n with
 |zero=>simp
 |succ n ih=>rw[qCL,qCl,<- ih,qD2];simp
def Y8{n j d}(h:j<n):(qlM n d)[j]?=some (.int .i64 (d.count (j:Int))):=by simp[qlM,h]
def qo8{n j d}(h:j<n):(qlM n d).set j (.int .i64 ((d.count (j:Int):Int)+1))=qlM n (d++[(j:Int)]):=by
 apply qCg;intro i;by_cases hi:i<n
 . rw[qDY,Y8 hi,Y8 hi];by_cases a:j=i
   . subst a;simp[h,List.count_append]
   rw[if_neg a];have:¬(j:Int)=i:=by omega
   simp[List.count_append,this]
 rw[qBW (by simp;omega),qBW (by simp;omega)]
def RI(n:Nat)(d:List Int):Prop:=∀v∈d,0<=v/\v<(n:Int)
def RI.add{n:Nat}{d:List Int}{v:Int}(h:RI n d)(h0:0<=v)(h1:v<n):RI n (d++[v]):=fun x a=>by
 rcases qBC.1 a with a|a
 . exact h x a
 rw[qB0.1 a];exact⟨h0,h1⟩
noncomputable def okG(l:List Var)(g:List (List Int)):Bool:=decide (zK l g=0)
def ZA{l g}(h:¬yn l g):okG l g=false:=by
 simp only[okG,zK,if_neg h];rfl
def qaS{l g}(h:yn l g):okG l g=true:=by
 simp only[okG,zK,if_pos h];rfl
def JP{l g v}(h:v∈g.flatten)(b:v<0\/(l.length:Int)<=v):¬yn l g:=fun a=>by
 have:=JG (a.2.1 v h);omega
def qk7(g)(j:Fits g):Pure prog GG 38 [.sl 4 [] .none,.sl 1 (g.map qn) .none] (.bool (okG [] g)):=by
 refine qF6 func38 ?_;simp[qz];refine qF3 (fun n env σ=>n=1/\env 0=.sl 4 [] .none/\env 1=.sl 1 (g.map qn) .none/\env 6=.int .i64 0) 1 ⟨rfl,by simp⟩ ?_;rintro n env σ ⟨rfl,h0,h1,a⟩
 cases g with
 | nil=>
  rw[show okG [] []=true from qaS ⟨by simp,by simp,by simp,fun i hi=>by simp at hi⟩];simp[h1,a];refine qF3 (fun n env σ=>n=1/\env 0=.sl 4 [] .none/\env 9=.int .i64 0) 1 ⟨rfl,by simp[h0]⟩ ?_;rintro n env σ ⟨rfl,h0,f⟩;simp[h0,f]
 | cons g r=>
  have c:(0:Int)<r.length+1:=by omega
  cases g with
  | nil=>
   rw[ZA (wF (by simp))];simp[h1,a,c]
  | cons v g=>
   rw[ZA (JP (v:=v) (by simp) (by simp;omega))];simp[h1,a,c,show ¬(g.length:Int)+1=0 by omega];refine qF3 (fun n env σ=>n=1/\env 0=.sl 4 [] .none/\env 1=.sl 1 (((v::g)::r).map qn) .none/\env 6=.int .i64 0/\env 7=.int .i64 0) 1 ⟨rfl,by simp[h0,h1,a]⟩ ?_;rintro n env σ ⟨rfl,h0,h1,a,b⟩;have d:(0:Int)<g.length+1:=(by omega);by_cases e:v<0
   . simp[h1,a,b,d,e]
   have h:0<=v:=(by omega);simp[h0,h1,a,b,d,e,h]
def qk6(l g)(hv:l≠[])(a6:l.length<=20)(hg:Fits g)(a2:∀x∈g,Fits x)(U:g.flatten.length<4611686018427387904):Pure prog GG 38 [.sl 4 (l.map qu) .none,.sl 1 (g.map qn) .none] (.bool (okG l g)):=by
 refine qF6 func38 ?_;have a7:=qBA.2 hv;obtain⟨N,f⟩:∃N,N=l.length:=⟨_,rfl⟩;have a8:¬(N:Int)=0:=by omega
 simp[qz,<- f,show(N:Int)<=549755813888 by omega,show ¬N=0 by omega,qo9];refine qF3 (fun n env σ=>∃i,i<=g.length/\n=g.length-i/\env 0=.sl 4 (l.map qu) .none/\env 1=.sl 1 (g.map qn) .none/\env 5=.ms 0 0 N 1/\env 6=.int .i64 i/\σ=⟨[.cells (qlM N (g.take i).flatten)],[]⟩/\NE (g.take i)/\RI N (g.take i).flatten) g.length ⟨0,by simp,by simp,by simp,by simp,by simp,by simp,by simp,by simp[NE],by simp[RI]⟩ ?_;rintro n env σ ⟨i,hi,rfl,h0,h1,a,c,rfl,K,W⟩
 cases hgi:g[i]? with
 | some x=>
  obtain⟨o,u⟩:=qBk.1 hgi;have P:=qBl hgi;have b0:=a2 x P;by_cases F:x=[]
  . rw[ZA (wF (F▸P))];subst F;simp[h1,c,o,u]
  have a9:¬(x.length:Int)=0:=by have:=qBA.2 F;omega
  simp[h1,c,o,u,show ¬x.length=0 by have:=qBA.2 F;omega];refine qF3 (fun n env σ=>∃k,k<=x.length/\n=x.length-k/\env 0=.sl 4 (l.map qu) .none/\env 1=.sl 1 (g.map qn) .none/\env 5=.ms 0 0 N 1/\env 6=.int .i64 i/\env 7=.int .i64 k/\σ=⟨[.cells (qlM N ((g.take i).flatten++x.take k))],[]⟩/\RI N ((g.take i).flatten++x.take k)) x.length ⟨0,by simp[h0,h1,a,c];exact W⟩ ?_;clear h0 h1 a c;rintro n env σ ⟨k,hk,rfl,h0,h1,a,c,G,rfl,S⟩
  cases hvk:x[k]? with
  | some v=>
   obtain⟨B,I⟩:=qBk.1 hvk;have Y:=V2 hgi hvk;have Z:v∈g.flatten:=(by rw[Y];simp);have a1:((g.take i).flatten++x.take k).length<4611686018427387904:=by
    rw[Y]at U;simp only[qBp,qBB]at U⊢;omega
   by_cases J:v<0
   . rw[ZA (JP Z (.inl J))];simp[h0,h1,a,c,G,o,u,B,I,J]
   by_cases X:(N:Int)<=v
   . rw[ZA (JP Z (.inr (by omega)))];simp[h0,h1,a,c,G,o,u,B,I,J,X,<- f]
   have r1:0<=v:=(by omega);obtain⟨j,rfl⟩:=qBG r1;have b:j<N:=(by omega);have r:(j:Int)<N:=(by omega);have w:j+1<=N:=b;have E:=Y8 (d:=(g.take i).flatten++x.take k) b;have V:=qo8 (d:=(g.take i).flatten++x.take k) b;have a3:(((g.take i).flatten++x.take k).count (j:Int))<4611686018427387904:=qC3 List.count_le_length a1;obtain⟨q,z⟩:∃q,((g.take i).flatten++x.take k).count (j:Int)=q:=⟨_,rfl⟩;rw[z]at E V a3;have m:=kL E;have R:x.take (k+1)=x.take k++[(j:Int)]:=(by rw[qBQ,hvk];rfl);simp[h0,h1,a,c,G,o,u,B,I,show ¬(j:Int)<0 by omega,X,r,w,m,show IntKind.i64.wrap ((q:Int)+1)=q+1 from wr,V,<- f];refine⟨_,by omega,k+1,by omega,rfl,wr,?_,?_⟩
   . rw[R]
   rw[R,<- qBX];exact S.add (by omega) r
  | none=>
   have B:¬k<x.length:=(by simp at hvk;omega);have D:x.take k=x:=qBr (by omega);rw[D]at S;have a0:=qdk hgi;simp[h0,h1,a,c,G,o,u,B,show IntKind.i64.wrap ((i:Int)+1)=((i+1:Nat):Int) by rw[wr];omega];refine⟨_,by omega,i+1,by omega,rfl,rfl,?_,?_,?_⟩
   . rw[a0,D]
   . intro y s;rw[qBQ,hgi]at s;rcases qBC.1 s with s|s
     . exact K y s
     simp at s;rwa[s]
   rwa[a0]
 | none=>
  have o:¬i<g.length:=by simp at hgi;omega
  have D:g.take i=g:=qBr (by omega);rw[D]at K W;have T:=qc9 (l:=l) K (by rwa[<- f]);simp[h1,c,o];refine qF3 (fun n env σ=>∃i,i<=N/\n=N-i/\env 0=.sl 4 (l.map qu) .none/\env 5=.ms 0 0 N 1/\env 9=.int .i64 i/\σ=⟨[.cells (qlM N g.flatten)],[]⟩/\∀j:Nat,j<i->g.flatten.count (j:Int)=if yU l j=true then 1 else 0) N ⟨0,by simp[h0,a,D]⟩ ?_;rintro n env σ ⟨j,a5,rfl,h0,a,C,rfl,Q⟩;by_cases b:j<N
  . have O:j<l.length:=(by omega);have r:(j:Int)<N:=(by omega);have w:j+1<=N:=b;have E:=Y8 (d:=g.flatten) b;have m:=kL E;have next:(g.flatten.count (j:Int)=if yU l j=true then 1 else 0)->∀q:Nat,q<j+1->g.flatten.count (q:Int)=if yU l q=true then 1 else 0:=fun h q z=>by
     rcases qCB.1 z with z|rfl
     . exact Q q z
     exact h
    have bad:¬(g.flatten.count (j:Int)=if yU l j=true then 1 else 0)->okG l g=false:=fun h=>ZA fun a4=>h (T.1 a4 j O)
    have L:yU l (j:Int)=(l[j].mode != 0):=(by simp[yU,qBm O]);by_cases m0:l[j].mode=0
    . have A:yU l (j:Int)=false:=(by rw[L];simp[m0]);by_cases t:g.flatten.count (j:Int)=0
      . rw[t]at m;simp[h0,a,C,<- f,b,r,w,m0,m];exact⟨_,by omega,j+1,by omega,rfl,wr,next (by rw[A,t];rfl)⟩
      have M:¬((g.flatten.count (j:Int):Nat):Int)=0:=(by omega);rw[bad (by rwa[A])];simp[h0,a,C,<- f,b,r,w,m0,m]
      try exact fun e=>absurd e t
    have A:yU l (j:Int)=true:=(by rw[L];simp[m0]);by_cases t:g.flatten.count (j:Int)=1
    . rw[t]at m;simp[h0,a,C,<- f,b,r,w,m0,m];exact⟨_,by omega,j+1,by omega,rfl,wr,next (by rw[A,t];rfl)⟩
    have M:¬((g.flatten.count (j:Int):Nat):Int)=1:=(by omega);rw[bad (by rwa[A])];simp[h0,a,C,<- f,b,r,w,m0,m,M]
    try exact fun e=>absurd e t
  have x:=qaS (T.2 fun q z=>Q q (by omega));rw[x];simp[h0,C,<- f,b]
def qoI(l g)(e:l.length<=20)(a:Fits g)(d:∀x∈g,Fits x)(c:g.flatten.length<4611686018427387904):Pure prog GG 38 [.sl 4 (l.map qu) .none,.sl 1 (g.map qn) .none] (.bool (okG l g)):=by
 by_cases b:l=[]
 . subst b;exact qk7 g a
 exact qk6 l g b e a d c
