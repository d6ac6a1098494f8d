/- A part of the proof. -/
import Derived.Test.YtkpkjbchlabaaaaGreatDoorSa10
set_option linter.unusedVariables false
set_option linter.unusedSimpArgs false
set_option maxRecDepth 100000
set_option maxHeartbeats 16000000
set_option linter.defProp false
section
namespace Go.Proofs.YtkpkjbchlabaaaaGreatDoor
open Go Go.Abs
def qiU (n:Nat)(d:List Int):List AV:=(List.range n).map fun (j:Nat)=>AV.int .i64 (d.count (j:Int))
@[simp]theorem qpM {n:Nat}{d:List Int}:(qiU n d).length=n:=by simp[qiU]
theorem ql6 {n:Nat}:List.replicate n (AV.int .i64 0)=qiU n []:=by
 simp only[qiU,List.count_nil]
 induction n with
 | zero=>simp
 | succ n ih=>rw[qrG,qrb,<- ih,qsI];simp
theorem JQ {n j:Nat}{d:List Int}(h:j<n):(qiU n d)[j]?=some (.int .i64 (d.count (j:Int))):=by simp[qiU,h]
theorem ql5 {n j:Nat}{d:List Int}(h:j<n):(qiU n d).set j (.int .i64 ((d.count (j:Int):Int)+1))=qiU n (d++[(j:Int)]):=by
 apply qq3;intro i;by_cases hi:i<n
 . rw[qsC,JQ hi,JQ hi];by_cases hij:j=i
   . subst hij;simp[h,List.count_append]
   . rw[if_neg hij];have:¬ (j:Int)=i:=by omega
     simp[List.count_append,List.count_singleton,this]
 . rw[qqC (by simp;omega),qqC (by simp;omega)]
def RI (n:Nat)(d:List Int):Prop:=∀ v∈d,0<=v/\v<(n:Int)
theorem RI.add {n:Nat}{d:List Int}{v:Int}(h:RI n d)(h0:0<=v)(h1:v<n):RI n (d++[v]):=fun x hx=>by
 rcases qqA.1 hx with hx|hx
 . exact h x hx
 . rw[qqQ.1 hx];exact⟨h0,h1⟩
noncomputable def okG (l:List Var)(g:List (List Int)):Bool:=decide (zz l g=0)
theorem Qv {l:List Var}{g:List (List Int)}(h:¬ jL l g):okG l g=false:=by
 simp only[okG,zz,if_neg h];rfl
theorem W7 {l:List Var}{g:List (List Int)}(h:jL l g):okG l g=true:=by
 simp only[okG,zz,if_pos h];rfl
theorem Zy {l:List Var}{g:List (List Int)}{v:Int}(h:v∈g.flatten)(hv:v<0\/(l.length:Int)<=v):¬ jL l g:=fun hg=>by
 have:=Zp (hg.2.1 v h);omega
theorem qif (g:List (List Int))(hg:Fits g):Pure Tryz.prog GG 49 [.sl 4 [] .none,.sl 1 (g.map zG) .none] (.bool (okG [] g)):=by
 refine Pure.vc qe Tryz.func49 rfl (by kernel_rfl) ?_;simp[qx];refine qy.intro (fun n env U=>n=1/\env 0=.sl 4 [] .none/\env 1=.sl 1 (g.map zG) .none/\env 6=.int .i64 0) 1 ⟨rfl,by simp⟩ ?_;rintro n env U ⟨rfl,h0,h1,h6⟩
 cases g with
 | nil=>
  have x:okG [] []=true:=W7 ⟨by simp,by simp,by simp,fun i hi=>by simp at hi⟩;rw[x];simp[h0,h1,h6];refine qy.intro (fun n env U=>n=1/\env 0=.sl 4 [] .none/\env 9=.int .i64 0) 1 ⟨rfl,by simp[h0]⟩ ?_;rintro n env U ⟨rfl,h0,h9⟩;simp[h0,h9]
 | cons g r=>
  have hp:(0:Int)<r.length+1:=by omega
  cases g with
  | nil=>
   rw[Qv (kE (by simp))];simp[h0,h1,h6,hp]
  | cons v g=>
   rw[Qv (Zy (v:=v) (by simp) (by simp;omega))];have hp2:¬ (g.length:Int)+1=0:=(by omega);simp[h0,h1,h6,hp,hp2];refine qy.intro (fun n env U=>n=1/\env 0=.sl 4 [] .none/\env 1=.sl 1 (((v::g)::r).map zG) .none/\env 6=.int .i64 0/\env 7=.int .i64 0) 1 ⟨rfl,by simp[h0,h1,h6]⟩ ?_;rintro n env U ⟨rfl,h0,h1,h6,h7⟩;have hp3:(0:Int)<g.length+1:=(by omega);by_cases hv:v<0
   . simp[h0,h1,h6,h7,hp3,hv]
   . have hv':0<=v:=(by omega);simp[h0,h1,h6,h7,hp3,hv,hv']
theorem qie (l:List Var)(g:List (List Int))(hv:l≠[])(hv20:l.length<=20)(hg:Fits g)(hgs:∀ x∈g,Fits x)(hfl:g.flatten.length<4611686018427387904):Pure Tryz.prog GG 49 [.sl 4 (l.map qA) .none,.sl 1 (g.map zG) .none] (.bool (okG l g)):=by
 refine Pure.vc qe Tryz.func49 rfl (by kernel_rfl) ?_;have hn0:0<l.length:=qqt.2 hv;obtain⟨N,hN⟩:∃ N,N=l.length:=⟨_,rfl⟩;have hc1:(N:Int)<=549755813888:=by omega
 have hc2:¬ (N:Int)=0:=by omega
 have hc3:¬ N=0:=by omega
 simp[qx,<- hN,hc1,hc2,hc3,ql6];refine qy.intro (fun n env U=>∃ i,i<=g.length/\n=g.length-i/\env 0=.sl 4 (l.map qA) .none/\env 1=.sl 1 (g.map zG) .none/\env 5=.ms 0 0 N 1/\env 6=.int .i64 i/\U=⟨[.cells (qiU N (g.take i).flatten)],[]⟩/\NE (g.take i)/\RI N (g.take i).flatten) g.length ⟨0,by simp,by simp,by simp,by simp,by simp,by simp,by simp,by simp[NE],by simp[RI]⟩ ?_;rintro n env U ⟨i,hi,rfl,h0,h1,h5,h6,rfl,hne,hri⟩
 cases hgi:g[i]? with
 | some x=>
  obtain⟨hc,hv'⟩:=qqc.1 hgi;have hm:=qqd hgi;have hfg:=hgs x hm;have hiw:IntKind.i64.wrap ((i:Int)+1)=((i+1:Nat):Int):=by rw[wr (by omega) (by omega)];omega
  by_cases hge:x=[]
  . rw[Qv (kE (hge▸hm))];subst hge;simp[h0,h1,h5,h6,hc,hv']
  . have hgl:¬ (x.length:Int)=0:=(by have:=qqt.2 hge;omega);have hgl':¬ x.length=0:=(by have:=qqt.2 hge;omega);simp[h0,h1,h5,h6,hc,hv',hgl,hgl',hge];refine qy.intro (fun n env U=>∃ k,k<=x.length/\n=x.length-k/\env 0=.sl 4 (l.map qA) .none/\env 1=.sl 1 (g.map zG) .none/\env 5=.ms 0 0 N 1/\env 6=.int .i64 i/\env 7=.int .i64 k/\U=⟨[.cells (qiU N ((g.take i).flatten++x.take k))],[]⟩/\RI N ((g.take i).flatten++x.take k)) x.length ⟨0,by simp[h0,h1,h5,h6];exact hri⟩ ?_;clear h0 h1 h5 h6;rintro n env U ⟨k,hk,rfl,h0,h1,h5,h6,h7,rfl,hri2⟩
    cases hvk:x[k]? with
    | some v=>
     obtain⟨hck,hvk'⟩:=qqc.1 hvk;have hsp:=Wq hgi hvk;have hmv:v∈g.flatten:=(by rw[hsp];simp);have hcl:((g.take i).flatten++x.take k).length<4611686018427387904:=by
      rw[hsp]at hfl;simp only[qqg,qqs]at hfl ⊢;omega
     by_cases hv0:v<0
     . rw[Qv (Zy hmv (.inl hv0))];simp[h0,h1,h5,h6,h7,hc,hv',hck,hvk',hv0,<- hN]
     by_cases hvN:(N:Int)<=v
     . rw[Qv (Zy hmv (.inr (by omega)))];simp[h0,h1,h5,h6,h7,hc,hv',hck,hvk',hv0,hvN,<- hN]
     have r1:0<=v:=(by omega);obtain⟨j,rfl⟩:=qqL r1;have hj:j<N:=(by omega);have hj':(j:Int)<N:=(by omega);have hj1:j+1<=N:=hj;have hg1:=JQ (d:=(g.take i).flatten++x.take k) hj;have hset:=ql5 (d:=(g.take i).flatten++x.take k) hj;have hcnt:(((g.take i).flatten++x.take k).count (j:Int))<4611686018427387904:=qrI List.count_le_length hcl;obtain⟨q,hq⟩:∃ q,((g.take i).flatten++x.take k).count (j:Int)=q:=⟨_,rfl⟩;rw[hq]at hg1 hset hcnt;have hwq:IntKind.i64.wrap ((q:Int)+1)=q+1:=wr (by omega) (by omega);have ht1:=yU hg1;have htk:x.take (k+1)=x.take k++[(j:Int)]:=(by rw[qqH,hvk];rfl);have hv0':¬ (j:Int)<0:=(by omega);simp[h0,h1,h5,h6,h7,hc,hv',hck,hvk',hv0',hvN,hj,hj',hj1,ht1,hwq,hset,<- hN];refine⟨_,by omega,k+1,by omega,rfl,wr (by omega) (by omega),?_,?_⟩
     . rw[htk]
     . rw[htk,<- qqI];exact hri2.add (by omega) hj'
    | none=>
     have hck:¬ k<x.length:=(by simp at hvk;omega);have ht:x.take k=x:=qqk (by omega);rw[ht]at hri2;have hft:=qbs hgi;simp[h0,h1,h5,h6,h7,hc,hv',hck,hiw];refine⟨_,by omega,i+1,by omega,rfl,rfl,?_,?_,?_⟩
     . rw[hft,ht]
     . intro y hy;rw[qqH,hgi]at hy;rcases qqA.1 hy with hy|hy
       . exact hne y hy
       . simp at hy;rw[hy];exact hge
     . rw[hft];exact hri2
 | none=>
  have hc:¬ i<g.length:=by simp at hgi;omega
  have ht:g.take i=g:=qqk (by omega);rw[ht]at hne hri;have hgc:=qbi (l:=l) hne (by rw[<- hN];exact hri);simp[h0,h1,h5,h6,hc];refine qy.intro (fun n env U=>∃ i,i<=N/\n=N-i/\env 0=.sl 4 (l.map qA) .none/\env 5=.ms 0 0 N 1/\env 9=.int .i64 i/\U=⟨[.cells (qiU N g.flatten)],[]⟩/\∀ j:Nat,j<i->g.flatten.count (j:Int)=if yi l j=true then 1 else 0) N ⟨0,by simp[h0,h5,ht]⟩ ?_;clear h0 h1 h5 h6;rintro n env U ⟨j,hj0,rfl,h0,h5,h9,rfl,hall⟩;by_cases hj:j<N
  . have hjl:j<l.length:=(by omega);have hj':(j:Int)<N:=(by omega);have hj1:j+1<=N:=hj;have hg1:=JQ (d:=g.flatten) hj;have ht1:=yU hg1;have next:(g.flatten.count (j:Int)=if yi l j=true then 1 else 0)->∀ q:Nat,q<j+1->g.flatten.count (q:Int)=if yi l q=true then 1 else 0:=fun h q hq=>by
     rcases qrd.1 hq with hq|rfl
     . exact hall q hq
     . exact h
    have bad:¬ (g.flatten.count (j:Int)=if yi l j=true then 1 else 0)->okG l g=false:=fun h=>Qv fun hok=>h (hgc.1 hok j hjl)
    have hrj:yi l (j:Int)=(l[j].mode != 0):=(by simp[yi,qqe hjl]);by_cases m0:l[j].mode=0
    . have hr:yi l (j:Int)=false:=(by rw[hrj];simp[m0]);by_cases hcq:g.flatten.count (j:Int)=0
      . rw[hcq]at ht1;simp[h0,h5,h9,<- hN,hj,hj',hj1,m0,ht1];exact⟨_,by omega,j+1,by omega,rfl,wr (by omega) (by omega),next (by rw[hr,hcq];rfl)⟩
      . have hcq':¬ ((g.flatten.count (j:Int):Nat):Int)=0:=(by omega);rw[bad (by rw[hr];exact hcq)];simp[h0,h5,h9,<- hN,hj,hj',hj1,m0,ht1,hcq']
        try exact fun e=>absurd e hcq
    . have hr:yi l (j:Int)=true:=(by rw[hrj];simp[m0]);by_cases hcq:g.flatten.count (j:Int)=1
      . rw[hcq]at ht1;simp[h0,h5,h9,<- hN,hj,hj',hj1,m0,ht1];exact⟨_,by omega,j+1,by omega,rfl,wr (by omega) (by omega),next (by rw[hr,hcq];rfl)⟩
      . have hcq':¬ ((g.flatten.count (j:Int):Nat):Int)=1:=(by omega);rw[bad (by rw[hr];exact hcq)];simp[h0,h5,h9,<- hN,hj,hj',hj1,m0,ht1,hcq']
        try exact fun e=>absurd e hcq
  . have x:okG l g=true:=W7 (hgc.2 fun q hq=>hall q (by omega));rw[x];simp[h0,h5,h9,<- hN,hj]
theorem qly (l:List Var)(g:List (List Int))(hv20:l.length<=20)(hg:Fits g)(hgs:∀ x∈g,Fits x)(hfl:g.flatten.length<4611686018427387904):Pure Tryz.prog GG 49 [.sl 4 (l.map qA) .none,.sl 1 (g.map zG) .none] (.bool (okG l g)):=by
 by_cases hv:l=[]
 . subst hv;exact qif g hg
 . exact qie l g hv hv20 hg hgs hfl
end Go.Proofs.YtkpkjbchlabaaaaGreatDoor
end
