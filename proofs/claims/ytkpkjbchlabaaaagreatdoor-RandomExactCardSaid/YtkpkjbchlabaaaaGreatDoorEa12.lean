/- A part of the proof. -/
import Derived.Test.YtkpkjbchlabaaaaGreatDoorEa10
set_option linter.unusedVariables false
set_option linter.unusedSimpArgs false
set_option maxRecDepth 100000
set_option maxHeartbeats 16000000
set_option linter.defProp false
section
namespace Go.Proofs.YtkpkjbchlabaaaaGreatDoor
open Go Go.Abs
def qi3 (n:Nat)(d:List Int):List AV:=(List.range n).map fun (j:Nat)=>AV.int .i64 (d.count (j:Int))
@[simp]theorem qp0 {n:Nat}{d:List Int}:(qi3 n d).length=n:=by simp[qi3]
theorem qmf {n:Nat}:List.replicate n (AV.int .i64 0)=qi3 n []:=by
 simp only[qi3,List.count_nil]
 induction n with
 | zero=>simp
 | succ n ih=>rw[qrO,qrj,<- ih,qsT];simp
theorem JZ {n j:Nat}{d:List Int}(h:j<n):(qi3 n d)[j]?=some (.int .i64 (d.count (j:Int))):=by simp[qi3,h]
theorem qme {n j:Nat}{d:List Int}(h:j<n):(qi3 n d).set j (.int .i64 ((d.count (j:Int):Int)+1))=qi3 n (d++[(j:Int)]):=by
 apply qrm;intro i;by_cases hi:i<n
 . rw[qsP,JZ hi,JZ hi];by_cases hij:j=i
   . subst hij;simp[h,List.count_append]
   . rw[if_neg hij];have:¬ (j:Int)=i:=by omega
     simp[List.count_append,List.count_singleton,this]
 . rw[qqS (by simp;omega),qqS (by simp;omega)]
def RI (n:Nat)(d:List Int):Prop:=∀ v∈d,0<=v/\v<(n:Int)
theorem RI.add {n:Nat}{d:List Int}{v:Int}(h:RI n d)(h0:0<=v)(h1:v<n):RI n (d++[v]):=fun x hx=>by
 rcases qqJ.1 hx with hx|hx
 . exact h x hx
 . rw[qqX.1 hx];exact⟨h0,h1⟩
noncomputable def okG (l:List Var)(g:List (List Int)):Bool:=decide (zE l g=0)
theorem Qz {l:List Var}{g:List (List Int)}(h:¬ jW l g):okG l g=false:=by
 simp only[okG,zE,if_neg h];rfl
theorem Vh {l:List Var}{g:List (List Int)}(h:jW l g):okG l g=true:=by
 simp only[okG,zE,if_pos h];rfl
theorem ZN {l:List Var}{g:List (List Int)}{v:Int}(h:v∈g.flatten)(hv:v<0\/(l.length:Int)<=v):¬ jW l g:=fun hg=>by
 have:=ZC (hg.2.1 v h);omega
theorem qin (g:List (List Int))(hg:Fits g):Pure Tryz.prog GG 49 [.sl 4 [] .none,.sl 1 (g.map zF) .none] (.bool (okG [] g)):=by
 refine Pure.vc qe Tryz.func49 rfl (by kernel_rfl) ?_;simp[qB];refine qx.intro (fun n env U=>n=1/\env 0=.sl 4 [] .none/\env 1=.sl 1 (g.map zF) .none/\env 6=.int .i64 0) 1 ⟨rfl,by simp⟩ ?_;rintro n env U ⟨rfl,h0,h1,h6⟩
 cases g with
 | nil=>
  have x:okG [] []=true:=Vh ⟨by simp,by simp,by simp,fun i hi=>by simp at hi⟩;rw[x];simp[h0,h1,h6];refine qx.intro (fun n env U=>n=1/\env 0=.sl 4 [] .none/\env 9=.int .i64 0) 1 ⟨rfl,by simp[h0]⟩ ?_;rintro n env U ⟨rfl,h0,h9⟩;simp[h0,h9]
 | cons g r=>
  have hp:(0:Int)<r.length+1:=by omega
  cases g with
  | nil=>
   rw[Qz (kK (by simp))];simp[h0,h1,h6,hp]
  | cons v g=>
   rw[Qz (ZN (v:=v) (by simp) (by simp;omega))];have hp2:¬ (g.length:Int)+1=0:=(by omega);simp[h0,h1,h6,hp,hp2];refine qx.intro (fun n env U=>n=1/\env 0=.sl 4 [] .none/\env 1=.sl 1 (((v::g)::r).map zF) .none/\env 6=.int .i64 0/\env 7=.int .i64 0) 1 ⟨rfl,by simp[h0,h1,h6]⟩ ?_;rintro n env U ⟨rfl,h0,h1,h6,h7⟩;have hp3:(0:Int)<g.length+1:=(by omega);by_cases hv:v<0
   . simp[h0,h1,h6,h7,hp3,hv]
   . have hv':0<=v:=(by omega);simp[h0,h1,h6,h7,hp3,hv,hv']
theorem qim (l:List Var)(g:List (List Int))(hv:l≠[])(hv20:l.length<=20)(hg:Fits g)(hgs:∀ x∈g,Fits x)(hfl:g.flatten.length<4611686018427387904):Pure Tryz.prog GG 49 [.sl 4 (l.map qz) .none,.sl 1 (g.map zF) .none] (.bool (okG l g)):=by
 refine Pure.vc qe Tryz.func49 rfl (by kernel_rfl) ?_;have hn0:0<l.length:=qqI.2 hv;obtain⟨N,hN⟩:∃ N,N=l.length:=⟨_,rfl⟩;have hc1:(N:Int)<=549755813888:=by omega
 have hc2:¬ (N:Int)=0:=by omega
 have hc3:¬ N=0:=by omega
 simp[qB,<- hN,hc1,hc2,hc3,qmf];refine qx.intro (fun n env U=>∃ i,i<=g.length/\n=g.length-i/\env 0=.sl 4 (l.map qz) .none/\env 1=.sl 1 (g.map zF) .none/\env 5=.ms 0 0 N 1/\env 6=.int .i64 i/\U=⟨[.cells (qi3 N (g.take i).flatten)],[]⟩/\NE (g.take i)/\RI N (g.take i).flatten) g.length ⟨0,by simp,by simp,by simp,by simp,by simp,by simp,by simp,by simp[NE],by simp[RI]⟩ ?_;rintro n env U ⟨i,hi,rfl,h0,h1,h5,h6,rfl,hne,hri⟩
 cases hgi:g[i]? with
 | some x=>
  obtain⟨hc,hv'⟩:=qqp.1 hgi;have hm:=qqq hgi;have hfg:=hgs x hm;have hiw:IntKind.i64.wrap ((i:Int)+1)=((i+1:Nat):Int):=by rw[wr (by omega) (by omega)];omega
  by_cases hge:x=[]
  . rw[Qz (kK (hge▸hm))];subst hge;simp[h0,h1,h5,h6,hc,hv']
  . have hgl:¬ (x.length:Int)=0:=(by have:=qqI.2 hge;omega);have hgl':¬ x.length=0:=(by have:=qqI.2 hge;omega);simp[h0,h1,h5,h6,hc,hv',hgl,hgl',hge];refine qx.intro (fun n env U=>∃ k,k<=x.length/\n=x.length-k/\env 0=.sl 4 (l.map qz) .none/\env 1=.sl 1 (g.map zF) .none/\env 5=.ms 0 0 N 1/\env 6=.int .i64 i/\env 7=.int .i64 k/\U=⟨[.cells (qi3 N ((g.take i).flatten++x.take k))],[]⟩/\RI N ((g.take i).flatten++x.take k)) x.length ⟨0,by simp[h0,h1,h5,h6];exact hri⟩ ?_;clear h0 h1 h5 h6;rintro n env U ⟨k,hk,rfl,h0,h1,h5,h6,h7,rfl,hri2⟩
    cases hvk:x[k]? with
    | some v=>
     obtain⟨hck,hvk'⟩:=qqp.1 hvk;have hsp:=WG hgi hvk;have hmv:v∈g.flatten:=(by rw[hsp];simp);have hcl:((g.take i).flatten++x.take k).length<4611686018427387904:=by
      rw[hsp]at hfl;simp only[qqu,qqH]at hfl ⊢;omega
     by_cases hv0:v<0
     . rw[Qz (ZN hmv (.inl hv0))];simp[h0,h1,h5,h6,h7,hc,hv',hck,hvk',hv0,<- hN]
     by_cases hvN:(N:Int)<=v
     . rw[Qz (ZN hmv (.inr (by omega)))];simp[h0,h1,h5,h6,h7,hc,hv',hck,hvk',hv0,hvN,<- hN]
     have r1:0<=v:=(by omega);obtain⟨j,rfl⟩:=qq0 r1;have hj:j<N:=(by omega);have hj':(j:Int)<N:=(by omega);have hj1:j+1<=N:=hj;have hg1:=JZ (d:=(g.take i).flatten++x.take k) hj;have hset:=qme (d:=(g.take i).flatten++x.take k) hj;have hcnt:(((g.take i).flatten++x.take k).count (j:Int))<4611686018427387904:=qrW List.count_le_length hcl;obtain⟨q,hq⟩:∃ q,((g.take i).flatten++x.take k).count (j:Int)=q:=⟨_,rfl⟩;rw[hq]at hg1 hset hcnt;have hwq:IntKind.i64.wrap ((q:Int)+1)=q+1:=wr (by omega) (by omega);have ht1:=yV hg1;have htk:x.take (k+1)=x.take k++[(j:Int)]:=(by rw[qqU,hvk];rfl);have hv0':¬ (j:Int)<0:=(by omega);simp[h0,h1,h5,h6,h7,hc,hv',hck,hvk',hv0',hvN,hj,hj',hj1,ht1,hwq,hset,<- hN];refine⟨_,by omega,k+1,by omega,rfl,wr (by omega) (by omega),?_,?_⟩
     . rw[htk]
     . rw[htk,<- qqW];exact hri2.add (by omega) hj'
    | none=>
     have hck:¬ k<x.length:=(by simp at hvk;omega);have ht:x.take k=x:=qqx (by omega);rw[ht]at hri2;have hft:=qbD hgi;simp[h0,h1,h5,h6,h7,hc,hv',hck,hiw];refine⟨_,by omega,i+1,by omega,rfl,rfl,?_,?_,?_⟩
     . rw[hft,ht]
     . intro y hy;rw[qqU,hgi]at hy;rcases qqJ.1 hy with hy|hy
       . exact hne y hy
       . simp at hy;rw[hy];exact hge
     . rw[hft];exact hri2
 | none=>
  have hc:¬ i<g.length:=by simp at hgi;omega
  have ht:g.take i=g:=qqx (by omega);rw[ht]at hne hri;have hgc:=qbs (l:=l) hne (by rw[<- hN];exact hri);simp[h0,h1,h5,h6,hc];refine qx.intro (fun n env U=>∃ i,i<=N/\n=N-i/\env 0=.sl 4 (l.map qz) .none/\env 5=.ms 0 0 N 1/\env 9=.int .i64 i/\U=⟨[.cells (qi3 N g.flatten)],[]⟩/\∀ j:Nat,j<i->g.flatten.count (j:Int)=if yg l j=true then 1 else 0) N ⟨0,by simp[h0,h5,ht]⟩ ?_;clear h0 h1 h5 h6;rintro n env U ⟨j,hj0,rfl,h0,h5,h9,rfl,hall⟩;by_cases hj:j<N
  . have hjl:j<l.length:=(by omega);have hj':(j:Int)<N:=(by omega);have hj1:j+1<=N:=hj;have hg1:=JZ (d:=g.flatten) hj;have ht1:=yV hg1;have next:(g.flatten.count (j:Int)=if yg l j=true then 1 else 0)->∀ q:Nat,q<j+1->g.flatten.count (q:Int)=if yg l q=true then 1 else 0:=fun h q hq=>by
     rcases qrs.1 hq with hq|rfl
     . exact hall q hq
     . exact h
    have bad:¬ (g.flatten.count (j:Int)=if yg l j=true then 1 else 0)->okG l g=false:=fun h=>Qz fun hok=>h (hgc.1 hok j hjl)
    have hrj:yg l (j:Int)=(l[j].mode != 0):=(by simp[yg,qqr hjl]);by_cases m0:l[j].mode=0
    . have hr:yg l (j:Int)=false:=(by rw[hrj];simp[m0]);by_cases hcq:g.flatten.count (j:Int)=0
      . rw[hcq]at ht1;simp[h0,h5,h9,<- hN,hj,hj',hj1,m0,ht1];exact⟨_,by omega,j+1,by omega,rfl,wr (by omega) (by omega),next (by rw[hr,hcq];rfl)⟩
      . have hcq':¬ ((g.flatten.count (j:Int):Nat):Int)=0:=(by omega);rw[bad (by rw[hr];exact hcq)];simp[h0,h5,h9,<- hN,hj,hj',hj1,m0,ht1,hcq']
        try exact fun e=>absurd e hcq
    . have hr:yg l (j:Int)=true:=(by rw[hrj];simp[m0]);by_cases hcq:g.flatten.count (j:Int)=1
      . rw[hcq]at ht1;simp[h0,h5,h9,<- hN,hj,hj',hj1,m0,ht1];exact⟨_,by omega,j+1,by omega,rfl,wr (by omega) (by omega),next (by rw[hr,hcq];rfl)⟩
      . have hcq':¬ ((g.flatten.count (j:Int):Nat):Int)=1:=(by omega);rw[bad (by rw[hr];exact hcq)];simp[h0,h5,h9,<- hN,hj,hj',hj1,m0,ht1,hcq']
        try exact fun e=>absurd e hcq
  . have x:okG l g=true:=Vh (hgc.2 fun q hq=>hall q (by omega));rw[x];simp[h0,h5,h9,<- hN,hj]
theorem qlI (l:List Var)(g:List (List Int))(hv20:l.length<=20)(hg:Fits g)(hgs:∀ x∈g,Fits x)(hfl:g.flatten.length<4611686018427387904):Pure Tryz.prog GG 49 [.sl 4 (l.map qz) .none,.sl 1 (g.map zF) .none] (.bool (okG l g)):=by
 by_cases hv:l=[]
 . subst hv;exact qin g hg
 . exact qim l g hv hv20 hg hgs hfl
end Go.Proofs.YtkpkjbchlabaaaaGreatDoor
end
