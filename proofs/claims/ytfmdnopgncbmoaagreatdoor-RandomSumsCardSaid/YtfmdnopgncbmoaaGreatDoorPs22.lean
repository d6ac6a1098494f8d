import Derived.Test.YtfmdnopgncbmoaaGreatDoorPs20
import Derived.Test.YtfmdnopgncbmoaaGreatDoorPs21
set_option maxRecDepth 100000
set_option linter.all false
set_option linter.defProp false
namespace Go.Proofs.YtfmdnopgncbmoaaGreatDoor
open Go Go.Abs Tryz
def Jw(l:List Var)(i:Nat):List Int:=((List.range i).filter fun(j:Nat)=>yo l (j:Int)).map fun(j:Nat)=>(j:Int)
def Yn{l i}:Jw l (i+1)=if yo l (i:Int)=true then Jw l i++[(i:Int)] else Jw l i:=by
 unfold Jw;rw[qAc,List.filter_append];by_cases h:yo l (i:Int)=true
 . simp[h]
 simp[h]
def W8{l i}:(Jw l i).length<=i:=by
 unfold Jw;rw[qzk];exact qzs (qBM _ _) (by simp)
noncomputable def qB(p:Problem):List Int:=if qk p≠0 then [] else Jw p.vars p.vars.length
def qcc(s:List Int):AV:=match s with
 |[]=>.sl 0 [] .nil
 |a::r=>.sl 1 ((a::r).map qq) (.chain 0 (r.length+1))
def qd9(s H):zb (fin H (qcc s))=true/\Leq (fin H (qcc s)) (.sl 1 (s.map qq) .none):=by
 cases s with
 |nil=>simp[qcc,Leq]
 |cons a r=>simp[qcc]
def qa3(s:List Int):List (Option Nat):=match s with
 |[]=>[]
 |_::r=>[some (r.length+1)]
def qhI(p)(h:VQ p):Pure prog GG 43 [.agg (qA p)] (.sl 1 ((qB p).map qq) .none):=by
 refine qDb qe func43 rfl (by kernel_rfl) ?_;have hv:=yw p h;have hr:∀i,Pure prog GG 86 [.agg [.sl 4 (p.vars.map qD) .none,.sl 4 (p.hard.map qt) .none,.sl 4 (p.soft.map qt) .none,.sl 2 (p.dists.map zF) .none,.sl 1 (p.groups.map zJ) .none],.int .i64 i] (.bool (yo p.vars i)):=fun i=>by
  have hr:=jc GG p i;rw[W7]at hr;simpa only[qA] using hr
 simp only[qA]at hv;have hv20:=h.vars;simp;refine qCW hv (by simp) ?_;by_cases h0:qk p=0
 . have x:qB p=Jw p.vars p.vars.length:=(by simp[qB,h0]);rw[x];simp[h0];refine qC9 (fun q env U=>∃i,i<=p.vars.length/\q=p.vars.length-i/\env 1=.ptr 0 0/\env 3=qcc (Jw p.vars i)/\env 10=.int .i64 p.vars.length/\env 11=.int .i64 i/\U=⟨[.cells (qA p)],qa3 (Jw p.vars i)⟩) p.vars.length ⟨0,by simp[Jw,qcc,qa3]⟩ ?_;rintro q env U ⟨i,hi,rfl,h1,h3,h10,h11,rfl⟩;by_cases hc:i<p.vars.length
   . have hc':(i:Int)<p.vars.length:=(by omega);have hlen:=W8 (l:=p.vars) (i:=i);have hs:=Yn (l:=p.vars) (i:=i);simp[h1,h3,h10,h11,hc];refine qCW (hr i) (by simp) ?_;cases hri:yo p.vars (i:Int)
     . rw[hri]at hs;simp[h1,h3,h10,h11];exact⟨_,by omega,i+1,by omega,rfl,by rw[hs];rfl,wr (by omega) (by omega),by rw[hs];rfl⟩
     rw[hri,if_pos rfl]at hs;generalize hR:Jw p.vars i=R at h3 hlen hs⊢
     cases R with
     | nil=>
      simp only[qcc]at h3;simp[h1,h3,h10,h11,qa3,qL,qj,qs,zK];exact⟨_,by omega,i+1,by omega,rfl,by rw[hs];simp[qcc],wr (by omega) (by omega),by rw[hs];simp[]⟩
     | cons a r=>
      simp only[qcc]at h3;simp[h1,h3,h10,h11,qa3,qL,qj,qs,zK,show r.length<=549755813886 by simp at hlen;omega];exact⟨_,by omega,i+1,by omega,rfl,by rw[hs];simp[qcc],wr (by omega) (by omega),by rw[hs];simp[]⟩
   have hi':i=p.vars.length:=(by omega);subst hi';have he:=qd9 (Jw p.vars p.vars.length) [.cells (qA p)];simp[h1,h3,h10,h11];simpa using he
 have x:qB p=[]:=by simp[qB,h0]
 rw[x];simp[h0,Leq]
def qhH(p)(h:VQ p)(hv20:p.vars.length<=20)(hfl:p.groups.flatten.length<4611686018427387904):Pure prog GG 67 [.agg (qA p)] (.sl 1 ((qB p).map qq) .none):=by
 refine qDb qe func67 rfl (by kernel_rfl) ?_;have hv:=qdy p h hfl;simp only[qA]at hv;simp;refine qCW hv (by simp) ?_;by_cases h0:qk p=0
 . have x:qB p=Jw p.vars p.vars.length:=(by simp[qB,h0]);rw[x];simp[h0];refine qC9 (fun q env U=>∃i,i<=p.vars.length/\q=p.vars.length-i/\env 1=.ptr 0 0/\env 3=qcc (Jw p.vars i)/\env 4=.int .i64 i/\U=⟨[.cells (qA p)],qa3 (Jw p.vars i)⟩) p.vars.length ⟨0,by simp[Jw,qcc,qa3]⟩ ?_;rintro q env U ⟨i,hi,rfl,h1,h3,h4,rfl⟩;by_cases hc:i<p.vars.length
   . have hc':(i:Int)<p.vars.length:=(by omega);have hlen:=W8 (l:=p.vars) (i:=i);have hs:=Yn (l:=p.vars) (i:=i);have hrr:yo p.vars (i:Int)=(p.vars[i].mode != 0):=(by simp[yo,qyH hc]);by_cases m0:p.vars[i].mode=0
     . have hri:yo p.vars (i:Int)=false:=(by rw[hrr];simp[m0]);rw[hri]at hs;simp[h1,h3,h4,hc,m0];exact⟨_,by omega,i+1,by omega,rfl,by rw[hs];rfl,wr (by omega) (by omega),by rw[hs];rfl⟩
     have hri:yo p.vars (i:Int)=true:=(by rw[hrr];simp[m0]);rw[hri,if_pos rfl]at hs;generalize hR:Jw p.vars i=R at h3 hlen hs⊢
     cases R with
     | nil=>
      simp only[qcc]at h3;simp[h1,h3,h4,hc,m0,qa3,qL,qj,qs,zK];exact⟨_,by omega,i+1,by omega,rfl,by rw[hs];simp[qcc],wr (by omega) (by omega),by rw[hs];simp[]⟩
     | cons a r=>
      simp only[qcc]at h3;simp[h1,h3,h4,hc,m0,qa3,qL,qj,qs,zK,show r.length<=549755813886 by simp at hlen;omega];exact⟨_,by omega,i+1,by omega,rfl,by rw[hs];simp[qcc],wr (by omega) (by omega),by rw[hs];simp[]⟩
   have hi':i=p.vars.length:=(by omega);subst hi';have he:=qd9 (Jw p.vars p.vars.length) [.cells (qA p)];simp[h1,h3,h4];simpa using he
 have x:qB p=[]:=by simp[qB,h0]
 rw[x];simp[h0,Leq]
structure VH(p:Problem):Prop where
 names:∀v∈p.vars,Fits v.name
 exprs:∀e∈p.hard++p.soft,Wen e
 dists:Fits p.dists
 weights:∀d∈p.dists,Fits d.weights
 groups:Fits p.groups
 group:∀g∈p.groups,Fits g
def VH.small{p}(h:VH p)(hs:jA p=true):VP p:=by
 simp only[jA,qyJ,qz4,qBS,decide_eq_false_iff_not,qyP,decide_eq_true_eq]at hs;obtain⟨⟨⟨⟨⟨⟨⟨⟨a1,a2⟩,a3⟩,a4⟩,a5⟩,b1⟩,b2⟩,b3⟩,b4⟩:=hs;refine⟨by omega,h.names,by omega,by omega,fun e he=>?_,h.dists,h.weights,h.groups,h.group,?_⟩
 . have hb:je e 0=true:=by
    rcases qy0.1 he with he|he
    . exact b1 e he
    exact b2 e he
   have h1:=qbV e 0 hb;have h2:=qjA hb;exact⟨h.exprs e he,by omega,by omega⟩
 have:∀(g:List (List Int)),(∀x∈g,x.length<=20)->g.flatten.length<=g.length*20:=by
  intro g
  induction g with
  |nil=>simp
  | cons a r ih=>
   intro h;have h1:=h a (by simp);have h2:=ih fun x hx=>h x (by simp[hx])
   simp only[qzn,qyK,qyY];omega
 have:=this p.groups b4;omega
def J3{l i}(h:i<l.length):zE l i=l[i].width:=by simp[zE,qyH h]
def ku(l:List Var)(s:List Int):Int:=s.foldl (fun n i=>IntKind.i64.wrap (n+zE l i.toNat)) 0
def QY{p i}(h:i∈qB p):0<=i/\i<p.vars.length:=by
 unfold qB at h;split at h
 . cases h
 unfold Jw at h;obtain⟨j,hj,rfl⟩:=qza.1 h;have:=qzP.1 (qBN.1 hj).1;omega
def Jf(p)(h:p.vars.length<=20):(qB p).length<=20:=by
 unfold qB;split
 . simp
 exact qzs W8 h
def qdG{l}{s:List Int}{i}{v:Int}(h:s[i]?=some v):ku l (s.take (i+1))=IntKind.i64.wrap (ku l (s.take i)+zE l v.toNat):=by
 unfold ku;rw[qzb,h,qz5];rfl
def qqH(p)(h:VQ p)(hv20:p.vars.length<=20)(hfl:p.groups.flatten.length<4611686018427387904):Pure prog GG 32 [.agg (qA p)] (.int .i64 (ku p.vars (qB p))):=by
 refine qDb qe func32 rfl (by kernel_rfl) ?_;have hv:=qhH p h hv20 hfl;have hlen:=Jf p hv20;have hrg:∀i∈qB p,0<=i/\i<p.vars.length:=fun i hi=>QY hi
 simp only[qA]at hv;generalize qB p=R at hv hlen hrg⊢;simp;refine qCW hv (by simp) ?_
 try simp
 refine qC9 (fun q env U=>∃i,i<=R.length/\q=R.length-i/\env 1=.ptr 0 0/\env 3=.sl 1 (R.map qq) .none/\env 4=.int .i64 (ku p.vars (R.take i))/\env 5=.int .i64 i/\U=⟨[.cells (qA p)],[]⟩) R.length ⟨0,by simp[ku]⟩ ?_;rintro q env U ⟨i,hi,rfl,h1,h3,h4,h5,rfl⟩
 cases hvi:R[i]? with
 | some v=>
  obtain⟨hc,hv'⟩:=qyF.1 hvi;obtain⟨r1,r2⟩:=hrg v (qyG hvi);obtain⟨j,rfl⟩:=qzg r1;have hj:j<p.vars.length:=by omega
  have hs:=qdG (l:=p.vars) hvi;simp only[qzt]at hs;rw[J3 hj]at hs;simp[h1,h3,h4,h5,hc,hv',hj];exact⟨_,by omega,i+1,by omega,rfl,by rw[hs],wr (by omega) (by omega)⟩
 | none=>
  have hc:¬i<R.length:=by simp at hvi;omega
  have ht:R.take i=R:=qyN (by omega);rw[ht]at h4;simp[h1,h3,h4,h5,hc]
def qtt(p)(h:VP p):Pure prog GG 32 [.agg (qA p)] (.int .i64 (ku p.vars (qB p))):=qqH p h.q h.vars20 (by have:=h.flat;omega)
structure VM(p):Prop where
 h:VH p
 vars:Fits p.vars
 hard:Fits p.hard
 soft:Fits p.soft
 grp:∀g∈p.groups,g.length<17592186044416
