import Derived.Test.YtafbccendejkeaaGreatDoorPt17
import Derived.Test.YtafbccendejkeaaGreatDoorPt18
set_option maxRecDepth 100000
set_option linter.all false
set_option linter.defProp false
namespace Go.Proofs.YtafbccendejkeaaGreatDoor
open Go Go.Abs Tryz
def Yi(l:List Var)(i:Nat):List Int:=((List.range i).filter fun(j:Nat)=>yG l (j:Int)).map fun(j:Nat)=>(j:Int)
def Kl{l i}:Yi l (i+1)=if yG l (i:Int)=true then Yi l i++[(i:Int)] else Yi l i:=by
 unfold Yi;rw[qBF,qDh];by_cases h:yG l (i:Int)=true
 . simp[h]
 simp[h]
def qaq{l i}:(Yi l i).length<=i:=by
 unfold Yi;rw[qAY];exact qBf (qCq _ _) (by simp)
noncomputable def qK(p:Problem):List Int:=if qk p≠0 then [] else Yi p.vars p.vars.length
def qdy(s:List Int):AV:=match s with
 |[]=>.sl 0 [] .nil
 |a::r=>.sl 1 ((a::r).map qh) (.chain 0 (r.length+1))
def qfS(s H):qO (fin H (qdy s))=true/\Leq (fin H (qdy s)) (.sl 1 (s.map qh) .none):=by
 cases s with
 |nil=>simp[qdy,Leq]
 |cons a r=>simp[qdy]
def qck(s:List Int):List (Option Nat):=match s with
 |[]=>[]
 |_::r=>[some (r.length+1)]
def qjB(p)(h:VQ p):Pure prog GG 53 [.agg (qt p)] (.sl 1 ((qK p).map qh) .none):=by
 refine qE9 qe func53 rfl (by kernel_rfl) ?_;have hv:=yW p h;have hr:∀i,Pure prog GG 97 [.agg [.sl 4 (p.vars.map qJ) .none,.sl 4 (p.hard.map qp) .none,.sl 4 (p.soft.map qp) .none,.sl 2 (p.dists.map zl) .none,.sl 1 (p.groups.map qx) .none],.int .i64 i] (.bool (yG p.vars i)):=fun i=>by
  have hr:=jm GG p i;rw[qap]at hr;simpa only[qt] using hr
 simp only[qt]at hv;have hv20:=h.vars;simp;refine qET hv (by simp) ?_;by_cases h0:qk p=0
 . have x:qK p=Yi p.vars p.vars.length:=(by simp[qK,h0]);rw[x];simp[h0];refine qE6 (fun q env U=>∃i,i<=p.vars.length/\q=p.vars.length-i/\env 1=.ptr 0 0/\env 3=qdy (Yi p.vars i)/\env 10=.int .i64 p.vars.length/\env 11=.int .i64 i/\U=⟨[.cells (qt p)],qck (Yi p.vars i)⟩) p.vars.length ⟨0,by simp[Yi,qdy,qck]⟩ ?_;rintro q env U ⟨i,hi,rfl,h1,h3,h10,h11,rfl⟩;by_cases hc:i<p.vars.length
   . have hc':(i:Int)<p.vars.length:=(by omega);have hlen:=qaq (l:=p.vars) (i:=i);have hs:=Kl (l:=p.vars) (i:=i);simp[h1,h3,h10,h11,hc];refine qET (hr i) (by simp) ?_;cases hri:yG p.vars (i:Int)
     . rw[hri]at hs;simp[h1,h3,h10,h11];exact⟨_,by omega,i+1,by omega,rfl,by rw[hs];rfl,wr (by omega) (by omega),by rw[hs];rfl⟩
     rw[hri,if_pos rfl]at hs;generalize hR:Yi p.vars i=R at h3 hlen hs⊢
     cases R with
     | nil=>
      simp only[qdy]at h3;simp[h1,h3,h10,h11,qck,qr,qf,qm,qY];exact⟨_,by omega,i+1,by omega,rfl,by rw[hs];simp[qdy],wr (by omega) (by omega),by rw[hs];simp[]⟩
     | cons a r=>
      simp only[qdy]at h3;simp[h1,h3,h10,h11,qck,qr,qf,qm,qY,show r.length<=549755813886 by simp at hlen;omega];exact⟨_,by omega,i+1,by omega,rfl,by rw[hs];simp[qdy],wr (by omega) (by omega),by rw[hs];simp[]⟩
   have hi':i=p.vars.length:=(by omega);subst hi';have he:=qfS (Yi p.vars p.vars.length) [.cells (qt p)];simp[h1,h3,h10,h11];simpa using he
 have x:qK p=[]:=by simp[qK,h0]
 rw[x];simp[h0,Leq]
def qjA(p)(h:VQ p)(hv20:p.vars.length<=20)(hfl:p.groups.flatten.length<4611686018427387904):Pure prog GG 34 [.agg (qt p)] (.sl 1 ((qK p).map qh) .none):=by
 refine qE9 qe func34 rfl (by kernel_rfl) ?_;have hv:=Yr p h hfl;simp only[qt]at hv;simp;refine qET hv (by simp) ?_;by_cases h0:qk p=0
 . have x:qK p=Yi p.vars p.vars.length:=(by simp[qK,h0]);rw[x];simp[h0];refine qE6 (fun q env U=>∃i,i<=p.vars.length/\q=p.vars.length-i/\env 1=.ptr 0 0/\env 3=qdy (Yi p.vars i)/\env 4=.int .i64 i/\U=⟨[.cells (qt p)],qck (Yi p.vars i)⟩) p.vars.length ⟨0,by simp[Yi,qdy,qck]⟩ ?_;rintro q env U ⟨i,hi,rfl,h1,h3,h4,rfl⟩;by_cases hc:i<p.vars.length
   . have hc':(i:Int)<p.vars.length:=(by omega);have hlen:=qaq (l:=p.vars) (i:=i);have hs:=Kl (l:=p.vars) (i:=i);have hrr:yG p.vars (i:Int)=(p.vars[i].mode != 0):=(by simp[yG,qAo hc]);by_cases m0:p.vars[i].mode=0
     . have hri:yG p.vars (i:Int)=false:=(by rw[hrr];simp[m0]);rw[hri]at hs;simp[h1,h3,h4,hc,m0];exact⟨_,by omega,i+1,by omega,rfl,by rw[hs];rfl,wr (by omega) (by omega),by rw[hs];rfl⟩
     have hri:yG p.vars (i:Int)=true:=(by rw[hrr];simp[m0]);rw[hri,if_pos rfl]at hs;generalize hR:Yi p.vars i=R at h3 hlen hs⊢
     cases R with
     | nil=>
      simp only[qdy]at h3;simp[h1,h3,h4,hc,m0,qck,qr,qf,qm,qY];exact⟨_,by omega,i+1,by omega,rfl,by rw[hs];simp[qdy],wr (by omega) (by omega),by rw[hs];simp[]⟩
     | cons a r=>
      simp only[qdy]at h3;simp[h1,h3,h4,hc,m0,qck,qr,qf,qm,qY,show r.length<=549755813886 by simp at hlen;omega];exact⟨_,by omega,i+1,by omega,rfl,by rw[hs];simp[qdy],wr (by omega) (by omega),by rw[hs];simp[]⟩
   have hi':i=p.vars.length:=(by omega);subst hi';have he:=qfS (Yi p.vars p.vars.length) [.cells (qt p)];simp[h1,h3,h4];simpa using he
 have x:qK p=[]:=by simp[qK,h0]
 rw[x];simp[h0,Leq]
structure VH(p:Problem):Prop where
 names:∀v∈p.vars,Fits v.name
 exprs:∀e∈p.hard++p.soft,Wen e
 dists:Fits p.dists
 weights:∀d∈p.dists,Fits d.weights
 groups:Fits p.groups
 group:∀g∈p.groups,Fits g
def VH.small{p}(h:VH p)(hs:jR p=true):VP p:=by
 simp only[jR,qAr,qBO,qCI,decide_eq_false_iff_not,qAv,decide_eq_true_eq]at hs;obtain⟨⟨⟨⟨⟨⟨⟨⟨a1,a2⟩,a3⟩,a4⟩,a5⟩,b1⟩,b2⟩,b3⟩,b4⟩:=hs;refine⟨by omega,h.names,by omega,by omega,fun e he=>?_,h.dists,h.weights,h.groups,h.group,?_⟩
 . have hb:jn e 0=true:=by
    rcases qAC.1 he with he|he
    . exact b1 e he
    exact b2 e he
   have h1:=qdg e 0 hb;have h2:=qln hb;exact⟨h.exprs e he,by omega,by omega⟩
 have:∀(g:List (List Int)),(∀x∈g,x.length<=20)->g.flatten.length<=g.length*20:=by
  intro g
  induction g with
  |nil=>simp
  | cons a r ih=>
   intro h;have h1:=h a (by simp);have h2:=ih fun x hx=>h x (by simp[hx])
   simp only[qBb,qAq,qAD];omega
 have:=this p.groups b4;omega
def YQ{l i}(h:i<l.length):zM l i=l[i].width:=by simp[zM,qAo h]
def kl(l:List Var)(s:List Int):Int:=s.foldl (fun n i=>IntKind.i64.wrap (n+zM l i.toNat)) 0
def ZJ{p i}(h:i∈qK p):0<=i/\i<p.vars.length:=by
 unfold qK at h;split at h
 . cases h
 unfold Yi at h;obtain⟨j,hj,rfl⟩:=qAN.1 h;have:=qBq.1 (qBu.1 hj).1;omega
def JV(p)(h:p.vars.length<=20):(qK p).length<=20:=by
 unfold qK;split
 . simp
 exact qBf qaq h
def qfn{l}{s:List Int}{i}{v:Int}(h:s[i]?=some v):kl l (s.take (i+1))=IntKind.i64.wrap (kl l (s.take i)+zM l v.toNat):=by
 unfold kl;rw[qAT,h,qBj];rfl
def qsL(p)(h:VQ p)(hv20:p.vars.length<=20)(hfl:p.groups.flatten.length<4611686018427387904):Pure prog GG 18 [.agg (qt p)] (.int .i64 (kl p.vars (qK p))):=by
 refine qE9 qe func18 rfl (by kernel_rfl) ?_;have hv:=qjA p h hv20 hfl;have hlen:=JV p hv20;have hrg:∀i∈qK p,0<=i/\i<p.vars.length:=fun i hi=>ZJ hi
 simp only[qt]at hv;generalize qK p=R at hv hlen hrg⊢;simp;refine qET hv (by simp) ?_
 try simp
 refine qE6 (fun q env U=>∃i,i<=R.length/\q=R.length-i/\env 1=.ptr 0 0/\env 3=.sl 1 (R.map qh) .none/\env 4=.int .i64 (kl p.vars (R.take i))/\env 5=.int .i64 i/\U=⟨[.cells (qt p)],[]⟩) R.length ⟨0,by simp[kl]⟩ ?_;rintro q env U ⟨i,hi,rfl,h1,h3,h4,h5,rfl⟩
 cases hvi:R[i]? with
 | some v=>
  obtain⟨hc,hv'⟩:=qAm.1 hvi;obtain⟨r1,r2⟩:=hrg v (qAn hvi);obtain⟨j,rfl⟩:=qAH r1;have hj:j<p.vars.length:=by omega
  have hs:=qfn (l:=p.vars) hvi;simp only[qAS]at hs;rw[YQ hj]at hs;simp[h1,h3,h4,h5,hc,hv',hj];exact⟨_,by omega,i+1,by omega,rfl,by rw[hs],wr (by omega) (by omega)⟩
 | none=>
  have hc:¬i<R.length:=by simp at hvi;omega
  have ht:R.take i=R:=qAs (by omega);rw[ht]at h4;simp[h1,h3,h4,h5,hc]
def qvo(p)(h:VP p):Pure prog GG 18 [.agg (qt p)] (.int .i64 (kl p.vars (qK p))):=qsL p h.q h.vars20 (by have:=h.flat;omega)
structure VM(p):Prop where
 h:VH p
 vars:Fits p.vars
 hard:Fits p.hard
 soft:Fits p.soft
 grp:∀g∈p.groups,g.length<17592186044416
