import Derived.Test.YtimecmegnocamaaGreatDoorPq22
import Derived.Test.YtimecmegnocamaaGreatDoorPq23
set_option maxRecDepth 100000
set_option linter.all false
set_option linter.defProp false
namespace Go.Proofs.YtimecmegnocamaaGreatDoor
open Go Go.Abs Tryz
def Yk(l:List Var)(i:Nat):List Int:=((List.range i).filter fun(j:Nat)=>yO l (j:Int)).map fun(j:Nat)=>(j:Int)
def Kq{l i}:Yk l (i+1)=if yO l (i:Int)=true then Yk l i++[(i:Int)] else Yk l i:=by
 unfold Yk;rw[qCk,qDY];by_cases h:yO l (i:Int)=true
 . simp[h]
 simp[h]
def qau{l i}:(Yk l i).length<=i:=by
 unfold Yk;rw[qBA];exact qBN (qC6 _ _) (by simp)
noncomputable def qQ(p:Problem):List Int:=if qo p≠0 then [] else Yk p.vars p.vars.length
def qdH(s:List Int):AV:=match s with
 |[]=>.sl 0 [] .nil
 |a::r=>.sl 1 ((a::r).map qh) (.chain 0 (r.length+1))
def qfV(s H):qO (fin H (qdH s))=true/\Leq (fin H (qdH s)) (.sl 1 (s.map qh) .none):=by
 cases s with
 |nil=>simp[qdH,Leq]
 |cons a r=>simp[qdH]
def qcp(s:List Int):List (Option Nat):=match s with
 |[]=>[]
 |_::r=>[some (r.length+1)]
def qjR(p)(h:VQ p):Pure prog GG 61 [.agg (qA p)] (.sl 1 ((qQ p).map qh) .none):=by
 refine qFP qg func61 rfl (by kernel_rfl) ?_;have hv:=ka p h;have hr:∀i,Pure prog GG 112 [.agg [.sl 4 (p.vars.map qM) .none,.sl 4 (p.hard.map qt) .none,.sl 4 (p.soft.map qt) .none,.sl 2 (p.dists.map zs) .none,.sl 1 (p.groups.map qD) .none],.int .i64 i] (.bool (yO p.vars i)):=fun i=>by
  have hr:=jp GG p i;rw[qat]at hr;simpa only[qA] using hr
 simp only[qA]at hv;have hv20:=h.vars;simp;refine qFz hv (by simp) ?_;by_cases h0:qo p=0
 . have x:qQ p=Yk p.vars p.vars.length:=(by simp[qQ,h0]);rw[x];simp[h0];refine qFM (fun q env U=>∃i,i<=p.vars.length/\q=p.vars.length-i/\env 1=.ptr 0 0/\env 3=qdH (Yk p.vars i)/\env 10=.int .i64 p.vars.length/\env 11=.int .i64 i/\U=⟨[.cells (qA p)],qcp (Yk p.vars i)⟩) p.vars.length ⟨0,by simp[Yk,qdH,qcp]⟩ ?_;rintro q env U ⟨i,hi,rfl,h1,h3,h10,h11,rfl⟩;by_cases hc:i<p.vars.length
   . have hc':(i:Int)<p.vars.length:=(by omega);have hlen:=qau (l:=p.vars) (i:=i);have hs:=Kq (l:=p.vars) (i:=i);simp[h1,h3,h10,h11,hc];refine qFz (hr i) (by simp) ?_;cases hri:yO p.vars (i:Int)
     . rw[hri]at hs;simp[h1,h3,h10,h11];exact⟨_,by omega,i+1,by omega,rfl,by rw[hs];rfl,wr (by omega) (by omega),by rw[hs];rfl⟩
     rw[hri,if_pos rfl]at hs;generalize hR:Yk p.vars i=R at h3 hlen hs⊢
     cases R with
     | nil=>
      simp only[qdH]at h3;simp[h1,h3,h10,h11,qcp,qq,qi,qp,za];exact⟨_,by omega,i+1,by omega,rfl,by rw[hs];simp[qdH],wr (by omega) (by omega),by rw[hs];simp[]⟩
     | cons a r=>
      simp only[qdH]at h3;simp[h1,h3,h10,h11,qcp,qq,qi,qp,za,show r.length<=549755813886 by simp at hlen;omega];exact⟨_,by omega,i+1,by omega,rfl,by rw[hs];simp[qdH],wr (by omega) (by omega),by rw[hs];simp[]⟩
   have hi':i=p.vars.length:=(by omega);subst hi';have he:=qfV (Yk p.vars p.vars.length) [.cells (qA p)];simp[h1,h3,h10,h11];simpa using he
 have x:qQ p=[]:=by simp[qQ,h0]
 rw[x];simp[h0,Leq]
def qjQ(p)(h:VQ p)(hv20:p.vars.length<=20)(hfl:p.groups.flatten.length<4611686018427387904):Pure prog GG 30 [.agg (qA p)] (.sl 1 ((qQ p).map qh) .none):=by
 refine qFP qg func30 rfl (by kernel_rfl) ?_;have hv:=Yt p h hfl;simp only[qA]at hv;simp;refine qFz hv (by simp) ?_;by_cases h0:qo p=0
 . have x:qQ p=Yk p.vars p.vars.length:=(by simp[qQ,h0]);rw[x];simp[h0];refine qFM (fun q env U=>∃i,i<=p.vars.length/\q=p.vars.length-i/\env 1=.ptr 0 0/\env 3=qdH (Yk p.vars i)/\env 4=.int .i64 i/\U=⟨[.cells (qA p)],qcp (Yk p.vars i)⟩) p.vars.length ⟨0,by simp[Yk,qdH,qcp]⟩ ?_;rintro q env U ⟨i,hi,rfl,h1,h3,h4,rfl⟩;by_cases hc:i<p.vars.length
   . have hc':(i:Int)<p.vars.length:=(by omega);have hlen:=qau (l:=p.vars) (i:=i);have hs:=Kq (l:=p.vars) (i:=i);have hrr:yO p.vars (i:Int)=(p.vars[i].mode != 0):=(by simp[yO,qAW hc]);by_cases m0:p.vars[i].mode=0
     . have hri:yO p.vars (i:Int)=false:=(by rw[hrr];simp[m0]);rw[hri]at hs;simp[h1,h3,h4,hc,m0];exact⟨_,by omega,i+1,by omega,rfl,by rw[hs];rfl,wr (by omega) (by omega),by rw[hs];rfl⟩
     have hri:yO p.vars (i:Int)=true:=(by rw[hrr];simp[m0]);rw[hri,if_pos rfl]at hs;generalize hR:Yk p.vars i=R at h3 hlen hs⊢
     cases R with
     | nil=>
      simp only[qdH]at h3;simp[h1,h3,h4,hc,m0,qcp,qq,qi,qp,za];exact⟨_,by omega,i+1,by omega,rfl,by rw[hs];simp[qdH],wr (by omega) (by omega),by rw[hs];simp[]⟩
     | cons a r=>
      simp only[qdH]at h3;simp[h1,h3,h4,hc,m0,qcp,qq,qi,qp,za,show r.length<=549755813886 by simp at hlen;omega];exact⟨_,by omega,i+1,by omega,rfl,by rw[hs];simp[qdH],wr (by omega) (by omega),by rw[hs];simp[]⟩
   have hi':i=p.vars.length:=(by omega);subst hi';have he:=qfV (Yk p.vars p.vars.length) [.cells (qA p)];simp[h1,h3,h4];simpa using he
 have x:qQ p=[]:=by simp[qQ,h0]
 rw[x];simp[h0,Leq]
structure VH(p:Problem):Prop where
 names:∀v∈p.vars,Fits v.name
 exprs:∀e∈p.hard++p.soft,Wen e
 dists:Fits p.dists
 weights:∀d∈p.dists,Fits d.weights
 groups:Fits p.groups
 group:∀g∈p.groups,Fits g
def VH.small{p}(h:VH p)(hs:jU p=true):VP p:=by
 simp only[jU,qA1,qCn,qDp,decide_eq_false_iff_not,qA3,decide_eq_true_eq]at hs;obtain⟨⟨⟨⟨⟨⟨⟨⟨a1,a2⟩,a3⟩,a4⟩,a5⟩,b1⟩,b2⟩,b3⟩,b4⟩:=hs;refine⟨by omega,h.names,by omega,by omega,fun e he=>?_,h.dists,h.weights,h.groups,h.group,?_⟩
 . have hb:jq e 0=true:=by
    rcases qBb.1 he with he|he
    . exact b1 e he
    exact b2 e he
   have h1:=qdq e 0 hb;have h2:=qlH hb;exact⟨h.exprs e he,by omega,by omega⟩
 have:∀(g:List (List Int)),(∀x∈g,x.length<=20)->g.flatten.length<=g.length*20:=by
  intro g
  induction g with
  |nil=>simp
  | cons a r ih=>
   intro h;have h1:=h a (by simp);have h2:=ih fun x hx=>h x (by simp[hx])
   simp only[qBI,qAY,qBc];omega
 have:=this p.groups b4;omega
def YU{l i}(h:i<l.length):zP l i=l[i].width:=by simp[zP,qAW h]
def wh(l:List Var)(s:List Int):Int:=s.foldl (fun n i=>IntKind.i64.wrap (n+zP l i.toNat)) 0
def ZN{p i}(h:i∈qQ p):0<=i/\i<p.vars.length:=by
 unfold qQ at h;split at h
 . cases h
 unfold Yk at h;obtain⟨j,hj,rfl⟩:=qBj.1 h;have:=qCd.1 (qCc.1 hj).1;omega
def J0(p)(h:p.vars.length<=20):(qQ p).length<=20:=by
 unfold qQ;split
 . simp
 exact qBN qau h
def qfr{l}{s:List Int}{i}{v:Int}(h:s[i]?=some v):wh l (s.take (i+1))=IntKind.i64.wrap (wh l (s.take i)+zP l v.toNat):=by
 unfold wh;rw[qBi,h,qBX];rfl
def qs7(p)(h:VQ p)(hv20:p.vars.length<=20)(hfl:p.groups.flatten.length<4611686018427387904):Pure prog GG 10 [.agg (qA p)] (.int .i64 (wh p.vars (qQ p))):=by
 refine qFP qg func10 rfl (by kernel_rfl) ?_;have hv:=qjQ p h hv20 hfl;have hlen:=J0 p hv20;have hrg:∀i∈qQ p,0<=i/\i<p.vars.length:=fun i hi=>ZN hi
 simp only[qA]at hv;generalize qQ p=R at hv hlen hrg⊢;simp;refine qFz hv (by simp) ?_
 try simp
 refine qFM (fun q env U=>∃i,i<=R.length/\q=R.length-i/\env 1=.ptr 0 0/\env 3=.sl 1 (R.map qh) .none/\env 4=.int .i64 (wh p.vars (R.take i))/\env 5=.int .i64 i/\U=⟨[.cells (qA p)],[]⟩) R.length ⟨0,by simp[wh]⟩ ?_;rintro q env U ⟨i,hi,rfl,h1,h3,h4,h5,rfl⟩
 cases hvi:R[i]? with
 | some v=>
  obtain⟨hc,hv'⟩:=qAU.1 hvi;obtain⟨r1,r2⟩:=hrg v (qAV hvi);obtain⟨j,rfl⟩:=qBe r1;have hj:j<p.vars.length:=by omega
  have hs:=qfr (l:=p.vars) hvi;simp only[qBu]at hs;rw[YU hj]at hs;simp[h1,h3,h4,h5,hc,hv',hj];exact⟨_,by omega,i+1,by omega,rfl,by rw[hs],wr (by omega) (by omega)⟩
 | none=>
  have hc:¬i<R.length:=by simp at hvi;omega
  have ht:R.take i=R:=qAZ (by omega);rw[ht]at h4;simp[h1,h3,h4,h5,hc]
def qvV(p)(h:VP p):Pure prog GG 10 [.agg (qA p)] (.int .i64 (wh p.vars (qQ p))):=qs7 p h.q h.vars20 (by have:=h.flat;omega)
structure VM(p):Prop where
 h:VH p
 vars:Fits p.vars
 hard:Fits p.hard
 soft:Fits p.soft
 grp:∀g∈p.groups,g.length<17592186044416
