/- A part of the proof. -/
import Derived.Test.YtkpkjbchlabaaaaGreatDoorDa16
import Derived.Test.YtkpkjbchlabaaaaGreatDoorDa17
set_option linter.unusedVariables false
set_option linter.unusedSimpArgs false
set_option maxRecDepth 100000
set_option linter.defProp false
section
namespace Go.Proofs.YtkpkjbchlabaaaaGreatDoor
open Go Go.Abs
def Z5 (l:List Var)(i:Nat):List Int:=((List.range i).filter fun (j:Nat)=>ye l (j:Int)).map fun (j:Nat)=>(j:Int)
theorem JV {l:List Var}{i:Nat}:Z5 l (i+1)=if ye l (i:Int)=true then Z5 l i++[(i:Int)] else Z5 l i:=by
 unfold Z5;rw[qqe,List.filter_append];by_cases h:ye l (i:Int)=true
 . simp[h]
 . simp[h]
theorem Wo {l:List Var}{i:Nat}:(Z5 l i).length<=i:=by
 unfold Z5;rw[qpv];exact qpL (qrE _ _) (by simp)
noncomputable def qx (p:Problem):List Int:=if qk p≠0 then [] else Z5 p.vars p.vars.length
def qa9 (s:List Int):AV:=match s with
 | []=>.sl 0 [] .nil
 | a::r=>.sl 1 ((a::r).map qu) (.chain 0 (r.length+1))
theorem qc8 (s:List Int)(H:List Blk):q9 (fin H (qa9 s))=true/\Leq (fin H (qa9 s)) (.sl 1 (s.map qu) .none):=by
 cases s with
 | nil=>simp[qa9,Leq]
 | cons a r=>simp[qa9,Leq]
def Z7 (s:List Int):List (Option Nat):=match s with
 | []=>[]
 | _::r=>[some (r.length+1)]
theorem qgg (p:Problem)(h:VQ p):Pure Tryz.prog GG 55 [.agg (qG p)] (.sl 1 ((qx p).map qu) .none):=by
 refine Pure.vc qe Tryz.func55 rfl (by kernel_rfl) ?_;have hv:=yh p h;have hr:∀ i,Pure Tryz.prog GG 107 [.agg [.sl 4 (p.vars.map qC) .none,.sl 4 (p.hard.map qq) .none,.sl 4 (p.soft.map qq) .none,.sl 2 (p.dists.map zG) .none,.sl 1 (p.groups.map zF) .none],.int .i64 i] (.bool (ye p.vars i)):=fun i=>by
  have hr:=z6 GG p i;rw[Wn]at hr;simpa only[qG] using hr
 simp only[qG]at hv;have hv20:=h.vars;simp;refine qb.call hv (by simp) ?_;by_cases h0:qk p=0
 . have x:qx p=Z5 p.vars p.vars.length:=(by simp[qx,h0]);rw[x];simp[h0];refine qv.intro (fun q env U=>∃ i,i<=p.vars.length/\q=p.vars.length-i/\env 1=.ptr 0 0/\env 3=qa9 (Z5 p.vars i)/\env 10=.int .i64 p.vars.length/\env 11=.int .i64 i/\U=⟨[.cells (qG p)],Z7 (Z5 p.vars i)⟩) p.vars.length ⟨0,by simp[Z5,qa9,Z7]⟩ ?_;rintro q env U ⟨i,hi,rfl,h1,h3,h10,h11,rfl⟩;by_cases hc:i<p.vars.length
   . have hc':(i:Int)<p.vars.length:=(by omega);have hlen:=Wo (l:=p.vars) (i:=i);have hs:=JV (l:=p.vars) (i:=i);simp[h1,h3,h10,h11,hc];refine qb.call (hr i) (by simp) ?_;cases hri:ye p.vars (i:Int)
     . rw[hri]at hs;simp[h1,h3,h10,h11];exact⟨_,by omega,i+1,by omega,rfl,by rw[hs];rfl,wr (by omega) (by omega),by rw[hs];rfl⟩
     . rw[hri,if_pos rfl]at hs;generalize hR:Z5 p.vars i=R at h3 hlen hs ⊢
       cases R with
       | nil=>
        simp only[qa9]at h3;simp[h1,h3,h10,h11,Z7,qK,qj,qs,zM];exact⟨_,by omega,i+1,by omega,rfl,by rw[hs];simp[qa9],wr (by omega) (by omega),by rw[hs];simp[Z7]⟩
       | cons a r=>
        have hb:r.length<=549755813886:=(by simp at hlen;omega);simp only[qa9]at h3;simp[h1,h3,h10,h11,Z7,qK,qj,qs,zM,hb];exact⟨_,by omega,i+1,by omega,rfl,by rw[hs];simp[qa9],wr (by omega) (by omega),by rw[hs];simp[Z7]⟩
   . have hi':i=p.vars.length:=(by omega);subst hi';have he:=qc8 (Z5 p.vars p.vars.length) [.cells (qG p)];simp[h1,h3,h10,h11];simpa using he
 . have x:qx p=[]:=(by simp[qx,h0]);rw[x];simp[h0,Leq]
theorem qgf (p:Problem)(h:VQ p)(hv20:p.vars.length<=20)(hfl:p.groups.flatten.length<4611686018427387904):Pure Tryz.prog GG 92 [.agg (qG p)] (.sl 1 ((qx p).map qu) .none):=by
 refine Pure.vc qe Tryz.func92 rfl (by kernel_rfl) ?_;have hv:=qcA p h hfl;simp only[qG]at hv;simp;refine qb.call hv (by simp) ?_;by_cases h0:qk p=0
 . have x:qx p=Z5 p.vars p.vars.length:=(by simp[qx,h0]);rw[x];simp[h0];refine qv.intro (fun q env U=>∃ i,i<=p.vars.length/\q=p.vars.length-i/\env 1=.ptr 0 0/\env 3=qa9 (Z5 p.vars i)/\env 4=.int .i64 i/\U=⟨[.cells (qG p)],Z7 (Z5 p.vars i)⟩) p.vars.length ⟨0,by simp[Z5,qa9,Z7]⟩ ?_;rintro q env U ⟨i,hi,rfl,h1,h3,h4,rfl⟩;by_cases hc:i<p.vars.length
   . have hc':(i:Int)<p.vars.length:=(by omega);have hlen:=Wo (l:=p.vars) (i:=i);have hs:=JV (l:=p.vars) (i:=i);have hrr:ye p.vars (i:Int)=(p.vars[i].mode != 0):=(by simp[ye,qoS hc]);by_cases m0:p.vars[i].mode=0
     . have hri:ye p.vars (i:Int)=false:=(by rw[hrr];simp[m0]);rw[hri]at hs;simp[h1,h3,h4,hc,m0];exact⟨_,by omega,i+1,by omega,rfl,by rw[hs];rfl,wr (by omega) (by omega),by rw[hs];rfl⟩
     . have hri:ye p.vars (i:Int)=true:=(by rw[hrr];simp[m0]);rw[hri,if_pos rfl]at hs;generalize hR:Z5 p.vars i=R at h3 hlen hs ⊢
       cases R with
       | nil=>
        simp only[qa9]at h3;simp[h1,h3,h4,hc,m0,Z7,qK,qj,qs,zM];exact⟨_,by omega,i+1,by omega,rfl,by rw[hs];simp[qa9],wr (by omega) (by omega),by rw[hs];simp[Z7]⟩
       | cons a r=>
        have hb:r.length<=549755813886:=(by simp at hlen;omega);simp only[qa9]at h3;simp[h1,h3,h4,hc,m0,Z7,qK,qj,qs,zM,hb];exact⟨_,by omega,i+1,by omega,rfl,by rw[hs];simp[qa9],wr (by omega) (by omega),by rw[hs];simp[Z7]⟩
   . have hi':i=p.vars.length:=(by omega);subst hi';have he:=qc8 (Z5 p.vars p.vars.length) [.cells (qG p)];simp[h1,h3,h4];simpa using he
 . have x:qx p=[]:=(by simp[qx,h0]);rw[x];simp[h0,Leq]
structure VH (p:Problem):Prop where
 names:∀ v∈p.vars,Fits v.name
 exprs:∀ e∈p.hard++p.soft,Wen e
 dists:Fits p.dists
 weights:∀ d∈p.dists,Fits d.weights
 groups:Fits p.groups
 group:∀ g∈p.groups,Fits g
theorem VH.small {p:Problem}(h:VH p)(hs:ju p=true):VP p:=by
 simp only[ju,qoW,qp4,qrJ,decide_eq_false_iff_not,qo1,decide_eq_true_eq]at hs;obtain⟨⟨⟨⟨⟨⟨⟨⟨a1,a2⟩,a3⟩,a4⟩,a5⟩,b1⟩,b2⟩,b3⟩,b4⟩:=hs;refine⟨by omega,h.names,by omega,by omega,fun e he=>?_,h.dists,h.weights,h.groups,h.group,?_⟩
 . have hb:z7 e 0=true:=by
    rcases qpg.1 he with he|he
    . exact b1 e he
    . exact b2 e he
   have h1:=qaU e 0 hb;have h2:=qhX hb;exact⟨h.exprs e he,by omega,by omega⟩
 . have:∀ (g:List (List Int)),(∀ x∈g,x.length<=20)->g.flatten.length<=g.length*20:=by
    intro g
    induction g with
    | nil=>simp
    | cons a r ih=>
     intro h;have h1:=h a (by simp);have h2:=ih fun x hx=>h x (by simp[hx])
     simp only[qpw,qoV,qo7];omega
   have:=this p.groups b4;omega
theorem JB {l:List Var}{i:Nat}(h:i<l.length):zE l i=l[i].width:=by simp[zE,qoS h]
def yW (l:List Var)(s:List Int):Int:=s.foldl (fun n i=>IntKind.i64.wrap (n+zE l i.toNat)) 0
theorem Qy {p:Problem}{i:Int}(h:i∈qx p):0<=i/\i<p.vars.length:=by
 unfold qx at h;split at h
 . cases h
 . unfold Z5 at h;obtain⟨j,hj,rfl⟩:=qpi.1 h;have:=qpZ.1 (qr9.1 hj).1;omega
theorem ZJ (p:Problem)(h:p.vars.length<=20):(qx p).length<=20:=by
 unfold qx;split
 . simp
 . exact qpL Wo h
theorem qcG {l:List Var}{s:List Int}{i:Nat}{v:Int}(h:s[i]?=some v):yW l (s.take (i+1))=IntKind.i64.wrap (yW l (s.take i)+zE l v.toNat):=by
 unfold yW;rw[qpn,h,qp5];rfl
theorem qov (p:Problem)(h:VQ p)(hv20:p.vars.length<=20)(hfl:p.groups.flatten.length<4611686018427387904):Pure Tryz.prog GG 45 [.agg (qG p)] (.int .i64 (yW p.vars (qx p))):=by
 refine Pure.vc qe Tryz.func45 rfl (by kernel_rfl) ?_;have hv:=qgf p h hv20 hfl;have hlen:=ZJ p hv20;have hrg:∀ i∈qx p,0<=i/\i<p.vars.length:=fun i hi=>Qy hi
 simp only[qG]at hv;generalize qx p=R at hv hlen hrg ⊢;simp;refine qb.call hv (by simp) ?_
 try simp
 refine qv.intro (fun q env U=>∃ i,i<=R.length/\q=R.length-i/\env 1=.ptr 0 0/\env 3=.sl 1 (R.map qu) .none/\env 4=.int .i64 (yW p.vars (R.take i))/\env 5=.int .i64 i/\U=⟨[.cells (qG p)],[]⟩) R.length ⟨0,by simp[yW]⟩ ?_;rintro q env U ⟨i,hi,rfl,h1,h3,h4,h5,rfl⟩
 cases hvi:R[i]? with
 | some v=>
  obtain⟨hc,hv'⟩:=qoQ.1 hvi;obtain⟨r1,r2⟩:=hrg v (qoR hvi);obtain⟨j,rfl⟩:=qpq r1;have hj:j<p.vars.length:=by omega
  have hs:=qcG (l:=p.vars) hvi;simp only[qpC]at hs;rw[JB hj]at hs;simp[h1,h3,h4,h5,hc,hv',hj];exact⟨_,by omega,i+1,by omega,rfl,by rw[hs],wr (by omega) (by omega)⟩
 | none=>
  have hc:¬ i<R.length:=by simp at hvi;omega
  have ht:R.take i=R:=qoZ (by omega);rw[ht]at h4;simp[h1,h3,h4,h5,hc]
theorem bits25 (p:Problem)(h:VP p):Pure Tryz.prog GG 45 [.agg (qG p)] (.int .i64 (yW p.vars (qx p))):=qov p h.q h.vars20 (by have:=h.flat;omega)
structure VM (p:Problem):Prop where
 h:VH p
 vars:Fits p.vars
 hard:Fits p.hard
 soft:Fits p.soft
 grp:∀ g∈p.groups,g.length<17592186044416
end Go.Proofs.YtkpkjbchlabaaaaGreatDoor
end
