/- A part of the proof. -/
import Derived.Test.YtkpkjbchlabaaaaGreatDoorEa16
import Derived.Test.YtkpkjbchlabaaaaGreatDoorEa17
set_option linter.unusedVariables false
set_option linter.unusedSimpArgs false
set_option maxRecDepth 100000
set_option linter.defProp false
section
namespace Go.Proofs.YtkpkjbchlabaaaaGreatDoor
open Go Go.Abs
def Jy (l:List Var)(i:Nat):List Int:=((List.range i).filter fun (j:Nat)=>yg l (j:Int)).map fun (j:Nat)=>(j:Int)
theorem Ys {l:List Var}{i:Nat}:Jy l (i+1)=if yg l (i:Int)=true then Jy l i++[(i:Int)] else Jy l i:=by
 unfold Jy;rw[qrO,qtC];by_cases h:yg l (i:Int)=true
 . simp[h]
 . simp[h]
theorem Vd {l:List Var}{i:Nat}:(Jy l i).length<=i:=by
 unfold Jy;rw[qq7];exact qrf (qtm _ _) (by simp)
noncomputable def qC (p:Problem):List Int:=if qk p≠0 then [] else Jy p.vars p.vars.length
def qca (s:List Int):AV:=match s with
 | []=>.sl 0 [] .nil
 | a::r=>.sl 1 ((a::r).map qo) (.chain 0 (r.length+1))
theorem qec (s:List Int)(H:List Blk):zb (fin H (qca s))=true/\Leq (fin H (qca s)) (.sl 1 (s.map qo) .none):=by
 cases s with
 | nil=>simp[qca,Leq]
 | cons a r=>simp[qca,Leq]
def JA (s:List Int):List (Option Nat):=match s with
 | []=>[]
 | _::r=>[some (r.length+1)]
theorem qhw (p:Problem)(h:VQ p):Pure Tryz.prog GG 55 [.agg (qD p)] (.sl 1 ((qC p).map qo) .none):=by
 refine Pure.vc qe Tryz.func55 rfl (by kernel_rfl) ?_;have hv:=yw p h;have hr:∀ i,Pure Tryz.prog GG 107 [.agg [.sl 4 (p.vars.map qz) .none,.sl 4 (p.hard.map qr) .none,.sl 4 (p.soft.map qr) .none,.sl 2 (p.dists.map zj) .none,.sl 1 (p.groups.map zF) .none],.int .i64 i] (.bool (yg p.vars i)):=fun i=>by
  have hr:=jf GG p i;rw[Vc]at hr;simpa only[qD] using hr
 simp only[qD]at hv;have hv20:=h.vars;simp;refine qb.call hv (by simp) ?_;by_cases h0:qk p=0
 . have x:qC p=Jy p.vars p.vars.length:=(by simp[qC,h0]);rw[x];simp[h0];refine qx.intro (fun q env U=>∃ i,i<=p.vars.length/\q=p.vars.length-i/\env 1=.ptr 0 0/\env 3=qca (Jy p.vars i)/\env 10=.int .i64 p.vars.length/\env 11=.int .i64 i/\U=⟨[.cells (qD p)],JA (Jy p.vars i)⟩) p.vars.length ⟨0,by simp[Jy,qca,JA]⟩ ?_;rintro q env U ⟨i,hi,rfl,h1,h3,h10,h11,rfl⟩;by_cases hc:i<p.vars.length
   . have hc':(i:Int)<p.vars.length:=(by omega);have hlen:=Vd (l:=p.vars) (i:=i);have hs:=Ys (l:=p.vars) (i:=i);simp[h1,h3,h10,h11,hc];refine qb.call (hr i) (by simp) ?_;cases hri:yg p.vars (i:Int)
     . rw[hri]at hs;simp[h1,h3,h10,h11];exact⟨_,by omega,i+1,by omega,rfl,by rw[hs];rfl,wr (by omega) (by omega),by rw[hs];rfl⟩
     . rw[hri,if_pos rfl]at hs;generalize hR:Jy p.vars i=R at h3 hlen hs ⊢
       cases R with
       | nil=>
        simp only[qca]at h3;simp[h1,h3,h10,h11,JA,qL,qj,qt,zP];exact⟨_,by omega,i+1,by omega,rfl,by rw[hs];simp[qca],wr (by omega) (by omega),by rw[hs];simp[JA]⟩
       | cons a r=>
        have hb:r.length<=549755813886:=(by simp at hlen;omega);simp only[qca]at h3;simp[h1,h3,h10,h11,JA,qL,qj,qt,zP,hb];exact⟨_,by omega,i+1,by omega,rfl,by rw[hs];simp[qca],wr (by omega) (by omega),by rw[hs];simp[JA]⟩
   . have hi':i=p.vars.length:=(by omega);subst hi';have he:=qec (Jy p.vars p.vars.length) [.cells (qD p)];simp[h1,h3,h10,h11];simpa using he
 . have x:qC p=[]:=(by simp[qC,h0]);rw[x];simp[h0,Leq]
theorem qhv (p:Problem)(h:VQ p)(hv20:p.vars.length<=20)(hfl:p.groups.flatten.length<4611686018427387904):Pure Tryz.prog GG 92 [.agg (qD p)] (.sl 1 ((qC p).map qo) .none):=by
 refine Pure.vc qe Tryz.func92 rfl (by kernel_rfl) ?_;have hv:=qdD p h hfl;simp only[qD]at hv;simp;refine qb.call hv (by simp) ?_;by_cases h0:qk p=0
 . have x:qC p=Jy p.vars p.vars.length:=(by simp[qC,h0]);rw[x];simp[h0];refine qx.intro (fun q env U=>∃ i,i<=p.vars.length/\q=p.vars.length-i/\env 1=.ptr 0 0/\env 3=qca (Jy p.vars i)/\env 4=.int .i64 i/\U=⟨[.cells (qD p)],JA (Jy p.vars i)⟩) p.vars.length ⟨0,by simp[Jy,qca,JA]⟩ ?_;rintro q env U ⟨i,hi,rfl,h1,h3,h4,rfl⟩;by_cases hc:i<p.vars.length
   . have hc':(i:Int)<p.vars.length:=(by omega);have hlen:=Vd (l:=p.vars) (i:=i);have hs:=Ys (l:=p.vars) (i:=i);have hrr:yg p.vars (i:Int)=(p.vars[i].mode != 0):=(by simp[yg,qqr hc]);by_cases m0:p.vars[i].mode=0
     . have hri:yg p.vars (i:Int)=false:=(by rw[hrr];simp[m0]);rw[hri]at hs;simp[h1,h3,h4,hc,m0];exact⟨_,by omega,i+1,by omega,rfl,by rw[hs];rfl,wr (by omega) (by omega),by rw[hs];rfl⟩
     . have hri:yg p.vars (i:Int)=true:=(by rw[hrr];simp[m0]);rw[hri,if_pos rfl]at hs;generalize hR:Jy p.vars i=R at h3 hlen hs ⊢
       cases R with
       | nil=>
        simp only[qca]at h3;simp[h1,h3,h4,hc,m0,JA,qL,qj,qt,zP];exact⟨_,by omega,i+1,by omega,rfl,by rw[hs];simp[qca],wr (by omega) (by omega),by rw[hs];simp[JA]⟩
       | cons a r=>
        have hb:r.length<=549755813886:=(by simp at hlen;omega);simp only[qca]at h3;simp[h1,h3,h4,hc,m0,JA,qL,qj,qt,zP,hb];exact⟨_,by omega,i+1,by omega,rfl,by rw[hs];simp[qca],wr (by omega) (by omega),by rw[hs];simp[JA]⟩
   . have hi':i=p.vars.length:=(by omega);subst hi';have he:=qec (Jy p.vars p.vars.length) [.cells (qD p)];simp[h1,h3,h4];simpa using he
 . have x:qC p=[]:=(by simp[qC,h0]);rw[x];simp[h0,Leq]
structure VH (p:Problem):Prop where
 names:∀ v∈p.vars,Fits v.name
 exprs:∀ e∈p.hard++p.soft,Wen e
 dists:Fits p.dists
 weights:∀ d∈p.dists,Fits d.weights
 groups:Fits p.groups
 group:∀ g∈p.groups,Fits g
theorem VH.small {p:Problem}(h:VH p)(hs:jD p=true):VP p:=by
 simp only[jD,qqt,qrK,qtr,decide_eq_false_iff_not,qqA,decide_eq_true_eq]at hs;obtain⟨⟨⟨⟨⟨⟨⟨⟨a1,a2⟩,a3⟩,a4⟩,a5⟩,b1⟩,b2⟩,b3⟩,b4⟩:=hs;refine⟨by omega,h.names,by omega,by omega,fun e he=>?_,h.dists,h.weights,h.groups,h.group,?_⟩
 . have hb:jg e 0=true:=by
    rcases qqJ.1 he with he|he
    . exact b1 e he
    . exact b2 e he
   have h1:=qbU e 0 hb;have h2:=qjh hb;exact⟨h.exprs e he,by omega,by omega⟩
 . have:∀ (g:List (List Int)),(∀ x∈g,x.length<=20)->g.flatten.length<=g.length*20:=by
    intro g
    induction g with
    | nil=>simp
    | cons a r ih=>
     intro h;have h1:=h a (by simp);have h2:=ih fun x hx=>h x (by simp[hx])
     simp only[qq9,qqu,qqH];omega
   have:=this p.groups b4;omega
theorem J5 {l:List Var}{i:Nat}(h:i<l.length):zL l i=l[i].width:=by simp[zL,qqr h]
def kc (l:List Var)(s:List Int):Int:=s.foldl (fun n i=>IntKind.i64.wrap (n+zL l i.toNat)) 0
theorem Q3 {p:Problem}{i:Int}(h:i∈qC p):0<=i/\i<p.vars.length:=by
 unfold qC at h;split at h
 . cases h
 . unfold Jy at h;obtain⟨j,hj,rfl⟩:=qqT.1 h;have:=qrr.1 (qsM.1 hj).1;omega
theorem Jh (p:Problem)(h:p.vars.length<=20):(qC p).length<=20:=by
 unfold qC;split
 . simp
 . exact qrf Vd h
theorem qdL {l:List Var}{s:List Int}{i:Nat}{v:Int}(h:s[i]?=some v):kc l (s.take (i+1))=IntKind.i64.wrap (kc l (s.take i)+zL l v.toNat):=by
 unfold kc;rw[qqU,h,qrB];rfl
theorem qp3 (p:Problem)(h:VQ p)(hv20:p.vars.length<=20)(hfl:p.groups.flatten.length<4611686018427387904):Pure Tryz.prog GG 45 [.agg (qD p)] (.int .i64 (kc p.vars (qC p))):=by
 refine Pure.vc qe Tryz.func45 rfl (by kernel_rfl) ?_;have hv:=qhv p h hv20 hfl;have hlen:=Jh p hv20;have hrg:∀ i∈qC p,0<=i/\i<p.vars.length:=fun i hi=>Q3 hi
 simp only[qD]at hv;generalize qC p=R at hv hlen hrg ⊢;simp;refine qb.call hv (by simp) ?_
 try simp
 refine qx.intro (fun q env U=>∃ i,i<=R.length/\q=R.length-i/\env 1=.ptr 0 0/\env 3=.sl 1 (R.map qo) .none/\env 4=.int .i64 (kc p.vars (R.take i))/\env 5=.int .i64 i/\U=⟨[.cells (qD p)],[]⟩) R.length ⟨0,by simp[kc]⟩ ?_;rintro q env U ⟨i,hi,rfl,h1,h3,h4,h5,rfl⟩
 cases hvi:R[i]? with
 | some v=>
  obtain⟨hc,hv'⟩:=qqp.1 hvi;obtain⟨r1,r2⟩:=hrg v (qqq hvi);obtain⟨j,rfl⟩:=qq0 r1;have hj:j<p.vars.length:=by omega
  have hs:=qdL (l:=p.vars) hvi;simp only[qq1]at hs;rw[J5 hj]at hs;simp[h1,h3,h4,h5,hc,hv',hj];exact⟨_,by omega,i+1,by omega,rfl,by rw[hs],wr (by omega) (by omega)⟩
 | none=>
  have hc:¬ i<R.length:=by simp at hvi;omega
  have ht:R.take i=R:=qqx (by omega);rw[ht]at h4;simp[h1,h3,h4,h5,hc]
theorem bits25 (p:Problem)(h:VP p):Pure Tryz.prog GG 45 [.agg (qD p)] (.int .i64 (kc p.vars (qC p))):=qp3 p h.q h.vars20 (by have:=h.flat;omega)
structure VM (p:Problem):Prop where
 h:VH p
 vars:Fits p.vars
 hard:Fits p.hard
 soft:Fits p.soft
 grp:∀ g∈p.groups,g.length<17592186044416
end Go.Proofs.YtkpkjbchlabaaaaGreatDoor
end
