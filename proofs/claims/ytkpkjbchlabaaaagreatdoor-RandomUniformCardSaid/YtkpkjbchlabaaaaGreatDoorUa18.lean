/- A part of the proof. -/
import Derived.Test.YtkpkjbchlabaaaaGreatDoorUa16
import Derived.Test.YtkpkjbchlabaaaaGreatDoorUa17
set_option linter.unusedVariables false
set_option linter.unusedSimpArgs false
set_option maxRecDepth 100000
set_option linter.defProp false
section
namespace Go.Proofs.YtkpkjbchlabaaaaGreatDoor
open Go Go.Abs
def Jd (l:List Var)(i:Nat):List Int:=((List.range i).filter fun (j:Nat)=>yc l (j:Int)).map fun (j:Nat)=>(j:Int)
theorem J6 {l:List Var}{i:Nat}:Jd l (i+1)=if yc l (i:Int)=true then Jd l i++[(i:Int)] else Jd l i:=by
 unfold Jd;rw[qqT,List.filter_append];by_cases h:yc l (i:Int)=true
 . simp[h]
 . simp[h]
theorem WH {l:List Var}{i:Nat}:(Jd l i).length<=i:=by
 unfold Jd;rw[qqd];exact qqr (qso _ _) (by simp)
noncomputable def qz (p:Problem):List Int:=if qk p≠0 then [] else Jd p.vars p.vars.length
def qbx (s:List Int):AV:=match s with
 | []=>.sl 0 [] .nil
 | a::r=>.sl 1 ((a::r).map qr) (.chain 0 (r.length+1))
theorem qdw (s:List Int)(H:List Blk):q9 (fin H (qbx s))=true/\Leq (fin H (qbx s)) (.sl 1 (s.map qr) .none):=by
 cases s with
 | nil=>simp[qbx,Leq]
 | cons a r=>simp[qbx,Leq]
def Jg (s:List Int):List (Option Nat):=match s with
 | []=>[]
 | _::r=>[some (r.length+1)]
theorem qgL (p:Problem)(h:VQ p):Pure Tryz.prog GG 55 [.agg (qG p)] (.sl 1 ((qz p).map qr) .none):=by
 refine Pure.vc qe Tryz.func55 rfl (by kernel_rfl) ?_;have hv:=yh p h;have hr:∀ i,Pure Tryz.prog GG 107 [.agg [.sl 4 (p.vars.map qE) .none,.sl 4 (p.hard.map qq) .none,.sl 4 (p.soft.map qq) .none,.sl 2 (p.dists.map zG) .none,.sl 1 (p.groups.map zz) .none],.int .i64 i] (.bool (yc p.vars i)):=fun i=>by
  have hr:=z5 GG p i;rw[WG]at hr;simpa only[qG] using hr
 simp only[qG]at hv;have hv20:=h.vars;simp;refine qb.call hv (by simp) ?_;by_cases h0:qk p=0
 . have x:qz p=Jd p.vars p.vars.length:=(by simp[qz,h0]);rw[x];simp[h0];refine qv.intro (fun q env U=>∃ i,i<=p.vars.length/\q=p.vars.length-i/\env 1=.ptr 0 0/\env 3=qbx (Jd p.vars i)/\env 10=.int .i64 p.vars.length/\env 11=.int .i64 i/\U=⟨[.cells (qG p)],Jg (Jd p.vars i)⟩) p.vars.length ⟨0,by simp[Jd,qbx,Jg]⟩ ?_;rintro q env U ⟨i,hi,rfl,h1,h3,h10,h11,rfl⟩;by_cases hc:i<p.vars.length
   . have hc':(i:Int)<p.vars.length:=(by omega);have hlen:=WH (l:=p.vars) (i:=i);have hs:=J6 (l:=p.vars) (i:=i);simp[h1,h3,h10,h11,hc];refine qb.call (hr i) (by simp) ?_;cases hri:yc p.vars (i:Int)
     . rw[hri]at hs;simp[h1,h3,h10,h11];exact⟨_,by omega,i+1,by omega,rfl,by rw[hs];rfl,wr (by omega) (by omega),by rw[hs];rfl⟩
     . rw[hri,if_pos rfl]at hs;generalize hR:Jd p.vars i=R at h3 hlen hs ⊢
       cases R with
       | nil=>
        simp only[qbx]at h3;simp[h1,h3,h10,h11,Jg,qK,qj,qs,zK];exact⟨_,by omega,i+1,by omega,rfl,by rw[hs];simp[qbx],wr (by omega) (by omega),by rw[hs];simp[Jg]⟩
       | cons a r=>
        have hb:r.length<=549755813886:=(by simp at hlen;omega);simp only[qbx]at h3;simp[h1,h3,h10,h11,Jg,qK,qj,qs,zK,hb];exact⟨_,by omega,i+1,by omega,rfl,by rw[hs];simp[qbx],wr (by omega) (by omega),by rw[hs];simp[Jg]⟩
   . have hi':i=p.vars.length:=(by omega);subst hi';have he:=qdw (Jd p.vars p.vars.length) [.cells (qG p)];simp[h1,h3,h10,h11];simpa using he
 . have x:qz p=[]:=(by simp[qz,h0]);rw[x];simp[h0,Leq]
theorem qgK (p:Problem)(h:VQ p)(hv20:p.vars.length<=20)(hfl:p.groups.flatten.length<4611686018427387904):Pure Tryz.prog GG 92 [.agg (qG p)] (.sl 1 ((qz p).map qr) .none):=by
 refine Pure.vc qe Tryz.func92 rfl (by kernel_rfl) ?_;have hv:=qcX p h hfl;simp only[qG]at hv;simp;refine qb.call hv (by simp) ?_;by_cases h0:qk p=0
 . have x:qz p=Jd p.vars p.vars.length:=(by simp[qz,h0]);rw[x];simp[h0];refine qv.intro (fun q env U=>∃ i,i<=p.vars.length/\q=p.vars.length-i/\env 1=.ptr 0 0/\env 3=qbx (Jd p.vars i)/\env 4=.int .i64 i/\U=⟨[.cells (qG p)],Jg (Jd p.vars i)⟩) p.vars.length ⟨0,by simp[Jd,qbx,Jg]⟩ ?_;rintro q env U ⟨i,hi,rfl,h1,h3,h4,rfl⟩;by_cases hc:i<p.vars.length
   . have hc':(i:Int)<p.vars.length:=(by omega);have hlen:=WH (l:=p.vars) (i:=i);have hs:=J6 (l:=p.vars) (i:=i);have hrr:yc p.vars (i:Int)=(p.vars[i].mode != 0):=(by simp[yc,qpA hc]);by_cases m0:p.vars[i].mode=0
     . have hri:yc p.vars (i:Int)=false:=(by rw[hrr];simp[m0]);rw[hri]at hs;simp[h1,h3,h4,hc,m0];exact⟨_,by omega,i+1,by omega,rfl,by rw[hs];rfl,wr (by omega) (by omega),by rw[hs];rfl⟩
     . have hri:yc p.vars (i:Int)=true:=(by rw[hrr];simp[m0]);rw[hri,if_pos rfl]at hs;generalize hR:Jd p.vars i=R at h3 hlen hs ⊢
       cases R with
       | nil=>
        simp only[qbx]at h3;simp[h1,h3,h4,hc,m0,Jg,qK,qj,qs,zK];exact⟨_,by omega,i+1,by omega,rfl,by rw[hs];simp[qbx],wr (by omega) (by omega),by rw[hs];simp[Jg]⟩
       | cons a r=>
        have hb:r.length<=549755813886:=(by simp at hlen;omega);simp only[qbx]at h3;simp[h1,h3,h4,hc,m0,Jg,qK,qj,qs,zK,hb];exact⟨_,by omega,i+1,by omega,rfl,by rw[hs];simp[qbx],wr (by omega) (by omega),by rw[hs];simp[Jg]⟩
   . have hi':i=p.vars.length:=(by omega);subst hi';have he:=qdw (Jd p.vars p.vars.length) [.cells (qG p)];simp[h1,h3,h4];simpa using he
 . have x:qz p=[]:=(by simp[qz,h0]);rw[x];simp[h0,Leq]
structure VH (p:Problem):Prop where
 names:∀ v∈p.vars,Fits v.name
 exprs:∀ e∈p.hard++p.soft,Wen e
 dists:Fits p.dists
 weights:∀ d∈p.dists,Fits d.weights
 groups:Fits p.groups
 group:∀ g∈p.groups,Fits g
theorem VH.small {p:Problem}(h:VH p)(hs:jy p=true):VP p:=by
 simp only[jy,qpC,qqH,qss,decide_eq_false_iff_not,qpJ,decide_eq_true_eq]at hs;obtain⟨⟨⟨⟨⟨⟨⟨⟨a1,a2⟩,a3⟩,a4⟩,a5⟩,b1⟩,b2⟩,b3⟩,b4⟩:=hs;refine⟨by omega,h.names,by omega,by omega,fun e he=>?_,h.dists,h.weights,h.groups,h.group,?_⟩
 . have hb:z6 e 0=true:=by
    rcases qpZ.1 he with he|he
    . exact b1 e he
    . exact b2 e he
   have h1:=qbh e 0 hb;have h2:=qiz hb;exact⟨h.exprs e he,by omega,by omega⟩
 . have:∀ (g:List (List Int)),(∀ x∈g,x.length<=20)->g.flatten.length<=g.length*20:=by
    intro g
    induction g with
    | nil=>simp
    | cons a r ih=>
     intro h;have h1:=h a (by simp);have h2:=ih fun x hx=>h x (by simp[hx])
     simp only[qqf,qpD,qpQ];omega
   have:=this p.groups b4;omega
theorem JK {l:List Var}{i:Nat}(h:i<l.length):zF l i=l[i].width:=by simp[zF,qpA h]
def yX (l:List Var)(s:List Int):Int:=s.foldl (fun n i=>IntKind.i64.wrap (n+zF l i.toNat)) 0
theorem QD {p:Problem}{i:Int}(h:i∈qz p):0<=i/\i<p.vars.length:=by
 unfold qz at h;split at h
 . cases h
 . unfold Jd at h;obtain⟨j,hj,rfl⟩:=qp1.1 h;have:=qqF.1 (qsS.1 hj).1;omega
theorem ZR (p:Problem)(h:p.vars.length<=20):(qz p).length<=20:=by
 unfold qz;split
 . simp
 . exact qqr WH h
theorem qc3 {l:List Var}{s:List Int}{i:Nat}{v:Int}(h:s[i]?=some v):yX l (s.take (i+1))=IntKind.i64.wrap (yX l (s.take i)+zF l v.toNat):=by
 unfold yX;rw[qp4,h,qqO];rfl
theorem qpd (p:Problem)(h:VQ p)(hv20:p.vars.length<=20)(hfl:p.groups.flatten.length<4611686018427387904):Pure Tryz.prog GG 45 [.agg (qG p)] (.int .i64 (yX p.vars (qz p))):=by
 refine Pure.vc qe Tryz.func45 rfl (by kernel_rfl) ?_;have hv:=qgK p h hv20 hfl;have hlen:=ZR p hv20;have hrg:∀ i∈qz p,0<=i/\i<p.vars.length:=fun i hi=>QD hi
 simp only[qG]at hv;generalize qz p=R at hv hlen hrg ⊢;simp;refine qb.call hv (by simp) ?_
 try simp
 refine qv.intro (fun q env U=>∃ i,i<=R.length/\q=R.length-i/\env 1=.ptr 0 0/\env 3=.sl 1 (R.map qr) .none/\env 4=.int .i64 (yX p.vars (R.take i))/\env 5=.int .i64 i/\U=⟨[.cells (qG p)],[]⟩) R.length ⟨0,by simp[yX]⟩ ?_;rintro q env U ⟨i,hi,rfl,h1,h3,h4,h5,rfl⟩
 cases hvi:R[i]? with
 | some v=>
  obtain⟨hc,hv'⟩:=qpy.1 hvi;obtain⟨r1,r2⟩:=hrg v (qpz hvi);obtain⟨j,rfl⟩:=qp7 r1;have hj:j<p.vars.length:=by omega
  have hs:=qc3 (l:=p.vars) hvi;simp only[qqi]at hs;rw[JK hj]at hs;simp[h1,h3,h4,h5,hc,hv',hj];exact⟨_,by omega,i+1,by omega,rfl,by rw[hs],wr (by omega) (by omega)⟩
 | none=>
  have hc:¬ i<R.length:=by simp at hvi;omega
  have ht:R.take i=R:=qpH (by omega);rw[ht]at h4;simp[h1,h3,h4,h5,hc]
theorem bits25 (p:Problem)(h:VP p):Pure Tryz.prog GG 45 [.agg (qG p)] (.int .i64 (yX p.vars (qz p))):=qpd p h.q h.vars20 (by have:=h.flat;omega)
structure VM (p:Problem):Prop where
 h:VH p
 vars:Fits p.vars
 hard:Fits p.hard
 soft:Fits p.soft
 grp:∀ g∈p.groups,g.length<17592186044416
end Go.Proofs.YtkpkjbchlabaaaaGreatDoor
end
