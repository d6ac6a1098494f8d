/- A part of the proof. -/
import Derived.Test.YtcadpamddlofjaaGreatDoorPa27
set_option linter.unusedVariables false
set_option linter.unusedSimpArgs false
set_option maxRecDepth 100000
set_option linter.defProp false
section
namespace Go.Proofs.YtcadpamddlofjaaGreatDoor
open Go Go.Abs
def Z6 (l:List Var)(i:Nat):List Int:=((List.range i).filter fun (j:Nat)=>yh l (j:Int)).map fun (j:Nat)=>(j:Int)
theorem J0 {l:List Var}{i:Nat}:Z6 l (i+1)=if yh l (i:Int)=true then Z6 l i++[(i:Int)] else Z6 l i:=by
 unfold Z6;rw[qp8,List.filter_append];by_cases h:yh l (i:Int)=true
 . simp[h]
 . simp[h]
theorem WC {l:List Var}{i:Nat}:(Z6 l i).length<=i:=by
 unfold Z6;rw[qpK];exact qp4 (qrB _ _) (by simp)
noncomputable def qy (p:Problem):List Int:=if qr p≠0 then [] else Z6 p.vars p.vars.length
def qbm (s:List Int):AV:=match s with
 | []=>.sl 0 [] .nil
 | a::r=>.sl 1 ((a::r).map qu) (.chain 0 (r.length+1))
theorem qdj (s:List Int)(H:List Blk):qC (fin H (qbm s))=true/\Leq (fin H (qbm s)) (.sl 1 (s.map qu) .none):=by
 cases s with
 | nil=>simp[qbm,Leq]
 | cons a r=>simp[qbm,Leq]
def Z7 (s:List Int):List (Option Nat):=match s with
 | []=>[]
 | _::r=>[some (r.length+1)]
theorem qgz (p:Problem)(h:VQ p):Pure Tryz.prog GG 163 [.agg (qL p)] (.sl 1 ((qy p).map qu) .none):=by
 refine Pure.vc qe Tryz.func163 rfl (by kernel_rfl) ?_;have hv:=jZ p h;have hr:∀ i,Pure Tryz.prog GG 80 [.agg [.sl 4 (p.vars.map qx) .none,.sl 4 (p.hard.map qt) .none,.sl 4 (p.soft.map qt) .none,.sl 2 (p.dists.map zC) .none,.sl 1 (p.groups.map zB) .none],.int .i64 i] (.bool (yh p.vars i)):=fun i=>by
  have hr:=jM GG p i;rw[WB]at hr;simpa only[qL] using hr
 simp only[qL]at hv;have hv20:=h.vars;simp;refine qb.call hv (by simp) ?_;by_cases h0:qr p=0
 . have x:qy p=Z6 p.vars p.vars.length:=(by simp[qy,h0]);rw[x];simp[h0];refine qF.intro (fun q env U=>∃ i,i<=p.vars.length/\q=p.vars.length-i/\env 1=.ptr 0 0/\env 3=qbm (Z6 p.vars i)/\env 10=.int .i64 p.vars.length/\env 11=.int .i64 i/\U=⟨[.cells (qL p)],Z7 (Z6 p.vars i)⟩) p.vars.length ⟨0,by simp[Z6,qbm,Z7]⟩ ?_;rintro q env U ⟨i,hi,rfl,h1,h3,h10,h11,rfl⟩;by_cases hc:i<p.vars.length
   . have hc':(i:Int)<p.vars.length:=(by omega);have hlen:=WC (l:=p.vars) (i:=i);have hs:=J0 (l:=p.vars) (i:=i);simp[h1,h3,h10,h11,hc];refine qb.call (hr i) (by simp) ?_;cases hri:yh p.vars (i:Int)
     . rw[hri]at hs;simp[h1,h3,h10,h11];exact⟨_,by omega,i+1,by omega,rfl,by rw[hs];rfl,wr (by omega) (by omega),by rw[hs];rfl⟩
     . rw[hri,if_pos rfl]at hs;generalize hR:Z6 p.vars i=R at h3 hlen hs ⊢
       cases R with
       | nil=>
        simp only[qbm]at h3;simp[h1,h3,h10,h11,Z7,qN,qm,qz,zI];exact⟨_,by omega,i+1,by omega,rfl,by rw[hs];simp[qbm],wr (by omega) (by omega),by rw[hs];simp[Z7]⟩
       | cons a r=>
        have hb:r.length<=549755813886:=(by simp at hlen;omega);simp only[qbm]at h3;simp[h1,h3,h10,h11,Z7,qN,qm,qz,zI,hb];exact⟨_,by omega,i+1,by omega,rfl,by rw[hs];simp[qbm],wr (by omega) (by omega),by rw[hs];simp[Z7]⟩
   . have hi':i=p.vars.length:=(by omega);subst hi';have he:=qdj (Z6 p.vars p.vars.length) [.cells (qL p)];simp[h1,h3,h10,h11];simpa using he
 . have x:qy p=[]:=(by simp[qy,h0]);rw[x];simp[h0,Leq]
theorem qgy (p:Problem)(h:VQ p)(hv20:p.vars.length<=20)(hfl:p.groups.flatten.length<4611686018427387904):Pure Tryz.prog GG 34 [.agg (qL p)] (.sl 1 ((qy p).map qu) .none):=by
 refine Pure.vc qe Tryz.func34 rfl (by kernel_rfl) ?_;have hv:=Qt p h hfl;simp only[qL]at hv;simp;refine qb.call hv (by simp) ?_;by_cases h0:qr p=0
 . have x:qy p=Z6 p.vars p.vars.length:=(by simp[qy,h0]);rw[x];simp[h0];refine qF.intro (fun q env U=>∃ i,i<=p.vars.length/\q=p.vars.length-i/\env 1=.ptr 0 0/\env 3=qbm (Z6 p.vars i)/\env 4=.int .i64 i/\U=⟨[.cells (qL p)],Z7 (Z6 p.vars i)⟩) p.vars.length ⟨0,by simp[Z6,qbm,Z7]⟩ ?_;rintro q env U ⟨i,hi,rfl,h1,h3,h4,rfl⟩;by_cases hc:i<p.vars.length
   . have hc':(i:Int)<p.vars.length:=(by omega);have hlen:=WC (l:=p.vars) (i:=i);have hs:=J0 (l:=p.vars) (i:=i);have hrr:yh p.vars (i:Int)=(p.vars[i].mode != 0):=(by simp[yh,qo1 hc]);by_cases m0:p.vars[i].mode=0
     . have hri:yh p.vars (i:Int)=false:=(by rw[hrr];simp[m0]);rw[hri]at hs;simp[h1,h3,h4,hc,m0];exact⟨_,by omega,i+1,by omega,rfl,by rw[hs];rfl,wr (by omega) (by omega),by rw[hs];rfl⟩
     . have hri:yh p.vars (i:Int)=true:=(by rw[hrr];simp[m0]);rw[hri,if_pos rfl]at hs;generalize hR:Z6 p.vars i=R at h3 hlen hs ⊢
       cases R with
       | nil=>
        simp only[qbm]at h3;simp[h1,h3,h4,hc,m0,Z7,qN,qm,qz,zI];exact⟨_,by omega,i+1,by omega,rfl,by rw[hs];simp[qbm],wr (by omega) (by omega),by rw[hs];simp[Z7]⟩
       | cons a r=>
        have hb:r.length<=549755813886:=(by simp at hlen;omega);simp only[qbm]at h3;simp[h1,h3,h4,hc,m0,Z7,qN,qm,qz,zI,hb];exact⟨_,by omega,i+1,by omega,rfl,by rw[hs];simp[qbm],wr (by omega) (by omega),by rw[hs];simp[Z7]⟩
   . have hi':i=p.vars.length:=(by omega);subst hi';have he:=qdj (Z6 p.vars p.vars.length) [.cells (qL p)];simp[h1,h3,h4];simpa using he
 . have x:qy p=[]:=(by simp[qy,h0]);rw[x];simp[h0,Leq]
structure VH (p:Problem):Prop where
 names:∀ v∈p.vars,Fits v.name
 exprs:∀ e∈p.hard++p.soft,Wen e
 dists:Fits p.dists
 weights:∀ d∈p.dists,Fits d.weights
 groups:Fits p.groups
 group:∀ g∈p.groups,Fits g
theorem JD {l:List Var}{i:Nat}(h:i<l.length):zz l i=l[i].width:=by simp[zz,qo1 h]
def yp (l:List Var)(s:List Int):Int:=s.foldl (fun n i=>IntKind.i64.wrap (n+zz l i.toNat)) 0
theorem QG {p:Problem}{i:Int}(h:i∈qy p):0<=i/\i<p.vars.length:=by
 unfold qy at h;split at h
 . cases h
 . unfold Z6 at h;obtain⟨j,hj,rfl⟩:=qpx.1 h;have:=qp0.1 (qr6.1 hj).1;omega
theorem ZL (p:Problem)(h:p.vars.length<=20):(qy p).length<=20:=by
 unfold qy;split
 . simp
 . exact qp4 WC h
theorem qcR {l:List Var}{s:List Int}{i:Nat}{v:Int}(h:s[i]?=some v):yp l (s.take (i+1))=IntKind.i64.wrap (yp l (s.take i)+zz l v.toNat):=by
 unfold yp;rw[qpw,h,qqo];rfl
theorem qoB (p:Problem)(h:VQ p)(hv20:p.vars.length<=20)(hfl:p.groups.flatten.length<4611686018427387904):Pure Tryz.prog GG 12 [.agg (qL p)] (.int .i64 (yp p.vars (qy p))):=by
 refine Pure.vc qe Tryz.func12 rfl (by kernel_rfl) ?_;have hv:=qgy p h hv20 hfl;have hlen:=ZL p hv20;have hrg:∀ i∈qy p,0<=i/\i<p.vars.length:=fun i hi=>QG hi
 simp only[qL]at hv;generalize qy p=R at hv hlen hrg ⊢;simp;refine qb.call hv (by simp) ?_
 try simp
 refine qF.intro (fun q env U=>∃ i,i<=R.length/\q=R.length-i/\env 1=.ptr 0 0/\env 3=.sl 1 (R.map qu) .none/\env 4=.int .i64 (yp p.vars (R.take i))/\env 5=.int .i64 i/\U=⟨[.cells (qL p)],[]⟩) R.length ⟨0,by simp[yp]⟩ ?_;rintro q env U ⟨i,hi,rfl,h1,h3,h4,h5,rfl⟩
 cases hvi:R[i]? with
 | some v=>
  obtain⟨hc,hv'⟩:=qoX.1 hvi;obtain⟨r1,r2⟩:=hrg v (qoZ hvi);obtain⟨j,rfl⟩:=qpC r1;have hj:j<p.vars.length:=by omega
  have hs:=qcR (l:=p.vars) hvi;simp only[qpQ]at hs;rw[JD hj]at hs;simp[h1,h3,h4,h5,hc,hv',hj];exact⟨_,by omega,i+1,by omega,rfl,by rw[hs],wr (by omega) (by omega)⟩
 | none=>
  have hc:¬ i<R.length:=by simp at hvi;omega
  have ht:R.take i=R:=qo6 (by omega);rw[ht]at h4;simp[h1,h3,h4,h5,hc]
end Go.Proofs.YtcadpamddlofjaaGreatDoor
end
