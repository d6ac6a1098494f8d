/- A part of the proof. -/
import Derived.Test.YtkpkjbchlabaaaaGreatDoorSa16
import Derived.Test.YtkpkjbchlabaaaaGreatDoorSa17
set_option linter.unusedVariables false
set_option linter.unusedSimpArgs false
set_option maxRecDepth 100000
set_option linter.defProp false
section
namespace Go.Proofs.YtkpkjbchlabaaaaGreatDoor
open Go Go.Abs
def Jm (l:List Var)(i:Nat):List Int:=((List.range i).filter fun (j:Nat)=>yi l (j:Int)).map fun (j:Nat)=>(j:Int)
theorem Yo {l:List Var}{i:Nat}:Jm l (i+1)=if yi l (i:Int)=true then Jm l i++[(i:Int)] else Jm l i:=by
 unfold Jm;rw[qrG,List.filter_append];by_cases h:yi l (i:Int)=true
 . simp[h]
 . simp[h]
theorem W2 {l:List Var}{i:Nat}:(Jm l i).length<=i:=by
 unfold Jm;rw[qqS];exact qq6 (qs4 _ _) (by simp)
noncomputable def qz (p:Problem):List Int:=if qj p≠0 then [] else Jm p.vars p.vars.length
def qbY (s:List Int):AV:=match s with
 | []=>.sl 0 [] .nil
 | a::r=>.sl 1 ((a::r).map qt) (.chain 0 (r.length+1))
theorem qd6 (s:List Int)(H:List Blk):qR (fin H (qbY s))=true/\Leq (fin H (qbY s)) (.sl 1 (s.map qt) .none):=by
 cases s with
 | nil=>simp[qbY,Leq]
 | cons a r=>simp[qbY,Leq]
def Jp (s:List Int):List (Option Nat):=match s with
 | []=>[]
 | _::r=>[some (r.length+1)]
theorem qhl (p:Problem)(h:VQ p):Pure Tryz.prog GG 55 [.agg (qE p)] (.sl 1 ((qz p).map qt) .none):=by
 refine Pure.vc qe Tryz.func55 rfl (by kernel_rfl) ?_;have hv:=yv p h;have hr:∀ i,Pure Tryz.prog GG 107 [.agg [.sl 4 (p.vars.map qA) .none,.sl 4 (p.hard.map qr) .none,.sl 4 (p.soft.map qr) .none,.sl 2 (p.dists.map zH) .none,.sl 1 (p.groups.map zG) .none],.int .i64 i] (.bool (yi p.vars i)):=fun i=>by
  have hr:=z6 GG p i;rw[W0]at hr;simpa only[qE] using hr
 simp only[qE]at hv;have hv20:=h.vars;simp;refine qb.call hv (by simp) ?_;by_cases h0:qj p=0
 . have x:qz p=Jm p.vars p.vars.length:=(by simp[qz,h0]);rw[x];simp[h0];refine qy.intro (fun q env U=>∃ i,i<=p.vars.length/\q=p.vars.length-i/\env 1=.ptr 0 0/\env 3=qbY (Jm p.vars i)/\env 10=.int .i64 p.vars.length/\env 11=.int .i64 i/\U=⟨[.cells (qE p)],Jp (Jm p.vars i)⟩) p.vars.length ⟨0,by simp[Jm,qbY,Jp]⟩ ?_;rintro q env U ⟨i,hi,rfl,h1,h3,h10,h11,rfl⟩;by_cases hc:i<p.vars.length
   . have hc':(i:Int)<p.vars.length:=(by omega);have hlen:=W2 (l:=p.vars) (i:=i);have hs:=Yo (l:=p.vars) (i:=i);simp[h1,h3,h10,h11,hc];refine qb.call (hr i) (by simp) ?_;cases hri:yi p.vars (i:Int)
     . rw[hri]at hs;simp[h1,h3,h10,h11];exact⟨_,by omega,i+1,by omega,rfl,by rw[hs];rfl,wr (by omega) (by omega),by rw[hs];rfl⟩
     . rw[hri,if_pos rfl]at hs;generalize hR:Jm p.vars i=R at h3 hlen hs ⊢
       cases R with
       | nil=>
        simp only[qbY]at h3;simp[h1,h3,h10,h11,Jp,qO,qk,qu,zL];exact⟨_,by omega,i+1,by omega,rfl,by rw[hs];simp[qbY],wr (by omega) (by omega),by rw[hs];simp[Jp]⟩
       | cons a r=>
        have hb:r.length<=549755813886:=(by simp at hlen;omega);simp only[qbY]at h3;simp[h1,h3,h10,h11,Jp,qO,qk,qu,zL,hb];exact⟨_,by omega,i+1,by omega,rfl,by rw[hs];simp[qbY],wr (by omega) (by omega),by rw[hs];simp[Jp]⟩
   . have hi':i=p.vars.length:=(by omega);subst hi';have he:=qd6 (Jm p.vars p.vars.length) [.cells (qE p)];simp[h1,h3,h10,h11];simpa using he
 . have x:qz p=[]:=(by simp[qz,h0]);rw[x];simp[h0,Leq]
theorem qhk (p:Problem)(h:VQ p)(hv20:p.vars.length<=20)(hfl:p.groups.flatten.length<4611686018427387904):Pure Tryz.prog GG 92 [.agg (qE p)] (.sl 1 ((qz p).map qt) .none):=by
 refine Pure.vc qe Tryz.func92 rfl (by kernel_rfl) ?_;have hv:=qdv p h hfl;simp only[qE]at hv;simp;refine qb.call hv (by simp) ?_;by_cases h0:qj p=0
 . have x:qz p=Jm p.vars p.vars.length:=(by simp[qz,h0]);rw[x];simp[h0];refine qy.intro (fun q env U=>∃ i,i<=p.vars.length/\q=p.vars.length-i/\env 1=.ptr 0 0/\env 3=qbY (Jm p.vars i)/\env 4=.int .i64 i/\U=⟨[.cells (qE p)],Jp (Jm p.vars i)⟩) p.vars.length ⟨0,by simp[Jm,qbY,Jp]⟩ ?_;rintro q env U ⟨i,hi,rfl,h1,h3,h4,rfl⟩;by_cases hc:i<p.vars.length
   . have hc':(i:Int)<p.vars.length:=(by omega);have hlen:=W2 (l:=p.vars) (i:=i);have hs:=Yo (l:=p.vars) (i:=i);have hrr:yi p.vars (i:Int)=(p.vars[i].mode != 0):=(by simp[yi,qqe hc]);by_cases m0:p.vars[i].mode=0
     . have hri:yi p.vars (i:Int)=false:=(by rw[hrr];simp[m0]);rw[hri]at hs;simp[h1,h3,h4,hc,m0];exact⟨_,by omega,i+1,by omega,rfl,by rw[hs];rfl,wr (by omega) (by omega),by rw[hs];rfl⟩
     . have hri:yi p.vars (i:Int)=true:=(by rw[hrr];simp[m0]);rw[hri,if_pos rfl]at hs;generalize hR:Jm p.vars i=R at h3 hlen hs ⊢
       cases R with
       | nil=>
        simp only[qbY]at h3;simp[h1,h3,h4,hc,m0,Jp,qO,qk,qu,zL];exact⟨_,by omega,i+1,by omega,rfl,by rw[hs];simp[qbY],wr (by omega) (by omega),by rw[hs];simp[Jp]⟩
       | cons a r=>
        have hb:r.length<=549755813886:=(by simp at hlen;omega);simp only[qbY]at h3;simp[h1,h3,h4,hc,m0,Jp,qO,qk,qu,zL,hb];exact⟨_,by omega,i+1,by omega,rfl,by rw[hs];simp[qbY],wr (by omega) (by omega),by rw[hs];simp[Jp]⟩
   . have hi':i=p.vars.length:=(by omega);subst hi';have he:=qd6 (Jm p.vars p.vars.length) [.cells (qE p)];simp[h1,h3,h4];simpa using he
 . have x:qz p=[]:=(by simp[qz,h0]);rw[x];simp[h0,Leq]
structure VH (p:Problem):Prop where
 names:∀ v∈p.vars,Fits v.name
 exprs:∀ e∈p.hard++p.soft,Wen e
 dists:Fits p.dists
 weights:∀ d∈p.dists,Fits d.weights
 groups:Fits p.groups
 group:∀ g∈p.groups,Fits g
theorem VH.small {p:Problem}(h:VH p)(hs:jA p=true):VP p:=by
 simp only[jA,qqi,qrv,qs9,decide_eq_false_iff_not,qqo,decide_eq_true_eq]at hs;obtain⟨⟨⟨⟨⟨⟨⟨⟨a1,a2⟩,a3⟩,a4⟩,a5⟩,b1⟩,b2⟩,b3⟩,b4⟩:=hs;refine⟨by omega,h.names,by omega,by omega,fun e he=>?_,h.dists,h.weights,h.groups,h.group,?_⟩
 . have hb:z7 e 0=true:=by
    rcases qqA.1 he with he|he
    . exact b1 e he
    . exact b2 e he
   have h1:=qbJ e 0 hb;have h2:=qi7 hb;exact⟨h.exprs e he,by omega,by omega⟩
 . have:∀ (g:List (List Int)),(∀ x∈g,x.length<=20)->g.flatten.length<=g.length*20:=by
    intro g
    induction g with
    | nil=>simp
    | cons a r ih=>
     intro h;have h1:=h a (by simp);have h2:=ih fun x hx=>h x (by simp[hx])
     simp only[qqW,qqg,qqs];omega
   have:=this p.groups b4;omega
theorem JW {l:List Var}{i:Nat}(h:i<l.length):zF l i=l[i].width:=by simp[zF,qqe h]
def yP (l:List Var)(s:List Int):Int:=s.foldl (fun n i=>IntKind.i64.wrap (n+zF l i.toNat)) 0
theorem QS {p:Problem}{i:Int}(h:i∈qz p):0<=i/\i<p.vars.length:=by
 unfold qz at h;split at h
 . cases h
 . unfold Jm at h;obtain⟨j,hj,rfl⟩:=qqG.1 h;have:=qri.1 (qtD.1 hj).1;omega
theorem Z3 (p:Problem)(h:p.vars.length<=20):(qz p).length<=20:=by
 unfold qz;split
 . simp
 . exact qq6 W2 h
theorem qdC {l:List Var}{s:List Int}{i:Nat}{v:Int}(h:s[i]?=some v):yP l (s.take (i+1))=IntKind.i64.wrap (yP l (s.take i)+zF l v.toNat):=by
 unfold yP;rw[qqH,h,qrp];rfl
theorem qpP (p:Problem)(h:VQ p)(hv20:p.vars.length<=20)(hfl:p.groups.flatten.length<4611686018427387904):Pure Tryz.prog GG 45 [.agg (qE p)] (.int .i64 (yP p.vars (qz p))):=by
 refine Pure.vc qe Tryz.func45 rfl (by kernel_rfl) ?_;have hv:=qhk p h hv20 hfl;have hlen:=Z3 p hv20;have hrg:∀ i∈qz p,0<=i/\i<p.vars.length:=fun i hi=>QS hi
 simp only[qE]at hv;generalize qz p=R at hv hlen hrg ⊢;simp;refine qb.call hv (by simp) ?_
 try simp
 refine qy.intro (fun q env U=>∃ i,i<=R.length/\q=R.length-i/\env 1=.ptr 0 0/\env 3=.sl 1 (R.map qt) .none/\env 4=.int .i64 (yP p.vars (R.take i))/\env 5=.int .i64 i/\U=⟨[.cells (qE p)],[]⟩) R.length ⟨0,by simp[yP]⟩ ?_;rintro q env U ⟨i,hi,rfl,h1,h3,h4,h5,rfl⟩
 cases hvi:R[i]? with
 | some v=>
  obtain⟨hc,hv'⟩:=qqc.1 hvi;obtain⟨r1,r2⟩:=hrg v (qqd hvi);obtain⟨j,rfl⟩:=qqL r1;have hj:j<p.vars.length:=by omega
  have hs:=qdC (l:=p.vars) hvi;simp only[qqT]at hs;rw[JW hj]at hs;simp[h1,h3,h4,h5,hc,hv',hj];exact⟨_,by omega,i+1,by omega,rfl,by rw[hs],wr (by omega) (by omega)⟩
 | none=>
  have hc:¬ i<R.length:=by simp at hvi;omega
  have ht:R.take i=R:=qqk (by omega);rw[ht]at h4;simp[h1,h3,h4,h5,hc]
theorem bits25 (p:Problem)(h:VP p):Pure Tryz.prog GG 45 [.agg (qE p)] (.int .i64 (yP p.vars (qz p))):=qpP p h.q h.vars20 (by have:=h.flat;omega)
structure VM (p:Problem):Prop where
 h:VH p
 vars:Fits p.vars
 hard:Fits p.hard
 soft:Fits p.soft
 grp:∀ g∈p.groups,g.length<17592186044416
end Go.Proofs.YtkpkjbchlabaaaaGreatDoor
end
