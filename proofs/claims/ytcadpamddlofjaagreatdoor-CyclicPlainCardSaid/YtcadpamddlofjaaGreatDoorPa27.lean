/- A part of the proof. -/
import Derived.Test.YtcadpamddlofjaaGreatDoorPa15
import Derived.Test.YtcadpamddlofjaaGreatDoorPa22
import Derived.Test.YtcadpamddlofjaaGreatDoorPa23
import Derived.Test.YtcadpamddlofjaaGreatDoorPa26
set_option linter.unusedVariables false
set_option linter.unusedSimpArgs false
set_option maxRecDepth 100000
set_option linter.defProp false
section
namespace Go.Proofs.YtcadpamddlofjaaGreatDoor
open Go Go.Abs
structure VQ (p:Problem):Prop where
 vars:p.vars.length<=1000
 names:∀ v∈p.vars,Fits v.name
 hard:p.hard.length<=10000
 soft:p.soft.length<=10000
 exprs:∀ e∈p.hard++p.soft,Wen e/\hgt e<=1000/\(pre e).length<=100000
 dists:Fits p.dists
 weights:∀ d∈p.dists,Fits d.weights
 groups:Fits p.groups
 group:∀ g∈p.groups,Fits g
theorem qlo (fs:List (FuncId×Int))(c:AV)(hc:qC c=true)(hl:Fits fs)(h:∀ q∈fs,Pure Tryz.prog GG q.1 [c] (.int .i64 q.2)):Pure Tryz.prog GG 40 [.sl 1 (fs.map fun q=>[.fn q.1 [] [c]]) .none] (.int .i64 (qW (fun q=>q.2) fs)):=by
 refine Pure.vc qe Tryz.func40 rfl (by kernel_rfl) ?_;simp;refine qF.intro (fun n env U=>∃ i,i<=fs.length/\n=fs.length-i/\env 6=.sl 1 (fs.map fun q=>[.fn q.1 [] [c]]) .none/\env 7=.int .i64 fs.length/\env 8=.int .i64 i/\U=⟨[],[]⟩/\∀ q∈fs.take i,q.2=0) fs.length ⟨0,by simp⟩ ?_;rintro n env U ⟨i,hi,rfl,h6,h7,h8,rfl,hz⟩
 cases hv:fs[i]? with
 | some q=>
  obtain⟨hc1,hv'⟩:=qoX.1 hv;have hm:=qoZ hv;simp[h6,h7,h8,hc1,hv'];refine qb.call (h q hm) (by simp[hc]) ?_;by_cases h0:q.2=0
  . simp[h0,h6,h7,h8];exact⟨_,by omega,i+1,by omega,rfl,wr (by omega) (by omega),by simpa using zc (p:=fun q:FuncId×Int=>q.2=0) hv hz h0⟩
  . rw[yT hv hz h0];simp[h0]
 | none=>
  have hc1:¬ i<fs.length:=by simp at hv;omega
  have ht:fs.take i=fs:=qo6 (by omega);rw[ht]at hz;rw[zF.2 hz];simp[h6,h7,h8,hc1]
theorem c61 (p:Problem)(h:VQ p):Pure Tryz.prog GG 41 [.rptr (qL p)] (.int .i64 (ja p.vars)):=by
 refine Pure.vc qe Tryz.func41 rfl (by kernel_rfl) ?_;simp;refine qb.call (vars62 p.vars (by have:=h.vars;omega) h.names) (by simp) ?_;simp
theorem c63 (p:Problem)(h:VQ p):Pure Tryz.prog GG 43 [.rptr (qL p)] (.int .i64 (qW (zr p.vars) (p.hard++p.soft))):=by
 refine Pure.vc qe Tryz.func43 rfl (by kernel_rfl) ?_;have:=qom p (by have:=h.vars;omega) h.hard h.soft h.exprs;simp only[qL]at this;simp;refine qb.call this (by simp) ?_;simp
theorem c65 (p:Problem)(h:VQ p):Pure Tryz.prog GG 45 [.rptr (qL p)] (.int .i64 (yl p.vars p.dists)):=by
 refine Pure.vc qe Tryz.func45 rfl (by kernel_rfl) ?_;have:=qox p h.dists h.weights;simp only[qL]at this;simp;refine qb.call this (by simp) ?_;simp
theorem c67 (p:Problem)(h:VQ p):Pure Tryz.prog GG 47 [.rptr (qL p)] (.int .i64 (zA p.vars p.groups)):=by
 refine Pure.vc qe Tryz.func47 rfl (by kernel_rfl) ?_;have:=qkR p h.vars h.groups h.group;simp only[qL]at this;simp;refine qb.call this (by simp) ?_;simp
theorem VF (p:Problem):qW (fun q:FuncId×Int=>q.2) [(41,ja p.vars),(43,qW (zr p.vars) (p.hard++p.soft)),(45,yl p.vars p.dists),(47,zA p.vars p.groups)]=qr p:=by
 simp only[qW,qr];by_cases h1:ja p.vars=0
 . by_cases h2:qW (zr p.vars) (p.hard++p.soft)=0
   . by_cases h3:yl p.vars p.dists=0
     . by_cases h4:zA p.vars p.groups=0<;>simp[h1,h2,h3,h4]
     . simp[h1,h2,h3]
   . simp[h1,h2]
 . simp[h1]
theorem jZ (p:Problem)(h:VQ p):Pure Tryz.prog GG 21 [.agg (qL p)] (.int .i64 (qr p)):=by
 refine Pure.vc qe Tryz.func21 rfl (by kernel_rfl) ?_;have hk:=qlo [(41,ja p.vars),(43,qW (zr p.vars) (p.hard++p.soft)),(45,yl p.vars p.dists),(47,zA p.vars p.groups)] (.rptr (qL p)) (by simp) (by simp) (by
  intro q hq;simp only[qpm,qqf,or_false]at hq;rcases hq with rfl|rfl|rfl|rfl
  . exact c61 p h
  . exact c63 p h
  . exact c65 p h
  . exact c67 p h)
 rw[VF]at hk;simp[qm,qz];refine qb.lent hk rfl ?_ ?_
 . simp[frz]
 . simp
theorem Qt (p:Problem)(h:VQ p)(hfl:p.groups.flatten.length<4611686018427387904):Pure Tryz.prog GG 5 [.agg (qL p)] (.int .i64 (qr p)):=by
 refine Pure.vc qe Tryz.func5 rfl (by kernel_rfl) ?_;have hlv:Fits p.vars:=by have:=h.vars;omega
 simp;refine qb.call (qby p.vars hlv h.names) (by simp) ?_;by_cases h1:ja p.vars=0
 . simp[h1];refine qb.call (QU p.vars hlv p.hard (by have:=h.hard;omega) fun e he=>h.exprs e (qpH _ he)) (by simp) ?_;by_cases h2:qW (zr p.vars) p.hard=0
   . simp[h2];refine qb.call (QU p.vars hlv p.soft (by have:=h.soft;omega) fun e he=>h.exprs e (qp5 _ he)) (by simp) ?_;by_cases h3:qW (zr p.vars) p.soft=0
     . have h23:qW (zr p.vars) (p.hard++p.soft)=0:=(by rw[jH,if_pos h2,h3]);simp[h3];refine qb.call (qow p.vars p.dists hlv h.dists h.weights) (by simp) ?_;by_cases h4:yl p.vars p.dists=0
       . simp[h4];have hv20:p.vars.length<=20:=by
          apply Classical.byContradiction;intro hn;have h16:16<p.vars.length:=(by omega);have e:ja p.vars=2:=(by simp[ja,h16]);omega
         refine qb.call (qkQ p.vars p.groups hv20 h.groups h.group hfl) (by simp) ?_;have x:qr p=zA p.vars p.groups:=(by unfold qr;simp[h1,h23,h4]);rw[x];by_cases hg:jP p.vars p.groups
         . rw[WG hg,show zA p.vars p.groups=0 by unfold zA;rw[if_pos hg]];simp
         . rw[Qh hg,show zA p.vars p.groups=1 by unfold zA;rw[if_neg hg]];simp
       . have x:qr p=yl p.vars p.dists:=(by unfold qr;simp[h1,h23,h4]);rw[x];simp[h4]
     . have x:qr p=qW (zr p.vars) p.soft:=by
        have h23:qW (zr p.vars) (p.hard++p.soft)=qW (zr p.vars) p.soft:=(by rw[jH,if_pos h2]);unfold qr;rw[h23];simp[h1,h3]
       rw[x];simp[h3]
   . have x:qr p=qW (zr p.vars) p.hard:=by
      have h23:qW (zr p.vars) (p.hard++p.soft)=qW (zr p.vars) p.hard:=(by rw[jH,if_neg h2]);unfold qr;rw[h23];simp[h1,h2]
     rw[x];simp[h2]
 . have x:qr p=ja p.vars:=(by unfold qr;simp[h1]);rw[x];simp[h1]
end Go.Proofs.YtcadpamddlofjaaGreatDoor
end
