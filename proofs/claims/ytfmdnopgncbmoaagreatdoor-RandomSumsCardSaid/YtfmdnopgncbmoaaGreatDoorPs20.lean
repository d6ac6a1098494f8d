import Derived.Test.YtfmdnopgncbmoaaGreatDoorPs14
import Derived.Test.YtfmdnopgncbmoaaGreatDoorPs15
import Derived.Test.YtfmdnopgncbmoaaGreatDoorPs16
import Derived.Test.YtfmdnopgncbmoaaGreatDoorPs19
import Derived.Test.YtfmdnopgncbmoaaGreatDoorPs11
set_option maxRecDepth 100000
set_option linter.all false
set_option linter.defProp false
namespace Go.Proofs.YtfmdnopgncbmoaaGreatDoor
open Go Go.Abs Tryz
structure VQ(p:Problem):Prop where
 vars:p.vars.length<=1000
 names:∀v∈p.vars,Fits v.name
 hard:p.hard.length<=10000
 soft:p.soft.length<=10000
 exprs:∀e∈p.hard++p.soft,Wen e/\hgt e<=1000/\(pre e).length<=100000
 dists:Fits p.dists
 weights:∀d∈p.dists,Fits d.weights
 groups:Fits p.groups
 group:∀g∈p.groups,Fits g
structure VP(p:Problem):Prop where
 vars20:p.vars.length<=20
 names:∀v∈p.vars,Fits v.name
 hard20:p.hard.length<=20
 soft20:p.soft.length<=20
 exprs:∀e∈p.hard++p.soft,Wen e/\hgt e<=1000/\(pre e).length<=100000
 dists:Fits p.dists
 weights:∀d∈p.dists,Fits d.weights
 groups:Fits p.groups
 group:∀g∈p.groups,Fits g
 flat:p.groups.flatten.length<1000000
def VP.q{p}(h:VP p):VQ p:=⟨by have:=h.vars20;omega,h.names,by have:=h.hard20;omega,by have:=h.soft20;omega,h.exprs,h.dists,h.weights,h.groups,h.group⟩
def qmO(fs:List (FuncId×Int))(c:AV)(hc:zb c=true)(hl:Fits fs)(h:∀q∈fs,Pure prog GG q.1 [c] (.int .i64 q.2)):Pure prog GG 96 [.sl 1 (fs.map fun q=>[.fn q.1 [] [c]]) .none] (.int .i64 (qO (fun q=>q.2) fs)):=by
 refine qDb qe func96 rfl (by kernel_rfl) ?_;simp;refine qC9 (fun n env U=>∃i,i<=fs.length/\n=fs.length-i/\env 6=.sl 1 (fs.map fun q=>[.fn q.1 [] [c]]) .none/\env 7=.int .i64 fs.length/\env 8=.int .i64 i/\U=⟨[],[]⟩/\∀q∈fs.take i,q.2=0) fs.length ⟨0,by simp⟩ ?_;rintro n env U ⟨i,hi,rfl,h6,h7,h8,rfl,hz⟩
 cases hv:fs[i]? with
 | some q=>
  obtain⟨hc1,hv'⟩:=qyF.1 hv;have hm:=qyG hv;simp[h6,h7,h8,hc1,hv'];refine qCW (h q hm) (by simp[hc]) ?_;by_cases h0:q.2=0
  . simp[h0,h6,h7,h8];exact⟨_,by omega,i+1,by omega,rfl,wr (by omega) (by omega),by simpa using za (p:=fun q:FuncId×Int=>q.2=0) hv hz h0⟩
  rw[kh hv hz h0];simp[h0]
 | none=>
  have hc1:¬i<fs.length:=by simp at hv;omega
  rw[show fs.take i=fs from qyN (by omega)]at hz;rw[zz.2 hz];simp[h6,h7,h8,hc1]
def c61(p)(h:VQ p):Pure prog GG 97 [.rptr (qA p)] (.int .i64 (zW p.vars)):=by
 refine qDb qe func97 rfl (by kernel_rfl) ?_;simp;refine qCW (qrO p.vars (by have:=h.vars;omega) h.names) (by simp) ?_;simp
def c63(p)(h:VQ p):Pure prog GG 99 [.rptr (qA p)] (.int .i64 (qO (zi p.vars) (p.hard++p.soft))):=by
 refine qDb qe func99 rfl (by kernel_rfl) ?_;have:=qql p (by have:=h.vars;omega) h.hard h.soft h.exprs;simp only[qA]at this;simp;refine qCW this (by simp) ?_;simp
def c65(p)(h:VQ p):Pure prog GG 101 [.rptr (qA p)] (.int .i64 (yi p.vars p.dists)):=by
 refine qDb qe func101 rfl (by kernel_rfl) ?_;have:=qqw p h.dists h.weights;simp only[qA]at this;simp;refine qCW this (by simp) ?_;simp
def c67(p)(h:VQ p):Pure prog GG 103 [.rptr (qA p)] (.int .i64 (zy p.vars p.groups)):=by
 refine qDb qe func103 rfl (by kernel_rfl) ?_;have:=qmc p h.vars h.groups h.group;simp only[qA]at this;simp;refine qCW this (by simp) ?_;simp
def qap(p):qO (fun q:FuncId×Int=>q.2) [(97,zW p.vars),(99,qO (zi p.vars) (p.hard++p.soft)),(101,yi p.vars p.dists),(103,zy p.vars p.groups)]=qk p:=by
 simp only[qO,qk];by_cases h1:zW p.vars=0
 . by_cases h2:qO (zi p.vars) (p.hard++p.soft)=0
   . by_cases h3:yi p.vars p.dists=0
     . by_cases h4:zy p.vars p.groups=0<;>simp[h1,h2,h3,h4]
     . simp[h1,h2,h3]
   . simp[h1,h2]
 simp[h1]
def yw(p)(h:VQ p):Pure prog GG 56 [.agg (qA p)] (.int .i64 (qk p)):=by
 refine qDb qe func56 rfl (by kernel_rfl) ?_;have hk:=qmO [(97,zW p.vars),(99,qO (zi p.vars) (p.hard++p.soft)),(101,yi p.vars p.dists),(103,zy p.vars p.groups)] (.rptr (qA p)) (by simp) (by simp) (by
  intro q hq;simp only[qy9,qAd,or_false]at hq;rcases hq with rfl|rfl|rfl|rfl
  . exact c61 p h
  . exact c63 p h
  . exact c65 p h
  exact c67 p h)
 rw[qap]at hk;simp[qj,qs];refine qb.lent hk rfl ?_ ?_
 . simp[frz]
 simp
def qdy(p)(h:VQ p)(hfl:p.groups.flatten.length<4611686018427387904):Pure prog GG 13 [.agg (qA p)] (.int .i64 (qk p)):=by
 refine qDb qe func13 rfl (by kernel_rfl) ?_;have hlv:Fits p.vars:=by have:=h.vars;omega
 simp;refine qCW (qcn p.vars hlv h.names) (by simp) ?_;by_cases h1:zW p.vars=0
 . simp[h1];refine qCW (Ze p.vars hlv p.hard (by have:=h.hard;omega) fun e he=>h.exprs e (qzM _ he)) (by simp) ?_;by_cases h2:qO (zi p.vars) p.hard=0
   . simp[h2];refine qCW (Ze p.vars hlv p.soft (by have:=h.soft;omega) fun e he=>h.exprs e (qAs _ he)) (by simp) ?_;by_cases h3:qO (zi p.vars) p.soft=0
     . have h23:qO (zi p.vars) (p.hard++p.soft)=0:=(by rw[jQ,if_pos h2,h3]);simp[h3];refine qCW (qqv p.vars p.dists hlv h.dists h.weights) (by simp) ?_;by_cases h4:yi p.vars p.dists=0
       . simp[h4];have hv20:p.vars.length<=20:=by
          apply Classical.byContradiction;intro hn;have e:zW p.vars=2:=(by simp[zW,show 16<p.vars.length by omega]);omega
         refine qCW (qmb p.vars p.groups hv20 h.groups h.group hfl) (by simp) ?_;have x:qk p=zy p.vars p.groups:=(by unfold qk;simp[h1,h23,h4]);rw[x];by_cases hg:jR p.vars p.groups
         . rw[Vd hg,show zy p.vars p.groups=0 by unfold zy;rw[if_pos hg]];simp
         rw[QA hg,show zy p.vars p.groups=1 by unfold zy;rw[if_neg hg]];simp
       have x:qk p=yi p.vars p.dists:=(by unfold qk;simp[h1,h23,h4]);rw[x];simp[h4]
     have x:qk p=qO (zi p.vars) p.soft:=by
      have h23:qO (zi p.vars) (p.hard++p.soft)=qO (zi p.vars) p.soft:=(by rw[jQ,if_pos h2]);unfold qk;rw[h23];simp[h1,h3]
     rw[x];simp[h3]
   have x:qk p=qO (zi p.vars) p.hard:=by
    unfold qk;rw[show qO (zi p.vars) (p.hard++p.soft)=qO (zi p.vars) p.hard by rw[jQ,if_neg h2]];simp[h1,h2]
   rw[x];simp[h2]
 have x:qk p=zW p.vars:=by unfold qk;simp[h1]
 rw[x];simp[h1]
def qoM(p)(h:VP p):Pure prog GG 13 [.agg (qA p)] (.int .i64 (qk p)):=qdy p h.q (by have:=h.flat;omega)
