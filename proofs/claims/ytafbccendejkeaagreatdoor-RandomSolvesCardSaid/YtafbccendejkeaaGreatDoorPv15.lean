import Derived.Test.YtafbccendejkeaaGreatDoorPv13
import Derived.Test.YtafbccendejkeaaGreatDoorPv14
import Derived.Test.YtafbccendejkeaaGreatDoorPv10
import Derived.Test.YtafbccendejkeaaGreatDoorPv11
import Derived.Test.YtafbccendejkeaaGreatDoorPv12
set_option maxRecDepth 100000
set_option linter.all false
namespace Go.Proofs.YtafbccendejkeaaGreatDoor
open Go Go.Abs Tryz
def qrW(U b)(h:U.H[b]?=some (.cells [.int .i64 0,.int .i64 0,.int .i64 0,.sl 0 [] .nil,.sl 0 [] .nil])):OS b 0 0 0 [] [] none none U U :=
 ⟨h,rfl,rfl,fun h=>absurd rfl h,qBl _,fun _ _ _=>rfl⟩
def qrX(e)(hwe:Wen e)(hh:hgt e<=1000)(hsz:(pre e).length<=200000000000)(U0):qj prog GG 229 [.agg (qp e)] U0 (fun r U=>∃b V A tv ta,r=.ptr b 0/\U.H[b]?=some (.cells [.int .i64 (W4 e),.int .i64 (hgt e),.int .i64 (qU qt (pre e)),slS V tv,slS A ta])/\TT V tv U.T/\V=W5 [] (pre e)):=by
 refine qj.vc qX func229 rfl (by kernel_rfl) ?_;simp only[qc e];simp[zt,zX];rw[<- qc e];refine qFN (quN e hwe _ (U0.H.length+1) 0 0 0 [] [] none none 1 0 (qrW _ _ (by simp)) (by simp) (by omega) (by omega) (by omega)) ?_;rintro r U ⟨V,A,tv,ta,hos,_,hV⟩;have hb:=hos.hb;rw[show max 0 (1+(hgt e:Int)-1)=hgt e by omega]at hb;simp only[if_true,qFq]at hb
 try simp
 exact⟨V,A,tv,⟨ta,hb⟩,hos.tV,hV⟩
def qja(e)(hwe:Wen e)(hh:hgt e<=1000)(hsz:(pre e).length<=100000):Pure prog GG 161 [.agg (qp e)] (.int .i64 (zk e)):=by
 refine okzQ func161 rfl rfl ?_;simp only[qc e];simp;rw[<- qc e];refine qFN (qrX e hwe hh (by omega) _) ?_;rintro r U ⟨b,V,A,tv,ta,rfl,hb,_,_⟩;by_cases h0:qU qt (pre e)=0
 . rw[h0]at hb;by_cases h24:24<hgt e
   . have h24':(24:Int)<hgt e:=(by omega);have x:zk e=2:=(by unfold zk;rw[if_pos ⟨h0,.inl h24⟩]);rw[x];simp[hb,h24']
   have h24':¬(24:Int)<hgt e:=(by omega);by_cases h4:400<W4 e
   . have x:zk e=2:=(by unfold zk;rw[if_pos ⟨h0,.inr h4⟩]);rw[x];simp[hb,h24',h4]
   have x:zk e=0:=(by unfold zk;rw[if_neg (fun h=>by rcases h.2 with h|h;exact h24 h;exact h4 h),h0]);rw[x];simp[hb,h24',h4]
 have x:zk e=qU qt (pre e):=by unfold zk;rw[if_neg (fun h=>h0 h.1)]
 rw[x];simp[hb,h0]
def qeZ(l e):zy l e=if zk e=0 then VG l e else zk e:=by
 unfold zy VG;by_cases h:zk e=0
 . rw[if_neg (by simpa using h),if_pos h]
 rw[if_pos h,if_neg h]
def Jg(l)(hlv:Fits l)(x)(hx:x.length<=1000000)(hw:∀e∈x,Wen e/\hgt e<=1000/\(pre e).length<=100000):Pure prog GG 106 [.sl 4 (l.map qG) .none,.sl 4 (x.map qp) .none] (.int .i64 (qU (zy l) x)):=by
 refine okzQ func106 rfl rfl ?_;simp;refine qFW (fun n env U=>∃i,i<=x.length/\n=x.length-i/\env 0=.sl 4 (l.map qG) .none/\env 1=.sl 4 (x.map qp) .none/\env 5=.int .i64 i/\U=⟨[],[]⟩/\∀e∈x.take i,zy l e=0) x.length ⟨0,by simp⟩ ?_;rintro n env U ⟨i,hi,rfl,h0,h1,h5,rfl,hz⟩
 cases hv:x[i]? with
 | some e=>
  obtain⟨hc,hv'⟩:=qBa.1 hv;have hm:=qBb hv;obtain⟨hwe,hh,hsz⟩:=hw e hm;have hep:=qeZ l e;simp[h1,h5,hc,hv',qc e];rw[<- qc e];refine qFJ (qja e hwe hh hsz) (by simp) ?_;by_cases hve:zk e=0
  . rw[if_pos hve]at hep;simp[hve,h0,h1,h5,hc,hv',qc e];rw[<- qc e];refine qFJ (qnM l hlv e hwe) (by simp) ?_;by_cases hp:VG l e=0
    . simp[hp,h0,h1,h5];exact⟨_,by omega,i+1,by omega,rfl,wr (by omega) (by omega),qW hv hz (by rwa[hep])⟩
    rw[wj hv hz (by rwa[hep]),hep];simp[hp]
  rw[if_neg hve]at hep;rw[wj hv hz (by rwa[hep]),hep];simp[hve]
 | none=>
  have hc:¬i<x.length:=by simp at hv;omega
  rw[show x.take i=x from qBh (by omega)]at hz;rw[zC.2 hz];simp[h1,h5,hc]
structure VQ(p:Problem):Prop where
 vars:p.vars.length<=1000
 names:∀v∈p.vars,Fits v.name
 hard:p.hard.length<=10000
 soft:p.soft.length<=10000
 exprs:∀e∈p.hard++p.soft,Wen e/\hgt e<=1000/\(pre e).length<=100000
 dists:Fits p.dists
 weights:∀d∈p.dists,Fits d.weights
 groups:Fits p.groups
 group:∀g∈p.groups,Fits g
structure VP(p:Problem):Prop where
 vars20:p.vars.length<=20
 names:∀v∈p.vars,Fits v.name
 hard20:p.hard.length<=20
 soft20:p.soft.length<=20
 exprs:∀e∈p.hard++p.soft,Wen e/\hgt e<=1000/\(pre e).length<=100000
 dists:Fits p.dists
 weights:∀d∈p.dists,Fits d.weights
 groups:Fits p.groups
 group:∀g∈p.groups,Fits g
 flat:p.groups.flatten.length<1000000
def VP.q{p}(h:VP p):VQ p:=⟨by have:=h.vars20;omega,h.names,by have:=h.hard20;omega,by have:=h.soft20;omega,h.exprs,h.dists,h.weights,h.groups,h.group⟩
def qo1(fs:List (FuncId×Int))(c:AV)(hc:qL c=true)(hl:Fits fs)(h:∀q∈fs,Pure prog GG q.1 [c] (.int .i64 q.2)):Pure prog GG 119 [.sl 1 (fs.map fun q=>[.fn q.1 [] [c]]) .none] (.int .i64 (qU (fun q=>q.2) fs)):=by
 refine okzQ func119 rfl rfl ?_;simp;refine qFW (fun n env U=>∃i,i<=fs.length/\n=fs.length-i/\env 6=.sl 1 (fs.map fun q=>[.fn q.1 [] [c]]) .none/\env 7=.int .i64 fs.length/\env 8=.int .i64 i/\U=⟨[],[]⟩/\∀q∈fs.take i,q.2=0) fs.length ⟨0,by simp⟩ ?_;rintro n env U ⟨i,hi,rfl,h6,h7,h8,rfl,hz⟩
 cases hv:fs[i]? with
 | some q=>
  obtain⟨hc1,hv'⟩:=qBa.1 hv;have hm:=qBb hv;simp[h6,h7,h8,hc1,hv'];refine qFJ (h q hm) (by simp[hc]) ?_;by_cases h0:q.2=0
  . simp[h0,h6,h7,h8];exact⟨_,by omega,i+1,by omega,rfl,wr (by omega) (by omega),by simpa using qW (p:=fun q:FuncId×Int=>q.2=0) hv hz h0⟩
  rw[wj hv hz h0];simp[h0]
 | none=>
  have hc1:¬i<fs.length:=by simp at hv;omega
  rw[show fs.take i=fs from qBh (by omega)]at hz;rw[zC.2 hz];simp[h6,h7,h8,hc1]
def c61(p)(h:VQ p):Pure prog GG 120 [.rptr (qu p)] (.int .i64 (jj p.vars)):=by
 refine okzQ func120 rfl rfl ?_;simp;refine qFJ (qut p.vars (by have:=h.vars;omega) h.names) (by simp) ?_;simp
def c63(p)(h:VQ p):Pure prog GG 122 [.rptr (qu p)] (.int .i64 (qU (zy p.vars) (p.hard++p.soft))):=by
 refine okzQ func122 rfl rfl ?_;have:=qsW p (by have:=h.vars;omega) h.hard h.soft h.exprs;simp only[qu]at this;simp;refine qFJ this (by simp) ?_;simp
def c65(p)(h:VQ p):Pure prog GG 124 [.rptr (qu p)] (.int .i64 (yC p.vars p.dists)):=by
 refine okzQ func124 rfl rfl ?_;have:=qs7 p h.dists h.weights;simp only[qu]at this;simp;refine qFJ this (by simp) ?_;simp
def c67(p)(h:VQ p):Pure prog GG 126 [.rptr (qu p)] (.int .i64 (zH p.vars p.groups)):=by
 refine okzQ func126 rfl rfl ?_;have:=qop p h.vars h.groups h.group;simp only[qu]at this;simp;refine qFJ this (by simp) ?_;simp
def qbY(p):qU (fun q:FuncId×Int=>q.2) [(120,jj p.vars),(122,qU (zy p.vars) (p.hard++p.soft)),(124,yC p.vars p.dists),(126,zH p.vars p.groups)]=qg p:=by
 simp only[qU,qg];by_cases h1:jj p.vars=0
 . by_cases h2:qU (zy p.vars) (p.hard++p.soft)=0
   . by_cases h3:yC p.vars p.dists=0
     . by_cases h4:zH p.vars p.groups=0<;>simp[h1,h2,h3,h4]
     . simp[h1,h2,h3]
   . simp[h1,h2]
 simp[h1]
def ke(p)(h:VQ p):Pure prog GG 74 [.agg (qu p)] (.int .i64 (qg p)):=by
 refine okzQ func74 rfl rfl ?_;have hk:=qo1 [(120,jj p.vars),(122,qU (zy p.vars) (p.hard++p.soft)),(124,yC p.vars p.dists),(126,zH p.vars p.groups)] (.rptr (qu p)) (by simp) (by simp) (by
  intro q hq;simp only[qBz,qCQ,or_false]at hq;rcases hq with rfl|rfl|rfl|rfl
  . exact c61 p h
  . exact c63 p h
  . exact c65 p h
  exact c67 p h)
 rw[qbY]at hk;simp[qe,ql];refine qa.lent hk rfl ?_ ?_
 . simp[frz]
 simp
def YH(p)(h:VQ p)(hfl:p.groups.flatten.length<4611686018427387904):Pure prog GG 61 [.agg (qu p)] (.int .i64 (qg p)):=by
 refine qFZ qX func61 rfl (by kernel_rfl) ?_;have hlv:Fits p.vars:=by have:=h.vars;omega
 simp;refine qFJ (qd3 p.vars hlv h.names) (by simp) ?_;by_cases h1:jj p.vars=0
 . simp[h1];refine qFJ (Jg p.vars hlv p.hard (by have:=h.hard;omega) fun e he=>h.exprs e (qB1 _ he)) (by simp) ?_;by_cases h2:qU (zy p.vars) p.hard=0
   . simp[h2];refine qFJ (Jg p.vars hlv p.soft (by have:=h.soft;omega) fun e he=>h.exprs e (qCE _ he)) (by simp) ?_;by_cases h3:qU (zy p.vars) p.soft=0
     . have h23:qU (zy p.vars) (p.hard++p.soft)=0:=(by rw[yh,if_pos h2,h3]);simp[h3];refine qFJ (qs6 p.vars p.dists hlv h.dists h.weights) (by simp) ?_;by_cases h4:yC p.vars p.dists=0
       . simp[h4];have hv20:p.vars.length<=20:=by
          apply Classical.byContradiction;intro hn;have e:jj p.vars=2:=(by simp[jj,show 16<p.vars.length by omega]);omega
         refine qFJ (qoo p.vars p.groups hv20 h.groups h.group hfl) (by simp) ?_;have x:qg p=zH p.vars p.groups:=(by unfold qg;simp[h1,h23,h4]);rw[x];by_cases hg:yi p.vars p.groups
         . rw[qaP hg,show zH p.vars p.groups=0 by unfold zH;rw[if_pos hg]];simp
         rw[Zt hg,show zH p.vars p.groups=1 by unfold zH;rw[if_neg hg]];simp
       have x:qg p=yC p.vars p.dists:=(by unfold qg;simp[h1,h23,h4]);rw[x];simp[h4]
     have x:qg p=qU (zy p.vars) p.soft:=by
      have h23:qU (zy p.vars) (p.hard++p.soft)=qU (zy p.vars) p.soft:=(by rw[yh,if_pos h2]);unfold qg;rw[h23];simp[h1,h3]
     rw[x];simp[h3]
   have x:qg p=qU (zy p.vars) p.hard:=by
    unfold qg;rw[show qU (zy p.vars) (p.hard++p.soft)=qU (zy p.vars) p.hard by rw[yh,if_neg h2]];simp[h1,h2]
   rw[x];simp[h2]
 have x:qg p=jj p.vars:=by unfold qg;simp[h1]
 rw[x];simp[h1]
def qq5(p)(h:VP p):Pure prog GG 61 [.agg (qu p)] (.int .i64 (qg p)):=YH p h.q (by have:=h.flat;omega)
structure HC(p:Problem)(c:List (List Int)):Prop where
 fits:Fits c
 each:∀l∈c,Fits l
