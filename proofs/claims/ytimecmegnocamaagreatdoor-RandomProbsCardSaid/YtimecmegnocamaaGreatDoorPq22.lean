import Derived.Test.YtimecmegnocamaaGreatDoorPq20
import Derived.Test.YtimecmegnocamaaGreatDoorPq21
import Derived.Test.YtimecmegnocamaaGreatDoorPq17
import Derived.Test.YtimecmegnocamaaGreatDoorPq18
import Derived.Test.YtimecmegnocamaaGreatDoorPq19
import Derived.Test.YtimecmegnocamaaGreatDoorPq13
set_option maxRecDepth 100000
set_option linter.all false
set_option linter.defProp false
namespace Go.Proofs.YtimecmegnocamaaGreatDoor
open Go Go.Abs Tryz
def qrH(U b)(h:U.H[b]?=some (.cells [.int .i64 0,.int .i64 0,.int .i64 0,.sl 0 [] .nil,.sl 0 [] .nil])):OS b 0 0 0 [] [] none none U U :=
 ⟨h,rfl,rfl,fun h=>absurd rfl h,qA5 _,fun _ _ _=>rfl⟩
def qrI(e)(hwe:Wen e)(hh:hgt e<=1000)(hsz:(pre e).length<=200000000000)(U0):qj prog GG 226 [.agg (qt e)] U0 (fun r U=>∃b V A tv ta,r=.ptr b 0/\U.H[b]?=some (.cells [.int .i64 (WU e),.int .i64 (hgt e),.int .i64 (qY qv (pre e)),slS V tv,slS A ta])/\TT V tv U.T/\V=WV [] (pre e)):=by
 refine qj.vc qg func226 rfl (by kernel_rfl) ?_;simp only[qc e];simp[zu,zZ];rw[<- qc e];refine qFD (qux e hwe _ (U0.H.length+1) 0 0 0 [] [] none none 1 0 (qrH _ _ (by simp)) (by simp) (by omega) (by omega) (by omega)) ?_;rintro r U ⟨V,A,tv,ta,hos,_,hV⟩;have hb:=hos.hb;rw[show max 0 (1+(hgt e:Int)-1)=hgt e by omega]at hb;simp only[if_true,qFe]at hb
 try simp
 exact⟨V,A,tv,⟨ta,hb⟩,hos.tV,hV⟩
def qi6(e)(hwe:Wen e)(hh:hgt e<=1000)(hsz:(pre e).length<=100000):Pure prog GG 149 [.agg (qt e)] (.int .i64 (zp e)):=by
 refine qFP qg func149 rfl (by kernel_rfl) ?_;simp only[qc e];simp;rw[<- qc e];refine qFD (qrI e hwe hh (by omega) _) ?_;rintro r U ⟨b,V,A,tv,ta,rfl,hb,_,_⟩;by_cases h0:qY qv (pre e)=0
 . rw[h0]at hb;by_cases h24:24<hgt e
   . have h24':(24:Int)<hgt e:=(by omega);have x:zp e=2:=(by unfold zp;rw[if_pos ⟨h0,.inl h24⟩]);rw[x];simp[hb,h24']
   have h24':¬(24:Int)<hgt e:=(by omega);by_cases h4:400<WU e
   . have x:zp e=2:=(by unfold zp;rw[if_pos ⟨h0,.inr h4⟩]);rw[x];simp[hb,h24',h4]
   have x:zp e=0:=(by unfold zp;rw[if_neg (fun h=>by rcases h.2 with h|h;exact h24 h;exact h4 h),h0]);rw[x];simp[hb,h24',h4]
 have x:zp e=qY qv (pre e):=by unfold zp;rw[if_neg (fun h=>h0 h.1)]
 rw[x];simp[hb,h0]
def qeM(l e):zB l e=if zp e=0 then Vw l e else zp e:=by
 unfold zB Vw;by_cases h:zp e=0
 . rw[if_neg (by simpa using h),if_pos h]
 rw[if_pos h,if_neg h]
def Z3(l)(hlv:Fits l)(x)(hx:x.length<=1000000)(hw:∀e∈x,Wen e/\hgt e<=1000/\(pre e).length<=100000):Pure prog GG 94 [.sl 4 (l.map qM) .none,.sl 4 (x.map qt) .none] (.int .i64 (qY (zB l) x)):=by
 refine qFP qg func94 rfl (by kernel_rfl) ?_;simp;refine qFM (fun n env U=>∃i,i<=x.length/\n=x.length-i/\env 0=.sl 4 (l.map qM) .none/\env 1=.sl 4 (x.map qt) .none/\env 5=.int .i64 i/\U=⟨[],[]⟩/\∀e∈x.take i,zB l e=0) x.length ⟨0,by simp⟩ ?_;rintro n env U ⟨i,hi,rfl,h0,h1,h5,rfl,hz⟩
 cases hv:x[i]? with
 | some e=>
  obtain⟨hc,hv'⟩:=qAU.1 hv;have hm:=qAV hv;obtain⟨hwe,hh,hsz⟩:=hw e hm;have hep:=qeM l e;simp[h1,h5,hc,hv',qc e];rw[<- qc e];refine qFz (qi6 e hwe hh hsz) (by simp) ?_;by_cases hve:zp e=0
  . rw[if_pos hve]at hep;simp[hve,h0,h1,h5,hc,hv',qc e];rw[<- qc e];refine qFz (qnF l hlv e hwe) (by simp) ?_;by_cases hp:Vw l e=0
    . simp[hp,h0,h1,h5];exact⟨_,by omega,i+1,by omega,rfl,wr (by omega) (by omega),q9 hv hz (by rwa[hep])⟩
    rw[k0 hv hz (by rwa[hep]),hep];simp[hp]
  rw[if_neg hve]at hep;rw[k0 hv hz (by rwa[hep]),hep];simp[hve]
 | none=>
  have hc:¬i<x.length:=by simp at hv;omega
  rw[show x.take i=x from qAZ (by omega)]at hz;rw[zF.2 hz];simp[h1,h5,hc]
structure VQ(p:Problem):Prop where
 vars:p.vars.length<=1000
 names:∀v∈p.vars,Fits v.name
 hard:p.hard.length<=10000
 soft:p.soft.length<=10000
 exprs:∀e∈p.hard++p.soft,Wen e/\hgt e<=1000/\(pre e).length<=100000
 dists:Fits p.dists
 weights:∀d∈p.dists,Fits d.weights
 groups:Fits p.groups
 group:∀g∈p.groups,Fits g
structure VP(p:Problem):Prop where
 vars20:p.vars.length<=20
 names:∀v∈p.vars,Fits v.name
 hard20:p.hard.length<=20
 soft20:p.soft.length<=20
 exprs:∀e∈p.hard++p.soft,Wen e/\hgt e<=1000/\(pre e).length<=100000
 dists:Fits p.dists
 weights:∀d∈p.dists,Fits d.weights
 groups:Fits p.groups
 group:∀g∈p.groups,Fits g
 flat:p.groups.flatten.length<1000000
def VP.q{p}(h:VP p):VQ p:=⟨by have:=h.vars20;omega,h.names,by have:=h.hard20;omega,by have:=h.soft20;omega,h.exprs,h.dists,h.weights,h.groups,h.group⟩
def qoU(fs:List (FuncId×Int))(c:AV)(hc:qO c=true)(hl:Fits fs)(h:∀q∈fs,Pure prog GG q.1 [c] (.int .i64 q.2)):Pure prog GG 118 [.sl 1 (fs.map fun q=>[.fn q.1 [] [c]]) .none] (.int .i64 (qY (fun q=>q.2) fs)):=by
 refine qFP qg func118 rfl (by kernel_rfl) ?_;simp;refine qFM (fun n env U=>∃i,i<=fs.length/\n=fs.length-i/\env 6=.sl 1 (fs.map fun q=>[.fn q.1 [] [c]]) .none/\env 7=.int .i64 fs.length/\env 8=.int .i64 i/\U=⟨[],[]⟩/\∀q∈fs.take i,q.2=0) fs.length ⟨0,by simp⟩ ?_;rintro n env U ⟨i,hi,rfl,h6,h7,h8,rfl,hz⟩
 cases hv:fs[i]? with
 | some q=>
  obtain⟨hc1,hv'⟩:=qAU.1 hv;have hm:=qAV hv;simp[h6,h7,h8,hc1,hv'];refine qFz (h q hm) (by simp[hc]) ?_;by_cases h0:q.2=0
  . simp[h0,h6,h7,h8];exact⟨_,by omega,i+1,by omega,rfl,wr (by omega) (by omega),by simpa using q9 (p:=fun q:FuncId×Int=>q.2=0) hv hz h0⟩
  rw[k0 hv hz h0];simp[h0]
 | none=>
  have hc1:¬i<fs.length:=by simp at hv;omega
  rw[show fs.take i=fs from qAZ (by omega)]at hz;rw[zF.2 hz];simp[h6,h7,h8,hc1]
def c61(p)(h:VQ p):Pure prog GG 119 [.rptr (qA p)] (.int .i64 (jg p.vars)):=by
 refine qFP qg func119 rfl (by kernel_rfl) ?_;simp;refine qFz (quc p.vars (by have:=h.vars;omega) h.names) (by simp) ?_;simp
def c63(p)(h:VQ p):Pure prog GG 121 [.rptr (qA p)] (.int .i64 (qY (zB p.vars) (p.hard++p.soft))):=by
 refine qFP qg func121 rfl (by kernel_rfl) ?_;have:=qsK p (by have:=h.vars;omega) h.hard h.soft h.exprs;simp only[qA]at this;simp;refine qFz this (by simp) ?_;simp
def c65(p)(h:VQ p):Pure prog GG 123 [.rptr (qA p)] (.int .i64 (yB p.vars p.dists)):=by
 refine qFP qg func123 rfl (by kernel_rfl) ?_;have:=qsU p h.dists h.weights;simp only[qA]at this;simp;refine qFz this (by simp) ?_;simp
def c67(p)(h:VQ p):Pure prog GG 125 [.rptr (qA p)] (.int .i64 (zK p.vars p.groups)):=by
 refine qFP qg func125 rfl (by kernel_rfl) ?_;have:=qok p h.vars h.groups h.group;simp only[qA]at this;simp;refine qFz this (by simp) ?_;simp
def qbK(p):qY (fun q:FuncId×Int=>q.2) [(119,jg p.vars),(121,qY (zB p.vars) (p.hard++p.soft)),(123,yB p.vars p.dists),(125,zK p.vars p.groups)]=qo p:=by
 simp only[qY,qo];by_cases h1:jg p.vars=0
 . by_cases h2:qY (zB p.vars) (p.hard++p.soft)=0
   . by_cases h3:yB p.vars p.dists=0
     . by_cases h4:zK p.vars p.groups=0<;>simp[h1,h2,h3,h4]
     . simp[h1,h2,h3]
   . simp[h1,h2]
 simp[h1]
def ka(p)(h:VQ p):Pure prog GG 69 [.agg (qA p)] (.int .i64 (qo p)):=by
 refine qFP qg func69 rfl (by kernel_rfl) ?_;have hk:=qoU [(119,jg p.vars),(121,qY (zB p.vars) (p.hard++p.soft)),(123,yB p.vars p.dists),(125,zK p.vars p.groups)] (.rptr (qA p)) (by simp) (by simp) (by
  intro q hq;simp only[qBt,qDg,or_false]at hq;rcases hq with rfl|rfl|rfl|rfl
  . exact c61 p h
  . exact c63 p h
  . exact c65 p h
  exact c67 p h)
 rw[qbK]at hk;simp[qi,qp];refine qa.lent hk rfl ?_ ?_
 . simp[frz]
 simp
def Yt(p)(h:VQ p)(hfl:p.groups.flatten.length<4611686018427387904):Pure prog GG 51 [.agg (qA p)] (.int .i64 (qo p)):=by
 refine qFP qg func51 rfl (by kernel_rfl) ?_;have hlv:Fits p.vars:=by have:=h.vars;omega
 simp;refine qFz (qdU p.vars hlv h.names) (by simp) ?_;by_cases h1:jg p.vars=0
 . simp[h1];refine qFz (Z3 p.vars hlv p.hard (by have:=h.hard;omega) fun e he=>h.exprs e (qBJ _ he)) (by simp) ?_;by_cases h2:qY (zB p.vars) p.hard=0
   . simp[h2];refine qFz (Z3 p.vars hlv p.soft (by have:=h.soft;omega) fun e he=>h.exprs e (qCl _ he)) (by simp) ?_;by_cases h3:qY (zB p.vars) p.soft=0
     . have h23:qY (zB p.vars) (p.hard++p.soft)=0:=(by rw[yg,if_pos h2,h3]);simp[h3];refine qFz (qsT p.vars p.dists hlv h.dists h.weights) (by simp) ?_;by_cases h4:yB p.vars p.dists=0
       . simp[h4];have hv20:p.vars.length<=20:=by
          apply Classical.byContradiction;intro hn;have e:jg p.vars=2:=(by simp[jg,show 16<p.vars.length by omega]);omega
         refine qFz (qoj p.vars p.groups hv20 h.groups h.group hfl) (by simp) ?_;have x:qo p=zK p.vars p.groups:=(by unfold qo;simp[h1,h23,h4]);rw[x];by_cases hg:yh p.vars p.groups
         . rw[qaA hg,show zK p.vars p.groups=0 by unfold zK;rw[if_pos hg]];simp
         rw[Zi hg,show zK p.vars p.groups=1 by unfold zK;rw[if_neg hg]];simp
       have x:qo p=yB p.vars p.dists:=(by unfold qo;simp[h1,h23,h4]);rw[x];simp[h4]
     have x:qo p=qY (zB p.vars) p.soft:=by
      have h23:qY (zB p.vars) (p.hard++p.soft)=qY (zB p.vars) p.soft:=(by rw[yg,if_pos h2]);unfold qo;rw[h23];simp[h1,h3]
     rw[x];simp[h3]
   have x:qo p=qY (zB p.vars) p.hard:=by
    unfold qo;rw[show qY (zB p.vars) (p.hard++p.soft)=qY (zB p.vars) p.hard by rw[yg,if_neg h2]];simp[h1,h2]
   rw[x];simp[h2]
 have x:qo p=jg p.vars:=by unfold qo;simp[h1]
 rw[x];simp[h1]
def qqU(p)(h:VP p):Pure prog GG 51 [.agg (qA p)] (.int .i64 (qo p)):=Yt p h.q (by have:=h.flat;omega)
structure HC(p:Problem)(c:List (List Int)):Prop where
 fits:Fits c
 each:∀l∈c,Fits l
