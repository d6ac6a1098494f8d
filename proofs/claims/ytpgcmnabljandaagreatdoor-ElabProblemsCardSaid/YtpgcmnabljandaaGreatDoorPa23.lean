/- A part of the proof. -/
import Derived.Test.YtpgcmnabljandaaGreatDoorPa22
import Derived.Test.YtpgcmnabljandaaGreatDoorPa18
set_option linter.unusedVariables false
set_option linter.unusedSimpArgs false
set_option maxRecDepth 100000
set_option linter.defProp false
attribute [local simp] Go.Abs.acells Go.Abs.fin Go.Abs.zh Go.Abs.ze Go.Abs.pl1 Go.Abs.plain Go.Abs.pl2 Go.Abs.AV.atom
section
namespace Go.Proofs.YtpgcmnabljandaaGreatDoor
open Go Go.Abs
theorem qpQ (O:St)(b:Nat)(h:O.H[b]?=some (.cells [.int .i64 0,.int .i64 0,.int .i64 0,.sl 0 [] .nil,.sl 0 [] .nil])):OS b 0 0 0 [] [] none none O O :=
 ⟨h,rfl,rfl,fun h=>absurd rfl h,qrn _,fun _ _ _=>rfl⟩
theorem qpR (e:Ex)(hwe:Wen e)(hh:hgt e<=1000)(hsz:(pre e).length<=100000)(O0:St):qq Zp GG 159 [.agg (qz e)] O0 (fun r O=>∃ b V A tv ta,r=.ptr b 0/\O.H[b]?=some (.cells [.int .i64 (qaH e),.int .i64 (hgt e),.int .i64 (qh qw (pre e)),slS V tv,slS A ta])):=by
 refine qq.vc qg Tryz.func159 rfl (by kernel_rfl) ?_;simp only[qa e];simp[Q2,Zs];rw[<- qa e];refine qq.imp (see235 e hwe _ (O0.H.length+1) 0 0 0 [] [] none none 1 0 (qpQ _ _ (by simp)) (by simp) (by omega) (by omega) (by omega)) ?_;rintro r O ⟨V,A,tv,ta,hos,_⟩;have hb:=hos.hb;have hx:max 0 (1+(hgt e:Int)-1)=hgt e:=by omega
 rw[hx]at hb;simp only[if_true,qtQ]at hb
 try simp
 exact⟨V,A,tv,ta,hb⟩
theorem JS (e:Ex)(hwe:Wen e)(hh:hgt e<=1000)(hsz:(pre e).length<=100000):PZ 92 [.agg (qz e)] (.int .i64 (qM e)):=by
 refine Pure.vc qg Tryz.func92 rfl (by kernel_rfl) ?_;simp only[qa e];simp;rw[<- qa e];refine qq.imp (qpR e hwe hh hsz _) ?_;rintro r O ⟨b,V,A,tv,ta,rfl,hb⟩;by_cases h0:qh qw (pre e)=0
 . rw[h0]at hb;by_cases h24:24<hgt e
   . have h24':(24:Int)<hgt e:=(by omega);have x:qM e=2:=(by unfold qM;rw[if_pos ⟨h0,.inl h24⟩]);rw[x];simp[hb,h24']
   . have h24':¬ (24:Int)<hgt e:=(by omega);by_cases h4:400<qaH e
     . have x:qM e=2:=(by unfold qM;rw[if_pos ⟨h0,.inr h4⟩]);rw[x];simp[hb,h24',h4]
     . have x:qM e=0:=(by unfold qM;rw[if_neg (fun h=>by rcases h.2 with h | h;exact h24 h;exact h4 h),h0]);rw[x];simp[hb,h24',h4]
 . have x:qM e=qh qw (pre e):=(by unfold qM;rw[if_neg (fun h=>h0 h.1)]);rw[x];simp[hb,h0]
theorem qfe (l:List Var)(e:Ex):yx l e=if qM e=0 then VM l e else qM e:=by
 unfold yx VM;by_cases h:qM e=0
 . rw[if_neg (by simpa using h),if_pos h]
 . rw[if_pos h,if_neg h]
theorem JF (l:List Var)(hlv:Fits l)(x:List Ex)(hx:x.length<=1000000)(hw:∀ e∈x,Wen e/\hgt e<=1000/\(pre e).length<=100000):PZ 80 [.sl 4 (l.map qo) .none,.sl 4 (x.map qz) .none] (.int .i64 (qh (yx l) x)):=by
 refine Pure.vc qg Tryz.func80 rfl (by kernel_rfl) ?_;simp;refine qC.intro (fun n env O=>∃ i,i<=x.length/\n=x.length-i/\env 0=.sl 4 (l.map qo) .none/\env 1=.sl 4 (x.map qz) .none/\env 5=.int .i64 i/\O=⟨[],[]⟩/\∀ e∈x.take i,yx l e=0) x.length ⟨0,by simp⟩ ?_;rintro n env O ⟨i,hi,rfl,h0,h1,h5,rfl,hz⟩
 cases hv:x[i]? with
 | some e=>
  obtain⟨hc,hv'⟩:=qqV.1 hv;have hm:=qqW hv;obtain⟨hwe,hh,hsz⟩:=hw e hm;have hep:=qfe l e;simp[h0,h1,h5,hc,hv',qa e];rw[<- qa e];refine qe.call (JS e hwe hh hsz) (by simp) ?_;by_cases hve:qM e=0
  . rw[if_pos hve]at hep;simp[hve,h0,h1,h5,hc,hv',qa e];rw[<- qa e];refine qe.call (qmJ l hlv e hwe) (by simp) ?_;by_cases hp:VM l e=0
    . simp[hp,h0,h1,h5];exact⟨_,by omega,i+1,by omega,rfl,wr (by omega) (by omega),q9 hv hz (by rw[hep];exact hp)⟩
    . rw[ko hv hz (by rw[hep];exact hp),hep];simp[hp]
  . rw[if_neg hve]at hep;rw[ko hv hz (by rw[hep];exact hve),hep];simp[hve]
 | none=>
  have hc:¬ i<x.length:=by simp at hv;omega
  have ht:x.take i=x:=qrb (by omega);rw[ht]at hz;rw[qr.2 hz];simp[h0,h1,h5,hc]
structure VQ (p:Problem):Prop where
 vars:p.vars.length<=1000
 names:∀ v∈p.vars,Fits v.name
 hard:p.hard.length<=10000
 soft:p.soft.length<=10000
 exprs:∀ e∈p.hard++p.soft,Wen e/\hgt e<=1000/\(pre e).length<=100000
 dists:Fits p.dists
 weights:∀ d∈p.dists,Fits d.weights
 groups:Fits p.groups
 group:∀ g∈p.groups,Fits g
structure VP (p:Problem):Prop where
 vars20:p.vars.length<=20
 names:∀ v∈p.vars,Fits v.name
 hard20:p.hard.length<=20
 soft20:p.soft.length<=20
 exprs:∀ e∈p.hard++p.soft,Wen e/\hgt e<=1000/\(pre e).length<=100000
 dists:Fits p.dists
 weights:∀ d∈p.dists,Fits d.weights
 groups:Fits p.groups
 group:∀ g∈p.groups,Fits g
 flat:p.groups.flatten.length<1000000
theorem VP.q {p:Problem}(h:VP p):VQ p:=⟨by have:=h.vars20;omega,h.names,by have:=h.hard20;omega,by have:=h.soft20;omega,h.exprs,h.dists,h.weights,h.groups,h.group⟩
theorem qnX (fs:List (FuncId×Int))(c:AV)(hc:zg c=true)(hl:Fits fs)(h:∀ q∈fs,PZ q.1 [c] (.int .i64 q.2)):PZ 50 [.sl 1 (fs.map fun q=>[.fn q.1 [] [c]]) .none] (.int .i64 (qh (fun q=>q.2) fs)):=by
 refine Pure.vc qg Tryz.func50 rfl (by kernel_rfl) ?_;simp;refine qC.intro (fun n env O=>∃ i,i<=fs.length/\n=fs.length-i/\env 6=.sl 1 (fs.map fun q=>[.fn q.1 [] [c]]) .none/\env 7=.int .i64 fs.length/\env 8=.int .i64 i/\O=⟨[],[]⟩/\∀ q∈fs.take i,q.2=0) fs.length ⟨0,by simp⟩ ?_;rintro n env O ⟨i,hi,rfl,h6,h7,h8,rfl,hz⟩
 cases hv:fs[i]? with
 | some q=>
  obtain⟨hc1,hv'⟩:=qqV.1 hv;have hm:=qqW hv;simp[h6,h7,h8,hc1,hv'];refine qe.call (h q hm) (by simp[hc]) ?_;by_cases h0:q.2=0
  . simp[h0,h6,h7,h8];exact⟨_,by omega,i+1,by omega,rfl,wr (by omega) (by omega),by simpa using q9 (p:=fun q:FuncId×Int=>q.2=0) hv hz h0⟩
  . rw[ko hv hz h0];simp[h0]
 | none=>
  have hc1:¬ i<fs.length:=by simp at hv;omega
  have ht:fs.take i=fs:=qrb (by omega);rw[ht]at hz;rw[qr.2 hz];simp[h6,h7,h8,hc1]
theorem c61 (p:Problem)(h:VQ p):PZ 61 [.rptr (yM p)] (.int .i64 (jB p.vars)):=by
 refine Pure.vc qg Tryz.func61 rfl (by kernel_rfl) ?_;simp;refine qe.call (vars62 p.vars (by have:=h.vars;omega) h.names) (by simp) ?_;simp
theorem c63 (p:Problem)(h:VQ p):PZ 63 [.rptr (yM p)] (.int .i64 (qh (yx p.vars) (p.hard++p.soft))):=by
 refine Pure.vc qg Tryz.func63 rfl (by kernel_rfl) ?_;have:=qqw p (by have:=h.vars;omega) h.hard h.soft h.exprs;simp only[yM]at this;simp;refine qe.call this (by simp) ?_;simp
theorem c65 (p:Problem)(h:VQ p):PZ 65 [.rptr (yM p)] (.int .i64 (wg p.vars p.dists)):=by
 refine Pure.vc qg Tryz.func65 rfl (by kernel_rfl) ?_;have:=qqB p h.dists h.weights;simp only[yM]at this;simp;refine qe.call this (by simp) ?_;simp
theorem c67 (p:Problem)(h:VQ p):PZ 67 [.rptr (yM p)] (.int .i64 (zU p.vars p.groups)):=by
 refine Pure.vc qg Tryz.func67 rfl (by kernel_rfl) ?_;have:=qnt p h.vars h.groups h.group;simp only[yM]at this;simp;refine qe.call this (by simp) ?_;simp
theorem qb5 (p:Problem):qh (fun q:FuncId×Int=>q.2) [(61,jB p.vars),(63,qh (yx p.vars) (p.hard++p.soft)),(65,wg p.vars p.dists),(67,zU p.vars p.groups)]=zT p:=by
 simp only[qh,zT];by_cases h1:jB p.vars=0
 . by_cases h2:qh (yx p.vars) (p.hard++p.soft)=0
   . by_cases h3:wg p.vars p.dists=0
     . by_cases h4:zU p.vars p.groups=0<;>simp[h1,h2,h3,h4]
     . simp[h1,h2,h3]
   . simp[h1,h2]
 . simp[h1]
theorem Ja (p:Problem)(h:VQ p):PZ 14 [.agg (yM p)] (.int .i64 (zT p)):=by
 refine Pure.vc qg Tryz.func14 rfl (by kernel_rfl) ?_;have hk:=qnX [(61,jB p.vars),(63,qh (yx p.vars) (p.hard++p.soft)),(65,wg p.vars p.dists),(67,zU p.vars p.groups)] (.rptr (yM p)) (by simp) (by simp) (by
  intro q hq;simp only[qra,qru,or_false]at hq;rcases hq with rfl|rfl|rfl|rfl
  . exact c61 p h
  . exact c63 p h
  . exact c65 p h
  . exact c67 p h)
 rw[qb5]at hk;simp[qI,zc];refine qe.lent hk rfl ?_ ?_
 . simp[frz]
 . simp
theorem ql5 (p:Problem)(h:VQ p)(hfl:p.groups.flatten.length<1000000):PZ 23 [.agg (yM p)] (.int .i64 (zT p)):=by
 refine Pure.vc qg Tryz.func23 rfl (by kernel_rfl) ?_;have hlv:Fits p.vars:=by have:=h.vars;omega
 simp;refine qe.call (qeg p.vars hlv h.names) (by simp) ?_;by_cases h1:jB p.vars=0
 . simp[h1];refine qe.call (JF p.vars hlv p.hard (by have:=h.hard;omega) fun e he=>h.exprs e (qrD _ he)) (by simp) ?_;by_cases h2:qh (yx p.vars) p.hard=0
   . simp[h2];refine qe.call (JF p.vars hlv p.soft (by have:=h.soft;omega) fun e he=>h.exprs e (qrK _ he)) (by simp) ?_;by_cases h3:qh (yx p.vars) p.soft=0
     . have h23:qh (yx p.vars) (p.hard++p.soft)=0:=(by rw[qT,if_pos h2,h3]);simp[h3];refine qe.call (qqA p.vars p.dists hlv h.dists h.weights) (by simp) ?_;by_cases h4:wg p.vars p.dists=0
       . simp[h4];have hv20:p.vars.length<=20:=by
          apply Classical.byContradiction;intro hn;have h16:16<p.vars.length:=(by omega);have e:jB p.vars=2:=(by simp[jB,h16]);omega
         refine qe.call (qns p.vars p.groups hv20 h.groups h.group hfl) (by simp) ?_;have x:zT p=zU p.vars p.groups:=(by unfold zT;simp[h1,h23,h4]);rw[x];by_cases hg:yz p.vars p.groups
         . rw[qaW hg,show zU p.vars p.groups=0 by unfold zU;rw[if_pos hg]];simp
         . rw[ZO hg,show zU p.vars p.groups=1 by unfold zU;rw[if_neg hg]];simp
       . have x:zT p=wg p.vars p.dists:=(by unfold zT;simp[h1,h23,h4]);rw[x];simp[h4]
     . have x:zT p=qh (yx p.vars) p.soft:=by
        have h23:qh (yx p.vars) (p.hard++p.soft)=qh (yx p.vars) p.soft:=(by rw[qT,if_pos h2]);unfold zT;rw[h23];simp[h1,h3]
       rw[x];simp[h3]
   . have x:zT p=qh (yx p.vars) p.hard:=by
      have h23:qh (yx p.vars) (p.hard++p.soft)=qh (yx p.vars) p.hard:=(by rw[qT,if_neg h2]);unfold zT;rw[h23];simp[h1,h2]
     rw[x];simp[h2]
 . have x:zT p=jB p.vars:=(by unfold zT;simp[h1]);rw[x];simp[h1]
end Go.Proofs.YtpgcmnabljandaaGreatDoor
end
