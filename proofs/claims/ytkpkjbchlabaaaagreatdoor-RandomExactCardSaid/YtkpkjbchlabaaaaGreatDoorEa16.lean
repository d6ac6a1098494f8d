/- A part of the proof. -/
import Derived.Test.YtkpkjbchlabaaaaGreatDoorEa14
import Derived.Test.YtkpkjbchlabaaaaGreatDoorEa15
import Derived.Test.YtkpkjbchlabaaaaGreatDoorEa11
import Derived.Test.YtkpkjbchlabaaaaGreatDoorEa12
import Derived.Test.YtkpkjbchlabaaaaGreatDoorEa13
set_option linter.unusedVariables false
set_option linter.unusedSimpArgs false
set_option maxRecDepth 100000
set_option linter.defProp false
section
namespace Go.Proofs.YtkpkjbchlabaaaaGreatDoor
open Go Go.Abs
theorem qoO (U:St)(b:Nat)(h:U.H[b]?=some (.cells [.int .i64 0,.int .i64 0,.int .i64 0,.sl 0 [] .nil,.sl 0 [] .nil])):OS b 0 0 0 [] [] none none U U :=
 ⟨h,rfl,rfl,fun h=>absurd rfl h,qqB _,fun _ _ _=>rfl⟩
theorem qoP (e:Ex)(hwe:Wen e)(hh:hgt e<=1000)(hsz:(pre e).length<=200000000000)(U0:St):qf Tryz.prog GG 154 [.agg (qr e)] U0 (fun r U=>∃ b V A tv ta,r=.ptr b 0/\U.H[b]?=some (.cells [.int .i64 (KF e),.int .i64 (hgt e),.int .i64 (qN qq (pre e)),slS V tv,slS A ta])/\TT V tv U.T/\V=KG [] (pre e)):=by
 refine qf.vc qe Tryz.func154 rfl (by kernel_rfl) ?_;simp only[qd e];simp[zt,zX];rw[<- qd e];refine qf.imp (see235 e hwe _ (U0.H.length+1) 0 0 0 [] [] none none 1 0 (qoO _ _ (by simp)) (by simp) (by omega) (by omega) (by omega)) ?_;rintro r U ⟨V,A,tv,ta,hos,_,hV⟩;have hb:=hos.hb;have hx:max 0 (1+(hgt e:Int)-1)=hgt e:=by omega
 rw[hx]at hb;simp only[if_true,quh]at hb
 try simp
 exact⟨V,A,tv,⟨ta,hb⟩,hos.tV,hV⟩
theorem qod (e:Ex)(hwe:Wen e)(hh:hgt e<=1000)(hsz:(pre e).length<=100000):Pure Tryz.prog GG 96 [.agg (qr e)] (.int .i64 (zl e)):=by
 refine Pure.vc qe Tryz.func96 rfl (by kernel_rfl) ?_;simp only[qd e];simp;rw[<- qd e];refine qf.imp (qoP e hwe hh (by omega) _) ?_;rintro r U ⟨b,V,A,tv,ta,rfl,hb,_,_⟩;by_cases h0:qN qq (pre e)=0
 . rw[h0]at hb;by_cases h24:24<hgt e
   . have h24':(24:Int)<hgt e:=(by omega);have x:zl e=2:=(by unfold zl;rw[if_pos ⟨h0,.inl h24⟩]);rw[x];simp[hb,h24']
   . have h24':¬ (24:Int)<hgt e:=(by omega);by_cases h4:400<KF e
     . have x:zl e=2:=(by unfold zl;rw[if_pos ⟨h0,.inr h4⟩]);rw[x];simp[hb,h24',h4]
     . have x:zl e=0:=(by unfold zl;rw[if_neg (fun h=>by rcases h.2 with h | h;exact h24 h;exact h4 h),h0]);rw[x];simp[hb,h24',h4]
 . have x:zl e=qN qq (pre e):=(by unfold zl;rw[if_neg (fun h=>h0 h.1)]);rw[x];simp[hb,h0]
theorem qc9 (l:List Var)(e:Ex):zo l e=if zl e=0 then Wm l e else zl e:=by
 unfold zo Wm;by_cases h:zl e=0
 . rw[if_neg (by simpa using h),if_pos h]
 . rw[if_pos h,if_neg h]
theorem Zi (l:List Var)(hlv:Fits l)(x:List Ex)(hx:x.length<=1000000)(hw:∀ e∈x,Wen e/\hgt e<=1000/\(pre e).length<=100000):Pure Tryz.prog GG 47 [.sl 4 (l.map qz) .none,.sl 4 (x.map qr) .none] (.int .i64 (qN (zo l) x)):=by
 refine Pure.vc qe Tryz.func47 rfl (by kernel_rfl) ?_;simp;refine qx.intro (fun n env U=>∃ i,i<=x.length/\n=x.length-i/\env 0=.sl 4 (l.map qz) .none/\env 1=.sl 4 (x.map qr) .none/\env 5=.int .i64 i/\U=⟨[],[]⟩/\∀ e∈x.take i,zo l e=0) x.length ⟨0,by simp⟩ ?_;rintro n env U ⟨i,hi,rfl,h0,h1,h5,rfl,hz⟩
 cases hv:x[i]? with
 | some e=>
  obtain⟨hc,hv'⟩:=qqp.1 hv;have hm:=qqq hv;obtain⟨hwe,hh,hsz⟩:=hw e hm;have hep:=qc9 l e;simp[h0,h1,h5,hc,hv',qd e];rw[<- qd e];refine qb.call (qod e hwe hh hsz) (by simp) ?_;by_cases hve:zl e=0
  . rw[if_pos hve]at hep;simp[hve,h0,h1,h5,hc,hv',qd e];rw[<- qd e];refine qb.call (qk0 l hlv e hwe) (by simp) ?_;by_cases hp:Wm l e=0
    . simp[hp,h0,h1,h5];exact⟨_,by omega,i+1,by omega,rfl,wr (by omega) (by omega),q9 hv hz (by rw[hep];exact hp)⟩
    . rw[ki hv hz (by rw[hep];exact hp),hep];simp[hp]
  . rw[if_neg hve]at hep;rw[ki hv hz (by rw[hep];exact hve),hep];simp[hve]
 | none=>
  have hc:¬ i<x.length:=by simp at hv;omega
  have ht:x.take i=x:=qqx (by omega);rw[ht]at hz;rw[zx.2 hz];simp[h0,h1,h5,hc]
structure VQ (p:Problem):Prop where
 vars:p.vars.length<=1000
 names:∀ v∈p.vars,Fits v.name
 hard:p.hard.length<=10000
 soft:p.soft.length<=10000
 exprs:∀ e∈p.hard++p.soft,Wen e/\hgt e<=1000/\(pre e).length<=100000
 dists:Fits p.dists
 weights:∀ d∈p.dists,Fits d.weights
 groups:Fits p.groups
 group:∀ g∈p.groups,Fits g
structure VP (p:Problem):Prop where
 vars20:p.vars.length<=20
 names:∀ v∈p.vars,Fits v.name
 hard20:p.hard.length<=20
 soft20:p.soft.length<=20
 exprs:∀ e∈p.hard++p.soft,Wen e/\hgt e<=1000/\(pre e).length<=100000
 dists:Fits p.dists
 weights:∀ d∈p.dists,Fits d.weights
 groups:Fits p.groups
 group:∀ g∈p.groups,Fits g
 flat:p.groups.flatten.length<1000000
theorem VP.q {p:Problem}(h:VP p):VQ p:=⟨by have:=h.vars20;omega,h.names,by have:=h.hard20;omega,by have:=h.soft20;omega,h.exprs,h.dists,h.weights,h.groups,h.group⟩
theorem qmk (fs:List (FuncId×Int))(c:AV)(hc:zb c=true)(hl:Fits fs)(h:∀ q∈fs,Pure Tryz.prog GG q.1 [c] (.int .i64 q.2)):Pure Tryz.prog GG 73 [.sl 1 (fs.map fun q=>[.fn q.1 [] [c]]) .none] (.int .i64 (qN (fun q=>q.2) fs)):=by
 refine Pure.vc qe Tryz.func73 rfl (by kernel_rfl) ?_;simp;refine qx.intro (fun n env U=>∃ i,i<=fs.length/\n=fs.length-i/\env 6=.sl 1 (fs.map fun q=>[.fn q.1 [] [c]]) .none/\env 7=.int .i64 fs.length/\env 8=.int .i64 i/\U=⟨[],[]⟩/\∀ q∈fs.take i,q.2=0) fs.length ⟨0,by simp⟩ ?_;rintro n env U ⟨i,hi,rfl,h6,h7,h8,rfl,hz⟩
 cases hv:fs[i]? with
 | some q=>
  obtain⟨hc1,hv'⟩:=qqp.1 hv;have hm:=qqq hv;simp[h6,h7,h8,hc1,hv'];refine qb.call (h q hm) (by simp[hc]) ?_;by_cases h0:q.2=0
  . simp[h0,h6,h7,h8];exact⟨_,by omega,i+1,by omega,rfl,wr (by omega) (by omega),by simpa using q9 (p:=fun q:FuncId×Int=>q.2=0) hv hz h0⟩
  . rw[ki hv hz h0];simp[h0]
 | none=>
  have hc1:¬ i<fs.length:=by simp at hv;omega
  have ht:fs.take i=fs:=qqx (by omega);rw[ht]at hz;rw[zx.2 hz];simp[h6,h7,h8,hc1]
theorem c61 (p:Problem)(h:VQ p):Pure Tryz.prog GG 74 [.rptr (qD p)] (.int .i64 (z0 p.vars)):=by
 refine Pure.vc qe Tryz.func74 rfl (by kernel_rfl) ?_;simp;refine qb.call (vars62 p.vars (by have:=h.vars;omega) h.names) (by simp) ?_;simp
theorem c63 (p:Problem)(h:VQ p):Pure Tryz.prog GG 76 [.rptr (qD p)] (.int .i64 (qN (zo p.vars) (p.hard++p.soft))):=by
 refine Pure.vc qe Tryz.func76 rfl (by kernel_rfl) ?_;have:=qpI p (by have:=h.vars;omega) h.hard h.soft h.exprs;simp only[qD]at this;simp;refine qb.call this (by simp) ?_;simp
theorem c65 (p:Problem)(h:VQ p):Pure Tryz.prog GG 78 [.rptr (qD p)] (.int .i64 (yb p.vars p.dists)):=by
 refine Pure.vc qe Tryz.func78 rfl (by kernel_rfl) ?_;have:=qpS p h.dists h.weights;simp only[qD]at this;simp;refine qb.call this (by simp) ?_;simp
theorem c67 (p:Problem)(h:VQ p):Pure Tryz.prog GG 80 [.rptr (qD p)] (.int .i64 (zE p.vars p.groups)):=by
 refine Pure.vc qe Tryz.func80 rfl (by kernel_rfl) ?_;have:=qlJ p h.vars h.groups h.group;simp only[qD]at this;simp;refine qb.call this (by simp) ?_;simp
theorem qat (p:Problem):qN (fun q:FuncId×Int=>q.2) [(74,z0 p.vars),(76,qN (zo p.vars) (p.hard++p.soft)),(78,yb p.vars p.dists),(80,zE p.vars p.groups)]=qk p:=by
 simp only[qN,qk];by_cases h1:z0 p.vars=0
 . by_cases h2:qN (zo p.vars) (p.hard++p.soft)=0
   . by_cases h3:yb p.vars p.dists=0
     . by_cases h4:zE p.vars p.groups=0<;>simp[h1,h2,h3,h4]
     . simp[h1,h2,h3]
   . simp[h1,h2]
 . simp[h1]
theorem yw (p:Problem)(h:VQ p):Pure Tryz.prog GG 38 [.agg (qD p)] (.int .i64 (qk p)):=by
 refine Pure.vc qe Tryz.func38 rfl (by kernel_rfl) ?_;have hk:=qmk [(74,z0 p.vars),(76,qN (zo p.vars) (p.hard++p.soft)),(78,yb p.vars p.dists),(80,zE p.vars p.groups)] (.rptr (qD p)) (by simp) (by simp) (by
  intro q hq;simp only[qqQ,qrP,or_false]at hq;rcases hq with rfl|rfl|rfl|rfl
  . exact c61 p h
  . exact c63 p h
  . exact c65 p h
  . exact c67 p h)
 rw[qat]at hk;simp[qj,qt];refine qb.lent hk rfl ?_ ?_
 . simp[frz]
 . simp
theorem qdD (p:Problem)(h:VQ p)(hfl:p.groups.flatten.length<4611686018427387904):Pure Tryz.prog GG 20 [.agg (qD p)] (.int .i64 (qk p)):=by
 refine Pure.vc qe Tryz.func20 rfl (by kernel_rfl) ?_;have hlv:Fits p.vars:=by have:=h.vars;omega
 simp;refine qb.call (qcl p.vars hlv h.names) (by simp) ?_;by_cases h1:z0 p.vars=0
 . simp[h1];refine qb.call (Zi p.vars hlv p.hard (by have:=h.hard;omega) fun e he=>h.exprs e (qri _ he)) (by simp) ?_;by_cases h2:qN (zo p.vars) p.hard=0
   . simp[h2];refine qb.call (Zi p.vars hlv p.soft (by have:=h.soft;omega) fun e he=>h.exprs e (qrJ _ he)) (by simp) ?_;by_cases h3:qN (zo p.vars) p.soft=0
     . have h23:qN (zo p.vars) (p.hard++p.soft)=0:=(by rw[jV,if_pos h2,h3]);simp[h3];refine qb.call (qpR p.vars p.dists hlv h.dists h.weights) (by simp) ?_;by_cases h4:yb p.vars p.dists=0
       . simp[h4];have hv20:p.vars.length<=20:=by
          apply Classical.byContradiction;intro hn;have h16:16<p.vars.length:=(by omega);have e:z0 p.vars=2:=(by simp[z0,h16]);omega
         refine qb.call (qlI p.vars p.groups hv20 h.groups h.group hfl) (by simp) ?_;have x:qk p=zE p.vars p.groups:=(by unfold qk;simp[h1,h23,h4]);rw[x];by_cases hg:jW p.vars p.groups
         . rw[Vh hg,show zE p.vars p.groups=0 by unfold zE;rw[if_pos hg]];simp
         . rw[Qz hg,show zE p.vars p.groups=1 by unfold zE;rw[if_neg hg]];simp
       . have x:qk p=yb p.vars p.dists:=(by unfold qk;simp[h1,h23,h4]);rw[x];simp[h4]
     . have x:qk p=qN (zo p.vars) p.soft:=by
        have h23:qN (zo p.vars) (p.hard++p.soft)=qN (zo p.vars) p.soft:=(by rw[jV,if_pos h2]);unfold qk;rw[h23];simp[h1,h3]
       rw[x];simp[h3]
   . have x:qk p=qN (zo p.vars) p.hard:=by
      have h23:qN (zo p.vars) (p.hard++p.soft)=qN (zo p.vars) p.hard:=(by rw[jV,if_neg h2]);unfold qk;rw[h23];simp[h1,h2]
     rw[x];simp[h2]
 . have x:qk p=z0 p.vars:=(by unfold qk;simp[h1]);rw[x];simp[h1]
theorem qoe (p:Problem)(h:VP p):Pure Tryz.prog GG 20 [.agg (qD p)] (.int .i64 (qk p)):=qdD p h.q (by have:=h.flat;omega)
structure HC (p:Problem)(c:List (List Int)):Prop where
 fits:Fits c
 each:∀ l∈c,Fits l
end Go.Proofs.YtkpkjbchlabaaaaGreatDoor
end
