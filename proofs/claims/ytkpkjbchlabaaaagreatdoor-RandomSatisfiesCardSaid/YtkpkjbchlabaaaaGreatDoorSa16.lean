/- A part of the proof. -/
import Derived.Test.YtkpkjbchlabaaaaGreatDoorSa14
import Derived.Test.YtkpkjbchlabaaaaGreatDoorSa15
import Derived.Test.YtkpkjbchlabaaaaGreatDoorSa11
import Derived.Test.YtkpkjbchlabaaaaGreatDoorSa12
import Derived.Test.YtkpkjbchlabaaaaGreatDoorSa13
set_option linter.unusedVariables false
set_option linter.unusedSimpArgs false
set_option maxRecDepth 100000
set_option linter.defProp false
section
namespace Go.Proofs.YtkpkjbchlabaaaaGreatDoor
open Go Go.Abs
theorem qoB (U:St)(b:Nat)(h:U.H[b]?=some (.cells [.int .i64 0,.int .i64 0,.int .i64 0,.sl 0 [] .nil,.sl 0 [] .nil])):OS b 0 0 0 [] [] none none U U :=
 ⟨h,rfl,rfl,fun h=>absurd rfl h,qqn _,fun _ _ _=>rfl⟩
theorem qoC (e:Ex)(hwe:Wen e)(hh:hgt e<=1000)(hsz:(pre e).length<=200000000000)(U0:St):qf Tryz.prog GG 154 [.agg (qr e)] U0 (fun r U=>∃ b V A tv ta,r=.ptr b 0/\U.H[b]?=some (.cells [.int .i64 (Kt e),.int .i64 (hgt e),.int .i64 (qM qo (pre e)),slS V tv,slS A ta])/\TT V tv U.T/\V=Ku [] (pre e)):=by
 refine qf.vc qe Tryz.func154 rfl (by kernel_rfl) ?_;simp only[qd e];simp[zn,zS];rw[<- qd e];refine qf.imp (see235 e hwe _ (U0.H.length+1) 0 0 0 [] [] none none 1 0 (qoB _ _ (by simp)) (by simp) (by omega) (by omega) (by omega)) ?_;rintro r U ⟨V,A,tv,ta,hos,_,hV⟩;have hb:=hos.hb;have hx:max 0 (1+(hgt e:Int)-1)=hgt e:=by omega
 rw[hx]at hb;simp only[if_true,qtX]at hb
 try simp
 exact⟨V,A,tv,⟨ta,hb⟩,hos.tV,hV⟩
theorem qn0 (e:Ex)(hwe:Wen e)(hh:hgt e<=1000)(hsz:(pre e).length<=100000):Pure Tryz.prog GG 96 [.agg (qr e)] (.int .i64 (zf e)):=by
 refine Pure.vc qe Tryz.func96 rfl (by kernel_rfl) ?_;simp only[qd e];simp;rw[<- qd e];refine qf.imp (qoC e hwe hh (by omega) _) ?_;rintro r U ⟨b,V,A,tv,ta,rfl,hb,_,_⟩;by_cases h0:qM qo (pre e)=0
 . rw[h0]at hb;by_cases h24:24<hgt e
   . have h24':(24:Int)<hgt e:=(by omega);have x:zf e=2:=(by unfold zf;rw[if_pos ⟨h0,.inl h24⟩]);rw[x];simp[hb,h24']
   . have h24':¬ (24:Int)<hgt e:=(by omega);by_cases h4:400<Kt e
     . have x:zf e=2:=(by unfold zf;rw[if_pos ⟨h0,.inr h4⟩]);rw[x];simp[hb,h24',h4]
     . have x:zf e=0:=(by unfold zf;rw[if_neg (fun h=>by rcases h.2 with h | h;exact h24 h;exact h4 h),h0]);rw[x];simp[hb,h24',h4]
 . have x:zf e=qM qo (pre e):=(by unfold zf;rw[if_neg (fun h=>h0 h.1)]);rw[x];simp[hb,h0]
theorem qcZ (l:List Var)(e:Ex):zi l e=if zf e=0 then K7 l e else zf e:=by
 unfold zi K7;by_cases h:zf e=0
 . rw[if_neg (by simpa using h),if_pos h]
 . rw[if_pos h,if_neg h]
theorem Q8 (l:List Var)(hlv:Fits l)(x:List Ex)(hx:x.length<=1000000)(hw:∀ e∈x,Wen e/\hgt e<=1000/\(pre e).length<=100000):Pure Tryz.prog GG 47 [.sl 4 (l.map qA) .none,.sl 4 (x.map qr) .none] (.int .i64 (qM (zi l) x)):=by
 refine Pure.vc qe Tryz.func47 rfl (by kernel_rfl) ?_;simp;refine qy.intro (fun n env U=>∃ i,i<=x.length/\n=x.length-i/\env 0=.sl 4 (l.map qA) .none/\env 1=.sl 4 (x.map qr) .none/\env 5=.int .i64 i/\U=⟨[],[]⟩/\∀ e∈x.take i,zi l e=0) x.length ⟨0,by simp⟩ ?_;rintro n env U ⟨i,hi,rfl,h0,h1,h5,rfl,hz⟩
 cases hv:x[i]? with
 | some e=>
  obtain⟨hc,hv'⟩:=qqc.1 hv;have hm:=qqd hv;obtain⟨hwe,hh,hsz⟩:=hw e hm;have hep:=qcZ l e;simp[h0,h1,h5,hc,hv',qd e];rw[<- qd e];refine qb.call (qn0 e hwe hh hsz) (by simp) ?_;by_cases hve:zf e=0
  . rw[if_pos hve]at hep;simp[hve,h0,h1,h5,hc,hv',qd e];rw[<- qd e];refine qb.call (qkO l hlv e hwe) (by simp) ?_;by_cases hp:K7 l e=0
    . simp[hp,h0,h1,h5];exact⟨_,by omega,i+1,by omega,rfl,wr (by omega) (by omega),zb hv hz (by rw[hep];exact hp)⟩
    . rw[kf hv hz (by rw[hep];exact hp),hep];simp[hp]
  . rw[if_neg hve]at hep;rw[kf hv hz (by rw[hep];exact hve),hep];simp[hve]
 | none=>
  have hc:¬ i<x.length:=by simp at hv;omega
  have ht:x.take i=x:=qqk (by omega);rw[ht]at hz;rw[zr.2 hz];simp[h0,h1,h5,hc]
structure VQ (p:Problem):Prop where
 vars:p.vars.length<=1000
 names:∀ v∈p.vars,Fits v.name
 hard:p.hard.length<=10000
 soft:p.soft.length<=10000
 exprs:∀ e∈p.hard++p.soft,Wen e/\hgt e<=1000/\(pre e).length<=100000
 dists:Fits p.dists
 weights:∀ d∈p.dists,Fits d.weights
 groups:Fits p.groups
 group:∀ g∈p.groups,Fits g
structure VP (p:Problem):Prop where
 vars20:p.vars.length<=20
 names:∀ v∈p.vars,Fits v.name
 hard20:p.hard.length<=20
 soft20:p.soft.length<=20
 exprs:∀ e∈p.hard++p.soft,Wen e/\hgt e<=1000/\(pre e).length<=100000
 dists:Fits p.dists
 weights:∀ d∈p.dists,Fits d.weights
 groups:Fits p.groups
 group:∀ g∈p.groups,Fits g
 flat:p.groups.flatten.length<1000000
theorem VP.q {p:Problem}(h:VP p):VQ p:=⟨by have:=h.vars20;omega,h.names,by have:=h.hard20;omega,by have:=h.soft20;omega,h.exprs,h.dists,h.weights,h.groups,h.group⟩
theorem qma (fs:List (FuncId×Int))(c:AV)(hc:qR c=true)(hl:Fits fs)(h:∀ q∈fs,Pure Tryz.prog GG q.1 [c] (.int .i64 q.2)):Pure Tryz.prog GG 73 [.sl 1 (fs.map fun q=>[.fn q.1 [] [c]]) .none] (.int .i64 (qM (fun q=>q.2) fs)):=by
 refine Pure.vc qe Tryz.func73 rfl (by kernel_rfl) ?_;simp;refine qy.intro (fun n env U=>∃ i,i<=fs.length/\n=fs.length-i/\env 6=.sl 1 (fs.map fun q=>[.fn q.1 [] [c]]) .none/\env 7=.int .i64 fs.length/\env 8=.int .i64 i/\U=⟨[],[]⟩/\∀ q∈fs.take i,q.2=0) fs.length ⟨0,by simp⟩ ?_;rintro n env U ⟨i,hi,rfl,h6,h7,h8,rfl,hz⟩
 cases hv:fs[i]? with
 | some q=>
  obtain⟨hc1,hv'⟩:=qqc.1 hv;have hm:=qqd hv;simp[h6,h7,h8,hc1,hv'];refine qb.call (h q hm) (by simp[hc]) ?_;by_cases h0:q.2=0
  . simp[h0,h6,h7,h8];exact⟨_,by omega,i+1,by omega,rfl,wr (by omega) (by omega),by simpa using zb (p:=fun q:FuncId×Int=>q.2=0) hv hz h0⟩
  . rw[kf hv hz h0];simp[h0]
 | none=>
  have hc1:¬ i<fs.length:=by simp at hv;omega
  have ht:fs.take i=fs:=qqk (by omega);rw[ht]at hz;rw[zr.2 hz];simp[h6,h7,h8,hc1]
theorem c61 (p:Problem)(h:VQ p):Pure Tryz.prog GG 74 [.rptr (qE p)] (.int .i64 (zV p.vars)):=by
 refine Pure.vc qe Tryz.func74 rfl (by kernel_rfl) ?_;simp;refine qb.call (vars62 p.vars (by have:=h.vars;omega) h.names) (by simp) ?_;simp
theorem c63 (p:Problem)(h:VQ p):Pure Tryz.prog GG 76 [.rptr (qE p)] (.int .i64 (qM (zi p.vars) (p.hard++p.soft))):=by
 refine Pure.vc qe Tryz.func76 rfl (by kernel_rfl) ?_;have:=qpt p (by have:=h.vars;omega) h.hard h.soft h.exprs;simp only[qE]at this;simp;refine qb.call this (by simp) ?_;simp
theorem c65 (p:Problem)(h:VQ p):Pure Tryz.prog GG 78 [.rptr (qE p)] (.int .i64 (jZ p.vars p.dists)):=by
 refine Pure.vc qe Tryz.func78 rfl (by kernel_rfl) ?_;have:=qpE p h.dists h.weights;simp only[qE]at this;simp;refine qb.call this (by simp) ?_;simp
theorem c67 (p:Problem)(h:VQ p):Pure Tryz.prog GG 80 [.rptr (qE p)] (.int .i64 (zz p.vars p.groups)):=by
 refine Pure.vc qe Tryz.func80 rfl (by kernel_rfl) ?_;have:=qlz p h.vars h.groups h.group;simp only[qE]at this;simp;refine qb.call this (by simp) ?_;simp
theorem qai (p:Problem):qM (fun q:FuncId×Int=>q.2) [(74,zV p.vars),(76,qM (zi p.vars) (p.hard++p.soft)),(78,jZ p.vars p.dists),(80,zz p.vars p.groups)]=qj p:=by
 simp only[qM,qj];by_cases h1:zV p.vars=0
 . by_cases h2:qM (zi p.vars) (p.hard++p.soft)=0
   . by_cases h3:jZ p.vars p.dists=0
     . by_cases h4:zz p.vars p.groups=0<;>simp[h1,h2,h3,h4]
     . simp[h1,h2,h3]
   . simp[h1,h2]
 . simp[h1]
theorem yv (p:Problem)(h:VQ p):Pure Tryz.prog GG 38 [.agg (qE p)] (.int .i64 (qj p)):=by
 refine Pure.vc qe Tryz.func38 rfl (by kernel_rfl) ?_;have hk:=qma [(74,zV p.vars),(76,qM (zi p.vars) (p.hard++p.soft)),(78,jZ p.vars p.dists),(80,zz p.vars p.groups)] (.rptr (qE p)) (by simp) (by simp) (by
  intro q hq;simp only[qqE,qrA,or_false]at hq;rcases hq with rfl|rfl|rfl|rfl
  . exact c61 p h
  . exact c63 p h
  . exact c65 p h
  . exact c67 p h)
 rw[qai]at hk;simp[qk,qu];refine qb.lent hk rfl ?_ ?_
 . simp[frz]
 . simp
theorem qdv (p:Problem)(h:VQ p)(hfl:p.groups.flatten.length<4611686018427387904):Pure Tryz.prog GG 20 [.agg (qE p)] (.int .i64 (qj p)):=by
 refine Pure.vc qe Tryz.func20 rfl (by kernel_rfl) ?_;have hlv:Fits p.vars:=by have:=h.vars;omega
 simp;refine qb.call (qca p.vars hlv h.names) (by simp) ?_;by_cases h1:zV p.vars=0
 . simp[h1];refine qb.call (Q8 p.vars hlv p.hard (by have:=h.hard;omega) fun e he=>h.exprs e (qq5 _ he)) (by simp) ?_;by_cases h2:qM (zi p.vars) p.hard=0
   . simp[h2];refine qb.call (Q8 p.vars hlv p.soft (by have:=h.soft;omega) fun e he=>h.exprs e (qrE _ he)) (by simp) ?_;by_cases h3:qM (zi p.vars) p.soft=0
     . have h23:qM (zi p.vars) (p.hard++p.soft)=0:=(by rw[jK,if_pos h2,h3]);simp[h3];refine qb.call (qpD p.vars p.dists hlv h.dists h.weights) (by simp) ?_;by_cases h4:jZ p.vars p.dists=0
       . simp[h4];have hv20:p.vars.length<=20:=by
          apply Classical.byContradiction;intro hn;have h16:16<p.vars.length:=(by omega);have e:zV p.vars=2:=(by simp[zV,h16]);omega
         refine qb.call (qly p.vars p.groups hv20 h.groups h.group hfl) (by simp) ?_;have x:qj p=zz p.vars p.groups:=(by unfold qj;simp[h1,h23,h4]);rw[x];by_cases hg:jL p.vars p.groups
         . rw[W7 hg,show zz p.vars p.groups=0 by unfold zz;rw[if_pos hg]];simp
         . rw[Qv hg,show zz p.vars p.groups=1 by unfold zz;rw[if_neg hg]];simp
       . have x:qj p=jZ p.vars p.dists:=(by unfold qj;simp[h1,h23,h4]);rw[x];simp[h4]
     . have x:qj p=qM (zi p.vars) p.soft:=by
        have h23:qM (zi p.vars) (p.hard++p.soft)=qM (zi p.vars) p.soft:=(by rw[jK,if_pos h2]);unfold qj;rw[h23];simp[h1,h3]
       rw[x];simp[h3]
   . have x:qj p=qM (zi p.vars) p.hard:=by
      have h23:qM (zi p.vars) (p.hard++p.soft)=qM (zi p.vars) p.hard:=(by rw[jK,if_neg h2]);unfold qj;rw[h23];simp[h1,h2]
     rw[x];simp[h2]
 . have x:qj p=zV p.vars:=(by unfold qj;simp[h1]);rw[x];simp[h1]
theorem qn1 (p:Problem)(h:VP p):Pure Tryz.prog GG 20 [.agg (qE p)] (.int .i64 (qj p)):=qdv p h.q (by have:=h.flat;omega)
structure HC (p:Problem)(c:List (List Int)):Prop where
 fits:Fits c
 each:∀ l∈c,Fits l
end Go.Proofs.YtkpkjbchlabaaaaGreatDoor
end
