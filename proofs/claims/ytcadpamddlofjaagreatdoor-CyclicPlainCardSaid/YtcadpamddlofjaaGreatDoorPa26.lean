/- A part of the proof. -/
import Derived.Test.YtcadpamddlofjaaGreatDoorPa24
import Derived.Test.YtcadpamddlofjaaGreatDoorPa25
set_option linter.unusedVariables false
set_option linter.unusedSimpArgs false
set_option maxRecDepth 100000
set_option linter.defProp false
section
namespace Go.Proofs.YtcadpamddlofjaaGreatDoor
open Go Go.Abs
theorem qnI (U:St)(b:Nat)(h:U.H[b]?=some (.cells [.int .i64 0,.int .i64 0,.int .i64 0,.sl 0 [] .nil,.sl 0 [] .nil])):OS b 0 0 0 [] [] none none U U :=
 ⟨h,rfl,rfl,fun h=>absurd rfl h,qo7 _,fun _ _ _=>rfl⟩
theorem qgM (e:Ex)(hwe:Wen e)(hh:hgt e<=1000)(hsz:(pre e).length<=200000000000)(U0:St):qg Tryz.prog GG 64 [.agg (qt e)] U0 (fun r U=>∃ b V A tv ta,r=.ptr b 0/\U.H[b]?=some (.cells [.int .i64 (wH e),.int .i64 (hgt e),.int .i64 (qW qo (pre e)),slS V tv,slS A ta])):=by
 refine qg.vc qe Tryz.func64 rfl (by kernel_rfl) ?_;simp only[qd e];simp[zl,zP];rw[<- qd e];refine qg.imp (see235 e hwe _ (U0.H.length+1) 0 0 0 [] [] none none 1 0 (qnI _ _ (by simp)) (by simp) (by omega) (by omega) (by omega)) ?_;rintro r U ⟨V,A,tv,ta,hos,_⟩;have hb:=hos.hb;have hx:max 0 (1+(hgt e:Int)-1)=hgt e:=by omega
 rw[hx]at hb;simp only[if_true,qsj]at hb
 try simp
 exact⟨V,A,tv,ta,hb⟩
theorem qm7 (e:Ex)(hwe:Wen e)(hh:hgt e<=1000)(hsz:(pre e).length<=100000):Pure Tryz.prog GG 38 [.agg (qt e)] (.int .i64 (zg e)):=by
 refine Pure.vc qe Tryz.func38 rfl (by kernel_rfl) ?_;simp only[qd e];simp;rw[<- qd e];refine qg.imp (qgM e hwe hh (by omega) _) ?_;rintro r U ⟨b,V,A,tv,ta,rfl,hb⟩;by_cases h0:qW qo (pre e)=0
 . rw[h0]at hb;by_cases h24:24<hgt e
   . have h24':(24:Int)<hgt e:=(by omega);have x:zg e=2:=(by unfold zg;rw[if_pos ⟨h0,.inl h24⟩]);rw[x];simp[hb,h24']
   . have h24':¬ (24:Int)<hgt e:=(by omega);by_cases h4:400<wH e
     . have x:zg e=2:=(by unfold zg;rw[if_pos ⟨h0,.inr h4⟩]);rw[x];simp[hb,h24',h4]
     . have x:zg e=0:=(by unfold zg;rw[if_neg (fun h=>by rcases h.2 with h | h;exact h24 h;exact h4 h),h0]);rw[x];simp[hb,h24',h4]
 . have x:zg e=qW qo (pre e):=(by unfold zg;rw[if_neg (fun h=>h0 h.1)]);rw[x];simp[hb,h0]
theorem qcm (l:List Var)(e:Ex):zr l e=if zg e=0 then KK l e else zg e:=by
 unfold zr KK;by_cases h:zg e=0
 . rw[if_neg (by simpa using h),if_pos h]
 . rw[if_pos h,if_neg h]
theorem QU (l:List Var)(hlv:Fits l)(x:List Ex)(hx:x.length<=1000000)(hw:∀ e∈x,Wen e/\hgt e<=1000/\(pre e).length<=100000):Pure Tryz.prog GG 14 [.sl 4 (l.map qx) .none,.sl 4 (x.map qt) .none] (.int .i64 (qW (zr l) x)):=by
 refine Pure.vc qe Tryz.func14 rfl (by kernel_rfl) ?_;simp;refine qF.intro (fun n env U=>∃ i,i<=x.length/\n=x.length-i/\env 0=.sl 4 (l.map qx) .none/\env 1=.sl 4 (x.map qt) .none/\env 5=.int .i64 i/\U=⟨[],[]⟩/\∀ e∈x.take i,zr l e=0) x.length ⟨0,by simp⟩ ?_;rintro n env U ⟨i,hi,rfl,h0,h1,h5,rfl,hz⟩
 cases hv:x[i]? with
 | some e=>
  obtain⟨hc,hv'⟩:=qoX.1 hv;have hm:=qoZ hv;obtain⟨hwe,hh,hsz⟩:=hw e hm;have hep:=qcm l e;simp[h0,h1,h5,hc,hv',qd e];rw[<- qd e];refine qb.call (qm7 e hwe hh hsz) (by simp) ?_;by_cases hve:zg e=0
  . rw[if_pos hve]at hep;simp[hve,h0,h1,h5,hc,hv',qd e];rw[<- qd e];refine qb.call (qj7 l hlv e hwe) (by simp) ?_;by_cases hp:KK l e=0
    . simp[hp,h0,h1,h5];exact⟨_,by omega,i+1,by omega,rfl,wr (by omega) (by omega),zc hv hz (by rw[hep];exact hp)⟩
    . rw[yT hv hz (by rw[hep];exact hp),hep];simp[hp]
  . rw[if_neg hve]at hep;rw[yT hv hz (by rw[hep];exact hve),hep];simp[hve]
 | none=>
  have hc:¬ i<x.length:=by simp at hv;omega
  have ht:x.take i=x:=qo6 (by omega);rw[ht]at hz;rw[zF.2 hz];simp[h0,h1,h5,hc]
end Go.Proofs.YtcadpamddlofjaaGreatDoor
end
