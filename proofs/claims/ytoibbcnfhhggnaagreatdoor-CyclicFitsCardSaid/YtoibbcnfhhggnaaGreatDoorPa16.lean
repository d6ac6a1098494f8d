/- A part of the proof. -/
import Derived.Test.YtoibbcnfhhggnaaGreatDoorPa14
import Derived.Test.YtoibbcnfhhggnaaGreatDoorPa15
set_option linter.unusedVariables false
set_option linter.unusedSimpArgs false
set_option maxRecDepth 100000
set_option linter.defProp false
section
namespace Go.Proofs.YtoibbcnfhhggnaaGreatDoor
open Go Go.Abs
theorem qo3 (U:St)(b:Nat)(h:U.H[b]?=some (.cells [.int .i64 0,.int .i64 0,.int .i64 0,.sl 0 [] .nil,.sl 0 [] .nil])):OS b 0 0 0 [] [] none none U U :=
 ⟨h,rfl,rfl,fun h=>absurd rfl h,qqw _,fun _ _ _=>rfl⟩
theorem qhN (e:Ex)(hwe:Wen e)(hh:hgt e<=1000)(hsz:(pre e).length<=200000000000)(U0:St):qg Tryz.prog GG 66 [.agg (qu e)] U0 (fun r U=>∃ b V A tv ta,r=.ptr b 0/\U.H[b]?=some (.cells [.int .i64 (vo e),.int .i64 (hgt e),.int .i64 (qU qr (pre e)),slS V tv,slS A ta])):=by
 refine qg.vc qe Tryz.func66 rfl (by kernel_rfl) ?_;simp only[qc e];simp[qX,zu];rw[<- qc e];refine qg.imp (see235 e hwe _ (U0.H.length+1) 0 0 0 [] [] none none 1 0 (qo3 _ _ (by simp)) (by simp) (by omega) (by omega) (by omega)) ?_;rintro r U ⟨V,A,tv,ta,hos,_⟩;have hb:=hos.hb;have hx:max 0 (1+(hgt e:Int)-1)=hgt e:=by omega
 rw[hx]at hb;simp only[if_true,qt4]at hb
 try simp
 exact⟨V,A,tv,ta,hb⟩
theorem qgZ (e:Ex)(hwe:Wen e)(hh:hgt e<=1000)(hsz:(pre e).length<=100000):Pure Tryz.prog GG 43 [.agg (qu e)] (.int .i64 (zh e)):=by
 refine Pure.vc qe Tryz.func43 rfl (by kernel_rfl) ?_;simp only[qc e];simp;rw[<- qc e];refine qg.imp (qhN e hwe hh (by omega) _) ?_;rintro r U ⟨b,V,A,tv,ta,rfl,hb⟩;by_cases h0:qU qr (pre e)=0
 . rw[h0]at hb;by_cases h24:24<hgt e
   . have h24':(24:Int)<hgt e:=(by omega);have x:zh e=2:=(by unfold zh;rw[if_pos ⟨h0,.inl h24⟩]);rw[x];simp[hb,h24']
   . have h24':¬ (24:Int)<hgt e:=(by omega);by_cases h4:400<vo e
     . have x:zh e=2:=(by unfold zh;rw[if_pos ⟨h0,.inr h4⟩]);rw[x];simp[hb,h24',h4]
     . have x:zh e=0:=(by unfold zh;rw[if_neg (fun h=>by rcases h.2 with h | h;exact h24 h;exact h4 h),h0]);rw[x];simp[hb,h24',h4]
 . have x:zh e=qU qr (pre e):=(by unfold zh;rw[if_neg (fun h=>h0 h.1)]);rw[x];simp[hb,h0]
theorem qc0 (l:List Var)(e:Ex):zm l e=if zh e=0 then We l e else zh e:=by
 unfold zm We;by_cases h:zh e=0
 . rw[if_neg (by simpa using h),if_pos h]
 . rw[if_pos h,if_neg h]
theorem Zu (l:List Var)(hlv:Fits l)(x:List Ex)(hx:x.length<=1000000)(hw:∀ e∈x,Wen e/\hgt e<=1000/\(pre e).length<=100000):Pure Tryz.prog GG 20 [.sl 4 (l.map qp) .none,.sl 4 (x.map qu) .none] (.int .i64 (qU (zm l) x)):=by
 refine Pure.vc qe Tryz.func20 rfl (by kernel_rfl) ?_;simp;refine qE.intro (fun n env U=>∃ i,i<=x.length/\n=x.length-i/\env 0=.sl 4 (l.map qp) .none/\env 1=.sl 4 (x.map qu) .none/\env 5=.int .i64 i/\U=⟨[],[]⟩/\∀ e∈x.take i,zm l e=0) x.length ⟨0,by simp⟩ ?_;rintro n env U ⟨i,hi,rfl,h0,h1,h5,rfl,hz⟩
 cases hv:x[i]? with
 | some e=>
  obtain⟨hc,hv'⟩:=qql.1 hv;have hm:=qqm hv;obtain⟨hwe,hh,hsz⟩:=hw e hm;have hep:=qc0 l e;simp[h0,h1,h5,hc,hv',qc e];rw[<- qc e];refine qa.call (qgZ e hwe hh hsz) (by simp) ?_;by_cases hve:zh e=0
  . rw[if_pos hve]at hep;simp[hve,h0,h1,h5,hc,hv',qc e];rw[<- qc e];refine qa.call (qli l hlv e hwe) (by simp) ?_;by_cases hp:We l e=0
    . simp[hp,h0,h1,h5];exact⟨_,by omega,i+1,by omega,rfl,wr (by omega) (by omega),qZ hv hz (by rw[hep];exact hp)⟩
    . rw[kf hv hz (by rw[hep];exact hp),hep];simp[hp]
  . rw[if_neg hve]at hep;rw[kf hv hz (by rw[hep];exact hve),hep];simp[hve]
 | none=>
  have hc:¬ i<x.length:=by simp at hv;omega
  have ht:x.take i=x:=qqu (by omega);rw[ht]at hz;rw[zl.2 hz];simp[h0,h1,h5,hc]
end Go.Proofs.YtoibbcnfhhggnaaGreatDoor
end
