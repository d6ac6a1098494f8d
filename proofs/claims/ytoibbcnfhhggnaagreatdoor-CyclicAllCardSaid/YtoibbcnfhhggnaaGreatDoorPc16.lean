/- A part of the proof. -/
import Derived.Test.YtoibbcnfhhggnaaGreatDoorPc14
import Derived.Test.YtoibbcnfhhggnaaGreatDoorPc15
set_option linter.unusedVariables false
set_option linter.unusedSimpArgs false
set_option maxRecDepth 100000
set_option linter.defProp false
section
namespace Go.Proofs.YtoibbcnfhhggnaaGreatDoor
open Go Go.Abs
theorem qoG (U:St)(b:Nat)(h:U.H[b]?=some (.cells [.int .i64 0,.int .i64 0,.int .i64 0,.sl 0 [] .nil,.sl 0 [] .nil])):OS b 0 0 0 [] [] none none U U :=
 ⟨h,rfl,rfl,fun h=>absurd rfl h,qqf _,fun _ _ _=>rfl⟩
theorem qcz (e:Ex)(hwe:Wen e)(hh:hgt e<=1000)(hsz:(pre e).length<=200000000000)(U0:St):qg Tryz.prog GG 66 [.agg (qs e)] U0 (fun r U=>∃ b V A tv ta,r=.ptr b 0/\U.H[b]?=some (.cells [.int .i64 (vy e),.int .i64 (hgt e),.int .i64 (qR qr (pre e)),slS V tv,slS A ta])/\TT V tv U.T/\V=Za [] (pre e)):=by
 refine qg.vc qe Tryz.func66 rfl (by kernel_rfl) ?_;simp only[qd e];simp[qV,zu];rw[<- qd e];refine qg.imp (see235 e hwe _ (U0.H.length+1) 0 0 0 [] [] none none 1 0 (qoG _ _ (by simp)) (by simp) (by omega) (by omega) (by omega)) ?_;rintro r U ⟨V,A,tv,ta,hos,_,hV⟩;have hb:=hos.hb;have hx:max 0 (1+(hgt e:Int)-1)=hgt e:=by omega
 rw[hx]at hb;simp only[if_true,qtN]at hb
 try simp
 exact⟨V,A,tv,⟨ta,hb⟩,hos.tV,hV⟩
theorem qn7 (e:Ex)(hwe:Wen e)(hh:hgt e<=1000)(hsz:(pre e).length<=100000):Pure Tryz.prog GG 43 [.agg (qs e)] (.int .i64 (zk e)):=by
 refine Pure.vc qe Tryz.func43 rfl (by kernel_rfl) ?_;simp only[qd e];simp;rw[<- qd e];refine qg.imp (qcz e hwe hh (by omega) _) ?_;rintro r U ⟨b,V,A,tv,ta,rfl,hb,_,_⟩;by_cases h0:qR qr (pre e)=0
 . rw[h0]at hb;by_cases h24:24<hgt e
   . have h24':(24:Int)<hgt e:=(by omega);have x:zk e=2:=(by unfold zk;rw[if_pos ⟨h0,.inl h24⟩]);rw[x];simp[hb,h24']
   . have h24':¬ (24:Int)<hgt e:=(by omega);by_cases h4:400<vy e
     . have x:zk e=2:=(by unfold zk;rw[if_pos ⟨h0,.inr h4⟩]);rw[x];simp[hb,h24',h4]
     . have x:zk e=0:=(by unfold zk;rw[if_neg (fun h=>by rcases h.2 with h | h;exact h24 h;exact h4 h),h0]);rw[x];simp[hb,h24',h4]
 . have x:zk e=qR qr (pre e):=(by unfold zk;rw[if_neg (fun h=>h0 h.1)]);rw[x];simp[hb,h0]
theorem qcX (l:List Var)(e:Ex):zg l e=if zk e=0 then Wp l e else zk e:=by
 unfold zg Wp;by_cases h:zk e=0
 . rw[if_neg (by simpa using h),if_pos h]
 . rw[if_pos h,if_neg h]
theorem Zv (l:List Var)(hlv:Fits l)(x:List Ex)(hx:x.length<=1000000)(hw:∀ e∈x,Wen e/\hgt e<=1000/\(pre e).length<=100000):Pure Tryz.prog GG 20 [.sl 4 (l.map qo) .none,.sl 4 (x.map qs) .none] (.int .i64 (qR (zg l) x)):=by
 refine Pure.vc qe Tryz.func20 rfl (by kernel_rfl) ?_;simp;refine qD.intro (fun n env U=>∃ i,i<=x.length/\n=x.length-i/\env 0=.sl 4 (l.map qo) .none/\env 1=.sl 4 (x.map qs) .none/\env 5=.int .i64 i/\U=⟨[],[]⟩/\∀ e∈x.take i,zg l e=0) x.length ⟨0,by simp⟩ ?_;rintro n env U ⟨i,hi,rfl,h0,h1,h5,rfl,hz⟩
 cases hv:x[i]? with
 | some e=>
  obtain⟨hc,hv'⟩:=qp5.1 hv;have hm:=qp6 hv;obtain⟨hwe,hh,hsz⟩:=hw e hm;have hep:=qcX l e;simp[h0,h1,h5,hc,hv',qd e];rw[<- qd e];refine qb.call (qn7 e hwe hh hsz) (by simp) ?_;by_cases hve:zk e=0
  . rw[if_pos hve]at hep;simp[hve,h0,h1,h5,hc,hv',qd e];rw[<- qd e];refine qb.call (qk7 l hlv e hwe) (by simp) ?_;by_cases hp:Wp l e=0
    . simp[hp,h0,h1,h5];exact⟨_,by omega,i+1,by omega,rfl,wr (by omega) (by omega),zh hv hz (by rw[hep];exact hp)⟩
    . rw[ku hv hz (by rw[hep];exact hp),hep];simp[hp]
  . rw[if_neg hve]at hep;rw[ku hv hz (by rw[hep];exact hve),hep];simp[hve]
 | none=>
  have hc:¬ i<x.length:=by simp at hv;omega
  have ht:x.take i=x:=qqg (by omega);rw[ht]at hz;rw[zf.2 hz];simp[h0,h1,h5,hc]
end Go.Proofs.YtoibbcnfhhggnaaGreatDoor
end
