import Derived.Test.YtfmdnopgncbmoaaGreatDoorPs17
import Derived.Test.YtfmdnopgncbmoaaGreatDoorPs18
set_option maxRecDepth 100000
set_option linter.all false
set_option linter.defProp false
namespace Go.Proofs.YtfmdnopgncbmoaaGreatDoor
open Go Go.Abs Tryz
def qpq(U b)(h:U.H[b]?=some (.cells [.int .i64 0,.int .i64 0,.int .i64 0,.sl 0 [] .nil,.sl 0 [] .nil])):OS b 0 0 0 [] [] none none U U :=
 ⟨h,rfl,rfl,fun h=>absurd rfl h,qyQ _,fun _ _ _=>rfl⟩
def qpr(e)(hwe:Wen e)(hh:hgt e<=1000)(hsz:(pre e).length<=200000000000)(U0):qf prog GG 115 [.agg (qt e)] U0 (fun r U=>∃b V A tv ta,r=.ptr b 0/\U.H[b]?=some (.cells [.int .i64 (KB e),.int .i64 (hgt e),.int .i64 (qO qp (pre e)),slS V tv,slS A ta])/\TT V tv U.T/\V=KC [] (pre e)):=by
 refine qf.vc qe func115 rfl (by kernel_rfl) ?_;simp only[qd e];simp[zp,zS];rw[<- qd e];refine qC0 (qr9 e hwe _ (U0.H.length+1) 0 0 0 [] [] none none 1 0 (qpq _ _ (by simp)) (by simp) (by omega) (by omega) (by omega)) ?_;rintro r U ⟨V,A,tv,ta,hos,_,hV⟩;have hb:=hos.hb;rw[show max 0 (1+(hgt e:Int)-1)=hgt e by omega]at hb;simp only[if_true,qCD]at hb
 try simp
 exact⟨V,A,tv,⟨ta,hb⟩,hos.tV,hV⟩
def qoL(e)(hwe:Wen e)(hh:hgt e<=1000)(hsz:(pre e).length<=100000):Pure prog GG 71 [.agg (qt e)] (.int .i64 (ze e)):=by
 refine qDb qe func71 rfl (by kernel_rfl) ?_;simp only[qd e];simp;rw[<- qd e];refine qC0 (qpr e hwe hh (by omega) _) ?_;rintro r U ⟨b,V,A,tv,ta,rfl,hb,_,_⟩;by_cases h0:qO qp (pre e)=0
 . rw[h0]at hb;by_cases h24:24<hgt e
   . have h24':(24:Int)<hgt e:=(by omega);have x:ze e=2:=(by unfold ze;rw[if_pos ⟨h0,.inl h24⟩]);rw[x];simp[hb,h24']
   have h24':¬(24:Int)<hgt e:=(by omega);by_cases h4:400<KB e
   . have x:ze e=2:=(by unfold ze;rw[if_pos ⟨h0,.inr h4⟩]);rw[x];simp[hb,h24',h4]
   have x:ze e=0:=(by unfold ze;rw[if_neg (fun h=>by rcases h.2 with h|h;exact h24 h;exact h4 h),h0]);rw[x];simp[hb,h24',h4]
 have x:ze e=qO qp (pre e):=by unfold ze;rw[if_neg (fun h=>h0 h.1)]
 rw[x];simp[hb,h0]
def qc9(l e):zi l e=if ze e=0 then Wd l e else ze e:=by
 unfold zi Wd;by_cases h:ze e=0
 . rw[if_neg (by simpa using h),if_pos h]
 rw[if_pos h,if_neg h]
def Ze(l)(hlv:Fits l)(x)(hx:x.length<=1000000)(hw:∀e∈x,Wen e/\hgt e<=1000/\(pre e).length<=100000):Pure prog GG 34 [.sl 4 (l.map qD) .none,.sl 4 (x.map qt) .none] (.int .i64 (qO (zi l) x)):=by
 refine qDb qe func34 rfl (by kernel_rfl) ?_;simp;refine qC9 (fun n env U=>∃i,i<=x.length/\n=x.length-i/\env 0=.sl 4 (l.map qD) .none/\env 1=.sl 4 (x.map qt) .none/\env 5=.int .i64 i/\U=⟨[],[]⟩/\∀e∈x.take i,zi l e=0) x.length ⟨0,by simp⟩ ?_;rintro n env U ⟨i,hi,rfl,h0,h1,h5,rfl,hz⟩
 cases hv:x[i]? with
 | some e=>
  obtain⟨hc,hv'⟩:=qyF.1 hv;have hm:=qyG hv;obtain⟨hwe,hh,hsz⟩:=hw e hm;have hep:=qc9 l e;simp[h1,h5,hc,hv',qd e];rw[<- qd e];refine qCW (qoL e hwe hh hsz) (by simp) ?_;by_cases hve:ze e=0
  . rw[if_pos hve]at hep;simp[hve,h0,h1,h5,hc,hv',qd e];rw[<- qd e];refine qCW (qlq l hlv e hwe) (by simp) ?_;by_cases hp:Wd l e=0
    . simp[hp,h0,h1,h5];exact⟨_,by omega,i+1,by omega,rfl,wr (by omega) (by omega),za hv hz (by rwa[hep])⟩
    rw[kh hv hz (by rwa[hep]),hep];simp[hp]
  rw[if_neg hve]at hep;rw[kh hv hz (by rwa[hep]),hep];simp[hve]
 | none=>
  have hc:¬i<x.length:=by simp at hv;omega
  rw[show x.take i=x from qyN (by omega)]at hz;rw[zz.2 hz];simp[h1,h5,hc]
