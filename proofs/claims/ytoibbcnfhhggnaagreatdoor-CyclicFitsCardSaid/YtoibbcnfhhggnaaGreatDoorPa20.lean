/- A part of the proof. -/
import Derived.Test.YtoibbcnfhhggnaaGreatDoorPa11
set_option linter.unusedVariables false
set_option linter.unusedSimpArgs false
set_option maxRecDepth 100000
set_option linter.defProp false
section
namespace Go.Proofs.YtoibbcnfhhggnaaGreatDoor
open Go Go.Abs
theorem qlD (v:Var)(s:Str):Pure Tryz.prog GG 269 [.agg (qp v),.rptr [.str s]] (.bool (v.name==s)):=by
 refine Pure.k qe Tryz.func269 rfl (by kernel_rfl) ?_;simp[-getElem?_pos]
theorem YM {ops:List Int}{e:Ex}(h:(pre e).length<=100000):(zF ops e).length<=100000:=by
 have:∀ (l:List Ex) (s:List Str),(l.foldl (Kq ops) s).length<=s.length+l.length:=by
  intro l
  induction l with
  | nil=>intro s;simp
  | cons a r ih=>intro s;have:=ih (Kq ops s a);have:=wX (ops:=ops) (s:=s) (e:=a);simp only[qq7,qqC];omega
 have:=this (pre e) [];simp only[zF,qq1]at this ⊢;omega
noncomputable def wO (vs:List Var)(e:Ex):Bool:=decide (zm vs e=0)
theorem qlE (p:Problem)(e:Ex)(hl:Fits p.vars)(hwe:Wen e)(hh:hgt e<1000000)(hsz:(pre e).length<=100000):Pure Tryz.prog GG 214 [.agg (qL p),.agg (qu e)] (.bool (wO p.vars e)):=by
 refine Pure.k qe Tryz.func214 rfl (by kernel_rfl) ?_;obtain⟨r,hr⟩:∃ r,r=wO p.vars e:=⟨_,rfl⟩;rw[<- hr];simp[-getElem?_pos,qc e];rw[<- qc e];refine qd.call (J9 e hwe hh) (by simp) ?_;by_cases h0:zh e=0
 case neg=>
  have:r=false:=by rw[hr];unfold wO zm;rw[if_pos h0];exact decide_eq_false h0
  simp[-getElem?_pos,h0,this]
 simp[-getElem?_pos,h0,qc e];rw[<- qc e];refine qd.call (v9 e hwe hsz) (by simp) ?_;have hab:=Qr (e:=e);cases ha:Jx e
 case true=>
  rw[ha]at hab;have hlz:(0:Int)<(zF [3,24] e).length:=by have:=of_decide_eq_true hab;omega
  have:r=false:=by rw[hr];unfold wO zm;simp[h0,ha]
  have hnn:¬ zF [3,24] e=[]:=fun h=>by rw[h]at hlz;simp at hlz
  simp[-getElem?_pos,hlz,hnn,this]
 rw[ha]at hab;have hlz:(zF [3,24] e).length=0:=by have:=of_decide_eq_false hab;omega
 have hnil:=qqA hlz;simp[-getElem?_pos,hnil,qc e];rw[<- qc e];refine qd.call (Zk e hwe hsz) (by simp) ?_;have hfn:=YM (ops:=[2]) hsz;have hrr:r = !((zF [2] e).any fun s=>!vz p.vars s):=by
  rw[hr,Qm];unfold wO zm;cases hf:QQ p.vars e<;>simp[h0,ha,hf]
 obtain⟨N,hN⟩:∃ N,N=zF [2] e:=⟨_,rfl⟩;rw[<- hN]at hfn hrr ⊢;simp[-getElem?_pos];refine qM.list N (fun d ev U=>ev 2=.ptr 0 0/\ev 17=.sl 1 (N.map jc) .none/\ev 18=.int .i64 N.length/\ev 19=.int .i64 d.length/\(∃ H,U=⟨H,[]⟩/\H[0]?=some (.cells (qL p)))/\∀ s∈d,vz p.vars s=true) ?_ ?_ ?_
 . simp
 . rintro d s rest ev U hd hx hlt ⟨e2,e17,e18,e19,⟨H,rfl,h0⟩,hall⟩;have hw:=wr (n:=(d.length:Int)+1) (by omega) (by omega);simp[-getElem?_pos,e2,e17,e18,e19,hlt,hx,qb h0];refine qd.lent (vZ GG p.vars (fun v=>v.name==s) 269 [] [.rptr [.str s]] hl rfl (by simp) fun v _=>qlD v s) rfl ?_ ?_
   . simp[frz]
   . cases hv:vz p.vars s
     . have hv':(p.vars.any fun v=>v.name==s)=false:=hv;have:r=false:=by rw[hrr,Bool.not_eq_false',qqN];exact⟨s,by rw[hd];simp,by simp[hv]⟩
       simp[-getElem?_pos,hv',this]
     . have hv':(p.vars.any fun v=>v.name==s)=true:=hv;simp[-getElem?_pos,hv',e2,e17,e18,e19,hw];exact⟨qb h0 _,fun t ht=>by
        rcases ht with ht|rfl
        . exact hall t ht
        . exact hv⟩
 . rintro ev U ⟨e2,e17,e18,e19,⟨H,rfl,h0⟩,hall⟩;have:r=true:=by
    rw[hrr,qrV,qrz];intro s hs;simp[hall s hs]
   simp[-getElem?_pos,e18,e19,this]
end Go.Proofs.YtoibbcnfhhggnaaGreatDoor
end
