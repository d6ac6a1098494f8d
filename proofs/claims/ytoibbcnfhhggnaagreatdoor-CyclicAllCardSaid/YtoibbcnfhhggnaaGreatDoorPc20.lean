/- A part of the proof. -/
import Derived.Test.YtoibbcnfhhggnaaGreatDoorPc11
set_option linter.unusedVariables false
set_option linter.unusedSimpArgs false
set_option maxRecDepth 100000
set_option linter.defProp false
section
namespace Go.Proofs.YtoibbcnfhhggnaaGreatDoor
open Go Go.Abs
theorem qls (v:Var)(s:Str):Pure Tryz.prog GG 269 [.agg (qo v),.rptr [.str s]] (.bool (v.name==s)):=by
 refine Pure.k qe Tryz.func269 rfl (by kernel_rfl) ?_;simp[-getElem?_pos]
theorem YY {ops:List Int}{e:Ex}(h:(pre e).length<=100000):(zJ ops e).length<=100000:=by
 have:∀ (l:List Ex) (s:List Str),(l.foldl (KF ops) s).length<=s.length+l.length:=by
  intro l
  induction l with
  | nil=>intro s;simp
  | cons a r ih=>intro s;have:=ih (KF ops s a);have:=ve (ops:=ops) (s:=s) (e:=a);simp only[qqV,qqm];omega
 have:=this (pre e) [];simp only[zJ,qqK]at this ⊢;omega
noncomputable def wS (vs:List Var)(e:Ex):Bool:=decide (zg vs e=0)
theorem qlt (p:Problem)(e:Ex)(hl:Fits p.vars)(hwe:Wen e)(hh:hgt e<1000000)(hsz:(pre e).length<=100000):Pure Tryz.prog GG 214 [.agg (qJ p),.agg (qs e)] (.bool (wS p.vars e)):=by
 refine Pure.k qe Tryz.func214 rfl (by kernel_rfl) ?_;obtain⟨r,hr⟩:∃ r,r=wS p.vars e:=⟨_,rfl⟩;rw[<- hr];simp[-getElem?_pos,qd e];rw[<- qd e];refine qc.call (Yh e hwe hh) (by simp) ?_;by_cases h0:zk e=0
 case neg=>
  have:r=false:=by rw[hr];unfold wS zg;rw[if_pos h0];exact decide_eq_false h0
  simp[-getElem?_pos,h0,this]
 simp[-getElem?_pos,h0,qd e];rw[<- qd e];refine qc.call (Qa e hwe hsz) (by simp) ?_;have hab:=Qq (e:=e);cases ha:ZE e
 case true=>
  rw[ha]at hab;have hlz:(0:Int)<(zJ [3,24] e).length:=by have:=of_decide_eq_true hab;omega
  have:r=false:=by rw[hr];unfold wS zg;simp[h0,ha]
  have hnn:¬ zJ [3,24] e=[]:=fun h=>by rw[h]at hlz;simp at hlz
  simp[-getElem?_pos,hlz,hnn,this]
 rw[ha]at hab;have hlz:(zJ [3,24] e).length=0:=by have:=of_decide_eq_false hab;omega
 have hnil:=qqj hlz;simp[-getElem?_pos,hnil,qd e];rw[<- qd e];refine qc.call (Zn e hwe hsz) (by simp) ?_;have hfn:=YY (ops:=[2]) hsz;have hrr:r = !((zJ [2] e).any fun s=>!vC p.vars s):=by
  rw[hr,Qn];unfold wS zg;cases hf:QQ p.vars e<;>simp[h0,ha,hf]
 obtain⟨N,hN⟩:∃ N,N=zJ [2] e:=⟨_,rfl⟩;rw[<- hN]at hfn hrr ⊢;simp[-getElem?_pos];refine qL.list N (fun d ev U=>ev 2=.ptr 0 0/\ev 17=.sl 1 (N.map ja) .none/\ev 18=.int .i64 N.length/\ev 19=.int .i64 d.length/\(∃ H,U=⟨H,[]⟩/\H[0]?=some (.cells (qJ p)))/\∀ s∈d,vC p.vars s=true) ?_ ?_ ?_
 . simp
 . rintro d s rest ev U hd hx hlt ⟨e2,e17,e18,e19,⟨H,rfl,h0⟩,hall⟩;have hw:=wr (n:=(d.length:Int)+1) (by omega) (by omega);simp[-getElem?_pos,e2,e17,e18,e19,hlt,hx,qa h0];refine qc.lent (vZ GG p.vars (fun v=>v.name==s) 269 [] [.rptr [.str s]] hl rfl (by simp) fun v _=>qls v s) rfl ?_ ?_
   . simp[frz]
   . cases hv:vC p.vars s
     . have hv':(p.vars.any fun v=>v.name==s)=false:=hv;have:r=false:=by rw[hrr,Bool.not_eq_false',qqr];exact⟨s,by rw[hd];simp,by simp[hv]⟩
       simp[-getElem?_pos,hv',this]
     . have hv':(p.vars.any fun v=>v.name==s)=true:=hv;simp[-getElem?_pos,hv',e2,e17,e18,e19,hw];exact⟨qa h0 _,fun t ht=>by
        rcases ht with ht|rfl
        . exact hall t ht
        . exact hv⟩
 . rintro ev U ⟨e2,e17,e18,e19,⟨H,rfl,h0⟩,hall⟩;have:r=true:=by
    rw[hrr,qrH,qrf];intro s hs;simp[hall s hs]
   simp[-getElem?_pos,e18,e19,this]
end Go.Proofs.YtoibbcnfhhggnaaGreatDoor
end
