/- A part of the proof. -/
import Derived.Test.YtkpkjbchlabaaaaGreatDoorDa22
import Derived.Test.YtkpkjbchlabaaaaGreatDoorDa11
set_option linter.unusedVariables false
set_option linter.unusedSimpArgs false
set_option maxRecDepth 100000
set_option linter.defProp false
section
namespace Go.Proofs.YtkpkjbchlabaaaaGreatDoor
open Go Go.Abs
theorem qjZ (v:Var)(s:Str):Pure Tryz.prog GG 323 [.agg (qC v),.rptr [.str s]] (.bool (v.name==s)):=by
 refine Pure.k qe Tryz.func323 rfl (by kernel_rfl) ?_;simp[-getElem?_pos]
theorem Yd {ops:List Int}{e:Ex}(h:(pre e).length<=100000):(zC ops e).length<=100000:=by
 have:∀ (l:List Ex) (s:List Str),(l.foldl (YQ ops) s).length<=s.length+l.length:=by
  intro l
  induction l with
  | nil=>intro s;simp
  | cons a r ih=>intro s;have:=ih (YQ ops s a);have:=wC (ops:=ops) (s:=s) (e:=a);simp only[qpA,qo7];omega
 have:=this (pre e) [];simp only[zC,qpG]at this ⊢;omega
noncomputable def wo (vs:List Var)(e:Ex):Bool:=decide (zc vs e=0)
theorem qj0 (p:Problem)(e:Ex)(hl:Fits p.vars)(hwe:Wen e)(hh:hgt e<1000000)(hsz:(pre e).length<=100000):Pure Tryz.prog GG 291 [.agg (qG p),.agg (qq e)] (.bool (wo p.vars e)):=by
 refine Pure.k qe Tryz.func291 rfl (by kernel_rfl) ?_;obtain⟨r,hr⟩:∃ r,r=wo p.vars e:=⟨_,rfl⟩;rw[<- hr];simp[-getElem?_pos,qd e];rw[<- qd e];refine qc.call (JI e hwe hh) (by simp) ?_;by_cases h0:zf e=0
 case neg=>
  have:r=false:=by rw[hr];unfold wo zc;rw[if_pos h0];exact decide_eq_false h0
  simp[-getElem?_pos,h0,this]
 simp[-getElem?_pos,h0,qd e];rw[<- qd e];refine qc.call (vo e hwe hsz) (by simp) ?_;have hab:=vJ (e:=e);cases ha:ZW e
 case true=>
  rw[ha]at hab;have hlz:(0:Int)<(zC [3,24] e).length:=by have:=of_decide_eq_true hab;omega
  have:r=false:=by rw[hr];unfold wo zc;simp[h0,ha]
  have hnn:¬ zC [3,24] e=[]:=fun h=>by rw[h]at hlz;simp at hlz
  simp[-getElem?_pos,hlz,hnn,this]
 rw[ha]at hab;have hlz:(zC [3,24] e).length=0:=by have:=of_decide_eq_false hab;omega
 have hnil:=qo8 hlz;simp[-getElem?_pos,hnil,qd e];rw[<- qd e];refine qc.call (QD e hwe hsz) (by simp) ?_;have hfn:=Yd (ops:=[2]) hsz;have hrr:r = !((zC [2] e).any fun s=>!ve p.vars s):=by
  rw[hr,vB];unfold wo zc;cases hf:Qc p.vars e<;>simp[h0,ha,hf]
 obtain⟨N,hN⟩:∃ N,N=zC [2] e:=⟨_,rfl⟩;rw[<- hN]at hfn hrr ⊢;simp[-getElem?_pos];refine qX.list N (fun d ev U=>ev 2=.ptr 0 0/\ev 17=.sl 1 (N.map z0) .none/\ev 18=.int .i64 N.length/\ev 19=.int .i64 d.length/\(∃ H,U=⟨H,[]⟩/\H[0]?=some (.cells (qG p)))/\∀ s∈d,ve p.vars s=true) ?_ ?_ ?_
 . simp
 . rintro d s rest ev U hd hx hlt ⟨e2,e17,e18,e19,⟨H,rfl,h0⟩,hall⟩;have hw:=wr (n:=(d.length:Int)+1) (by omega) (by omega);simp[-getElem?_pos,e2,e17,e18,e19,hlt,hx,qa h0];refine qc.lent (vm GG p.vars (fun v=>v.name==s) 323 [] [.rptr [.str s]] hl rfl (by simp) fun v _=>qjZ v s) rfl ?_ ?_
   . simp[frz]
   . cases hv:ve p.vars s
     . have hv':(p.vars.any fun v=>v.name==s)=false:=hv;have:r=false:=by rw[hrr,Bool.not_eq_false',qpk];exact⟨s,by rw[hd];simp,by simp[hv]⟩
       simp[-getElem?_pos,hv',this]
     . have hv':(p.vars.any fun v=>v.name==s)=true:=hv;simp[-getElem?_pos,hv',e2,e17,e18,e19,hw];exact⟨qa h0 _,fun t ht=>by
        rcases ht with ht|rfl
        . exact hall t ht
        . exact hv⟩
 . rintro ev U ⟨e2,e17,e18,e19,⟨H,rfl,h0⟩,hall⟩;have:r=true:=by
    rw[hrr,qp4,qqd];intro s hs;simp[hall s hs]
   simp[-getElem?_pos,e18,e19,this]
end Go.Proofs.YtkpkjbchlabaaaaGreatDoor
end
