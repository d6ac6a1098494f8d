/- A part of the proof. -/
import Derived.Test.YtkpkjbchlabaaaaGreatDoorSa22
import Derived.Test.YtkpkjbchlabaaaaGreatDoorSa11
set_option linter.unusedVariables false
set_option linter.unusedSimpArgs false
set_option maxRecDepth 100000
set_option linter.defProp false
section
namespace Go.Proofs.YtkpkjbchlabaaaaGreatDoor
open Go Go.Abs
theorem qlc (v:Var)(s:Str):Pure Tryz.prog GG 323 [.agg (qA v),.rptr [.str s]] (.bool (v.name==s)):=by
 refine Pure.k qe Tryz.func323 rfl (by kernel_rfl) ?_;simp[-getElem?_pos]
theorem YF {ops:List Int}{e:Ex}(h:(pre e).length<=100000):(zD ops e).length<=100000:=by
 have:∀ (l:List Ex) (s:List Str),(l.foldl (Kl ops) s).length<=s.length+l.length:=by
  intro l
  induction l with
  | nil=>intro s;simp
  | cons a r ih=>intro s;have:=ih (Kl ops s a);have:=wQ (ops:=ops) (s:=s) (e:=a);simp only[qqR,qqs];omega
 have:=this (pre e) [];simp only[zD,qq0]at this ⊢;omega
noncomputable def wH (vs:List Var)(e:Ex):Bool:=decide (zi vs e=0)
theorem qld (p:Problem)(e:Ex)(hl:Fits p.vars)(hwe:Wen e)(hh:hgt e<1000000)(hsz:(pre e).length<=100000):Pure Tryz.prog GG 291 [.agg (qE p),.agg (qr e)] (.bool (wH p.vars e)):=by
 refine Pure.k qe Tryz.func291 rfl (by kernel_rfl) ?_;obtain⟨r,hr⟩:∃ r,r=wH p.vars e:=⟨_,rfl⟩;rw[<- hr];simp[-getElem?_pos,qd e];rw[<- qd e];refine qc.call (J2 e hwe hh) (by simp) ?_;by_cases h0:zf e=0
 case neg=>
  have:r=false:=by rw[hr];unfold wH zi;rw[if_pos h0];exact decide_eq_false h0
  simp[-getElem?_pos,h0,this]
 simp[-getElem?_pos,h0,qd e];rw[<- qd e];refine qc.call (vO e hwe hsz) (by simp) ?_;have hab:=Qa (e:=e);cases ha:Jf e
 case true=>
  rw[ha]at hab;have hlz:(0:Int)<(zD [3,24] e).length:=by have:=of_decide_eq_true hab;omega
  have:r=false:=by rw[hr];unfold wH zi;simp[h0,ha]
  have hnn:¬ zD [3,24] e=[]:=fun h=>by rw[h]at hlz;simp at hlz
  simp[-getElem?_pos,hlz,hnn,this]
 rw[ha]at hab;have hlz:(zD [3,24] e).length=0:=by have:=of_decide_eq_false hab;omega
 have hnil:=qqv hlz;simp[-getElem?_pos,hnil,qd e];rw[<- qd e];refine qc.call (QW e hwe hsz) (by simp) ?_;have hfn:=YF (ops:=[2]) hsz;have hrr:r = !((zD [2] e).any fun s=>!vH p.vars s):=by
  rw[hr,vW];unfold wH zi;cases hf:Qw p.vars e<;>simp[h0,ha,hf]
 obtain⟨N,hN⟩:∃ N,N=zD [2] e:=⟨_,rfl⟩;rw[<- hN]at hfn hrr ⊢;simp[-getElem?_pos];refine qX.list N (fun d ev U=>ev 2=.ptr 0 0/\ev 17=.sl 1 (N.map zZ) .none/\ev 18=.int .i64 N.length/\ev 19=.int .i64 d.length/\(∃ H,U=⟨H,[]⟩/\H[0]?=some (.cells (qE p)))/\∀ s∈d,vH p.vars s=true) ?_ ?_ ?_
 . simp
 . rintro d s rest ev U hd hx hlt ⟨e2,e17,e18,e19,⟨H,rfl,h0⟩,hall⟩;have hw:=wr (n:=(d.length:Int)+1) (by omega) (by omega);simp[-getElem?_pos,e2,e17,e18,e19,hlt,hx,qa h0];refine qc.lent (vL GG p.vars (fun v=>v.name==s) 323 [] [.rptr [.str s]] hl rfl (by simp) fun v _=>qlc v s) rfl ?_ ?_
   . simp[frz]
   . cases hv:vH p.vars s
     . have hv':(p.vars.any fun v=>v.name==s)=false:=hv;have:r=false:=by rw[hrr,Bool.not_eq_false',qqF];exact⟨s,by rw[hd];simp,by simp[hv]⟩
       simp[-getElem?_pos,hv',this]
     . have hv':(p.vars.any fun v=>v.name==s)=true:=hv;simp[-getElem?_pos,hv',e2,e17,e18,e19,hw];exact⟨qa h0 _,fun t ht=>by
        rcases ht with ht|rfl
        . exact hall t ht
        . exact hv⟩
 . rintro ev U ⟨e2,e17,e18,e19,⟨H,rfl,h0⟩,hall⟩;have:r=true:=by
    rw[hrr,qrv,qrD];intro s hs;simp[hall s hs]
   simp[-getElem?_pos,e18,e19,this]
end Go.Proofs.YtkpkjbchlabaaaaGreatDoor
end
