import Derived.Test.YtafbccendejkeaaGreatDoorPt12
set_option maxRecDepth 100000
set_option linter.all false
set_option linter.defProp false
namespace Go.Proofs.YtafbccendejkeaaGreatDoor
open Go Go.Abs Tryz
def qnz(v:Var)(s:Str):Pure prog GG 348 [.agg (qJ v),.rptr [.str s]] (.bool (v.name==s)):=by
 refine qEG qe func348 rfl (by kernel_rfl) ?_;simp[-getElem?_pos]
def KE{ops e}(h:(pre e).length<=100000):(zO ops e).length<=100000:=by
 have:∀(l:List Ex) (s:List Str),(l.foldl (Wz ops) s).length<=s.length+l.length:=by
  intro l
  induction l with
  |nil=>intro s;simp
  |cons a r ih=>intro s;have:=ih (Wz ops s a);have:=vC (ops:=ops) (s:=s) (e:=a);simp only[qA1,qAD];omega
 have:=this (pre e) [];simp only[zO,qBh]at this⊢;omega
noncomputable def wD(vs:List Var)(e:Ex):Bool:=decide (zy vs e=0)
def qnA(p e)(hl:Fits p.vars)(hwe:Wen e)(hh:hgt e<1000000)(hsz:(pre e).length<=100000):Pure prog GG 301 [.agg (qt p),.agg (qp e)] (.bool (wD p.vars e)):=by
 refine qEG qe func301 rfl (by kernel_rfl) ?_;obtain⟨r,hr⟩:∃r,r=wD p.vars e:=⟨_,rfl⟩;rw[<- hr];simp[-getElem?_pos,qc e];rw[<- qc e];refine qEJ (YZ e hwe hh) (by simp) ?_;by_cases h0:zi e=0
 case neg=>
  have:r=false:=by rw[hr];unfold wD zy;rw[if_pos h0];exact decide_eq_false h0
  simp[-getElem?_pos,h0,this]
 simp[-getElem?_pos,h0,qc e];rw[<- qc e];refine qEJ (Qt e hwe hsz) (by simp) ?_;have hab:=QN (e:=e);cases ha:Yc e
 case true=>
  rw[ha]at hab;have hlz:(0:Int)<(zO [3,24] e).length:=by have:=of_decide_eq_true hab;omega
  have:r=false:=by rw[hr];unfold wD zy;simp[h0,ha]
  have hnn:¬zO [3,24] e=[]:=fun h=>by rw[h]at hlz;simp at hlz
  simp[-getElem?_pos,hnn,this]
 rw[ha]at hab;have hlz:(zO [3,24] e).length=0:=by have:=of_decide_eq_false hab;omega
 have hnil:=qAA hlz;simp[-getElem?_pos,hnil,qc e];rw[<- qc e];refine qEJ (ZO e hwe hsz) (by simp) ?_;have hfn:=KE (ops:=[2]) hsz;have hrr:r = !((zO [2] e).any fun s=>!Qf p.vars s):=by
  rw[hr,QF];unfold wD zy;cases hf:Zj p.vars e<;>simp[h0,ha]
 obtain⟨N,hN⟩:∃N,N=zO [2] e:=⟨_,rfl⟩;rw[<- hN]at hfn hrr⊢;simp[-getElem?_pos];refine qEN N (fun d ev U=>ev 2=.ptr 0 0/\ev 17=.sl 1 (N.map jk) .none/\ev 18=.int .i64 N.length/\ev 19=.int .i64 d.length/\(∃H,U=⟨H,[]⟩/\H[0]?=some (.cells (qt p)))/\∀s∈d,Qf p.vars s=true) ?_ ?_ ?_
 . simp
 . rintro d s rest ev U hd hx hlt ⟨e2,e17,e18,e19,⟨H,rfl,h0⟩,hall⟩;have hw:=wr (n:=(d.length:Int)+1) (by omega) (by omega);simp[-getElem?_pos,e2,e17,e18,e19,hlt,hx,qd h0];refine qEL (Qn GG p.vars (fun v=>v.name==s) 348 [] [.rptr [.str s]] hl rfl (by simp) fun v _=>qnz v s) rfl ?_ ?_
   . simp[frz]
   cases hv:Qf p.vars s
   . have hv':(p.vars.any fun v=>v.name==s)=false:=hv;have:r=false:=by rw[hrr,Bool.not_eq_false',qAW];exact⟨s,by rw[hd];simp,by simp[hv]⟩
     simp[-getElem?_pos,hv',this]
   have hv':(p.vars.any fun v=>v.name==s)=true:=hv;simp[-getElem?_pos,hv',e2,e17,e18,e19,hw];exact⟨qd h0 _,fun t ht=>by
    rcases ht with ht|rfl
    . exact hall t ht
    exact hv⟩
 rintro ev U ⟨e2,e17,e18,e19,⟨H,rfl,h0⟩,hall⟩;have:r=true:=by
  rw[hrr,qBO,qB4];intro s hs;simp[hall s hs]
 simp[-getElem?_pos,e18,e19,this]
