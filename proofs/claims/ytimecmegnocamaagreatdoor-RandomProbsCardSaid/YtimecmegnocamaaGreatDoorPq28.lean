import Derived.Test.YtimecmegnocamaaGreatDoorPq17
set_option maxRecDepth 100000
set_option linter.all false
set_option linter.defProp false
namespace Go.Proofs.YtimecmegnocamaaGreatDoor
open Go Go.Abs Tryz
def qnW(v:Var)(s:Str):Pure prog GG 348 [.agg (qM v),.rptr [.str s]] (.bool (v.name==s)):=by
 refine qFm qg func348 rfl (by kernel_rfl) ?_;simp
def KM{ops e}(h:(pre e).length<=100000):(zQ ops e).length<=100000:=by
 have:∀(l:List Ex) (s:List Str),(l.foldl (WJ ops) s).length<=s.length+l.length:=by
  intro l
  induction l with
  |nil=>intro s;simp
  |cons a r ih=>intro s;have:=ih (WJ ops s a);have:=vJ (ops:=ops) (s:=s) (e:=a);simp only[qBw,qBc];omega
 have:=this (pre e) [];simp only[zQ,qB8]at this⊢;omega
noncomputable def wJ(vs:List Var)(e:Ex):Bool:=decide (zB vs e=0)
def qnX(p e)(hl:Fits p.vars)(hwe:Wen e)(hh:hgt e<1000000)(hsz:(pre e).length<=100000):Pure prog GG 303 [.agg (qA p),.agg (qt e)] (.bool (wJ p.vars e)):=by
 refine qFm qg func303 rfl (by kernel_rfl) ?_;obtain⟨r,hr⟩:∃r,r=wJ p.vars e:=⟨_,rfl⟩;rw[<- hr];simp[qc e];rw[<- qc e];refine qFp (Y4 e hwe hh) (by simp) ?_;by_cases h0:zp e=0
 case neg=>
  have:r=false:=by rw[hr];unfold wJ zB;rw[if_pos h0];exact decide_eq_false h0
  simp[h0,this]
 simp[h0,qc e];rw[<- qc e];refine qFp (QA e hwe hsz) (by simp) ?_;have hab:=QW (e:=e);cases ha:Ye e
 case true=>
  rw[ha]at hab;have hlz:(0:Int)<(zQ [3,24] e).length:=by have:=of_decide_eq_true hab;omega
  have:r=false:=by rw[hr];unfold wJ zB;simp[h0,ha]
  have hnn:¬zQ [3,24] e=[]:=fun h=>by rw[h]at hlz;simp at hlz
  simp[hnn,this]
 rw[ha]at hab;have hlz:(zQ [3,24] e).length=0:=by have:=of_decide_eq_false hab;omega
 have hnil:=qA6 hlz;simp[hnil,qc e];rw[<- qc e];refine qFp (ZT e hwe hsz) (by simp) ?_;have hfn:=KM (ops:=[2]) hsz;have hrr:r = !((zQ [2] e).any fun s=>!Qn p.vars s):=by
  rw[hr,QN];unfold wJ zB;cases hf:Zm p.vars e<;>simp[h0,ha]
 obtain⟨N,hN⟩:∃N,N=zQ [2] e:=⟨_,rfl⟩;rw[<- hN]at hfn hrr⊢;simp;refine qFt N (fun d ev U=>ev 2=.ptr 0 0/\ev 17=.sl 1 (N.map jm) .none/\ev 18=.int .i64 N.length/\ev 19=.int .i64 d.length/\(∃H,U=⟨H,[]⟩/\H[0]?=some (.cells (qA p)))/\∀s∈d,Qn p.vars s=true) ?_ ?_ ?_
 . simp
 . rintro d s rest ev U hd hx hlt ⟨e2,e17,e18,e19,⟨H,rfl,h0⟩,hall⟩;have hw:=wr (n:=(d.length:Int)+1) (by omega) (by omega);simp[-getElem?_pos,e2,e17,e18,e19,hlt,hx,qf h0];refine qFr (Qv GG p.vars (fun v=>v.name==s) 348 [] [.rptr [.str s]] hl rfl (by simp) fun v _=>qnW v s) rfl ?_ ?_
   . simp[frz]
   cases hv:Qn p.vars s
   . have hv':(p.vars.any fun v=>v.name==s)=false:=hv;have:r=false:=by rw[hrr,Bool.not_eq_false',qBr];exact⟨s,by rw[hd];simp,by simp[hv]⟩
     simp[hv',this]
   have hv':(p.vars.any fun v=>v.name==s)=true:=hv;simp[-getElem?_pos,hv',e2,e17,e18,e19,hw];exact⟨qf h0 _,fun t ht=>by
    rcases ht with ht|rfl
    . exact hall t ht
    exact hv⟩
 rintro ev U ⟨e2,e17,e18,e19,⟨H,rfl,h0⟩,hall⟩;have:r=true:=by
  rw[hrr,qCn,qCv];intro s hs;simp[hall s hs]
 simp[e18,e19,this]
