import Derived.Test.YtfmdnopgncbmoaaGreatDoorPs26
import Derived.Test.YtfmdnopgncbmoaaGreatDoorPs14
set_option maxRecDepth 100000
set_option linter.all false
set_option linter.defProp false
namespace Go.Proofs.YtfmdnopgncbmoaaGreatDoor
open Go Go.Abs Tryz
def qlP(v:Var)(s:Str):Pure prog GG 304 [.agg (qD v),.rptr [.str s]] (.bool (v.name==s)):=by
 refine qCL qe func304 rfl (by kernel_rfl) ?_;simp
def YG{ops e}(h:(pre e).length<=100000):(zH ops e).length<=100000:=by
 have:∀(l:List Ex) (s:List Str),(l.foldl (Kr ops) s).length<=s.length+l.length:=by
  intro l
  induction l with
  |nil=>intro s;simp
  |cons a r ih=>intro s;have:=ih (Kr ops s a);have:=wX (ops:=ops) (s:=s) (e:=a);simp only[qzm,qyY];omega
 have:=this (pre e) [];simp only[zH,qzH]at this⊢;omega
noncomputable def vG(vs:List Var)(e:Ex):Bool:=decide (zi vs e=0)
def qlQ(p e)(hl:Fits p.vars)(hwe:Wen e)(hh:hgt e<1000000)(hsz:(pre e).length<=100000):Pure prog GG 260 [.agg (qA p),.agg (qt e)] (.bool (vG p.vars e)):=by
 refine qCL qe func260 rfl (by kernel_rfl) ?_;obtain⟨r,hr⟩:∃r,r=vG p.vars e:=⟨_,rfl⟩;rw[<- hr];simp[qd e];rw[<- qd e];refine qCO (Ya e hwe hh) (by simp) ?_;by_cases h0:ze e=0
 case neg=>
  have:r=false:=by rw[hr];unfold vG zi;rw[if_pos h0];exact decide_eq_false h0
  simp[h0,this]
 simp[h0,qd e];rw[<- qd e];refine qCO (vR e hwe hsz) (by simp) ?_;have hab:=Qe (e:=e);cases ha:Jq e
 case true=>
  rw[ha]at hab;have hlz:(0:Int)<(zH [3,24] e).length:=by have:=of_decide_eq_true hab;omega
  have:r=false:=by rw[hr];unfold vG zi;simp[h0,ha]
  have hnn:¬zH [3,24] e=[]:=fun h=>by rw[h]at hlz;simp at hlz
  simp[hnn,this]
 rw[ha]at hab;have hlz:(zH [3,24] e).length=0:=by have:=of_decide_eq_false hab;omega
 have hnil:=qyX hlz;simp[hnil,qd e];rw[<- qd e];refine qCO (Q5 e hwe hsz) (by simp) ?_;have hfn:=YG (ops:=[2]) hsz;have hrr:r = !((zH [2] e).any fun s=>!vK p.vars s):=by
  rw[hr,v8];unfold vG zi;cases hf:QD p.vars e<;>simp[h0,ha]
 obtain⟨N,hN⟩:∃N,N=zH [2] e:=⟨_,rfl⟩;rw[<- hN]at hfn hrr⊢;simp;refine qQ.list N (fun d ev U=>ev 2=.ptr 0 0/\ev 17=.sl 1 (N.map z8) .none/\ev 18=.int .i64 N.length/\ev 19=.int .i64 d.length/\(∃H,U=⟨H,[]⟩/\H[0]?=some (.cells (qA p)))/\∀s∈d,vK p.vars s=true) ?_ ?_ ?_
 . simp
 . rintro d s rest ev U hd hx hlt ⟨e2,e17,e18,e19,⟨H,rfl,h0⟩,hall⟩;have hw:=wr (n:=(d.length:Int)+1) (by omega) (by omega);simp[-getElem?_pos,e2,e17,e18,e19,hlt,hx,qa h0];refine qCP (vP GG p.vars (fun v=>v.name==s) 304 [] [.rptr [.str s]] hl rfl (by simp) fun v _=>qlP v s) rfl ?_ ?_
   . simp[frz]
   cases hv:vK p.vars s
   . have hv':(p.vars.any fun v=>v.name==s)=false:=hv;have:r=false:=by rw[hrr,Bool.not_eq_false',qy8];exact⟨s,by rw[hd];simp,by simp[hv]⟩
     simp[hv',this]
   have hv':(p.vars.any fun v=>v.name==s)=true:=hv;simp[-getElem?_pos,hv',e2,e17,e18,e19,hw];exact⟨qa h0 _,fun t ht=>by
    rcases ht with ht|rfl
    . exact hall t ht
    exact hv⟩
 rintro ev U ⟨e2,e17,e18,e19,⟨H,rfl,h0⟩,hall⟩;have:r=true:=by
  rw[hrr,qz4,qAg];intro s hs;simp[hall s hs]
 simp[e18,e19,this]
