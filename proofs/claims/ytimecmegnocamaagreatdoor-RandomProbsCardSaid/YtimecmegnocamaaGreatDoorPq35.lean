import Derived.Test.YtimecmegnocamaaGreatDoorPq28
import Derived.Test.YtimecmegnocamaaGreatDoorPq34
import Derived.Test.YtimecmegnocamaaGreatDoorPq22
set_option maxHeartbeats 16000000
set_option maxRecDepth 100000
set_option linter.all false
set_option linter.defProp false
namespace Go.Proofs.YtimecmegnocamaaGreatDoor
open Go Go.Abs Tryz
def qnw:List (Nat×Sch×List Nat):=[(9,.step 1 [9,8,7] (.step 2 [9,8,7,5,4,3] (.step 3 [9,8,7,5,4] (.step 4 [9,8,7,5] (.step 6 [9,8,7] (.fork (.cons 0 (.step 5 [9,8,7] (.step 7 [9,8] (.step 8 [9] (.step 9 [] (.done))))) (.cons 5 (.step 0 [9,8,7] (.step 7 [9,8] (.step 8 [9] (.step 9 [] (.done))))) (.nil)))))))),[]),(14,.step 0 [8,7,3,2,1] (.step 1 [8,7,3,2] (.step 2 [8,7,3] (.step 3 [8,7] (.step 4 [8,7] (.step 5 [8,7,6] (.step 6 [8,7] (.step 7 [8] (.step 8 [] (.done))))))))),[])]
noncomputable def qgM(p:Problem)(l:List Ex)(n:Int):Bool:=decide (qo p=0)&&(decide (0<=n)&&(decide (n<=262144)&&l.all (wJ p.vars)))
def qto(p:Problem)(l:List Ex)(n:Nat)(r:AV)(U':St):Prop :=
 if qgM p l n=true then ∃F A t,r=.tup [.ptr F 0,.int .i64 0]/\FndR F A t p l (zC p.vars) false n U'.H/\A<U'.H.length else r=.tup [.nilp,.int .i64 1]
def qo3(p l)(n:Nat)(h:VQ p)(hfl:Fits l)(hx:∀e∈l,Wen e/\hgt e<=1000/\(pre e).length<=100000)(hn:n<4611686018427387904)(H T):
 qj prog GG 244 [.agg (qA p),.sl 4 (l.map qt) .none,.int .i64 n] ⟨H,T⟩ (qto p l n):=by
 refine qFn ⟨false,qnw,[],[]⟩ qg func244 rfl (by kernel_rfl) ?_;have hval:=ka p h;obtain⟨Q,hQ⟩:∃Q,Q=qto p l n:=⟨_,rfl⟩;rw[<- hQ];by_cases hv:qo p=0
 case neg=>
  have:Q=fun r _=>r=.tup [.nilp,.int .i64 1]:=by rw[hQ];funext r U;unfold qto;rw[if_neg (by simp[qgM,hv])]
  simp only[qA]at hval;simp;refine qFp hval (by simp) ?_;simp[hv,this]
 by_cases hn2:n<=262144
 case neg=>
  have:Q=fun r _=>r=.tup [.nilp,.int .i64 1]:=by rw[hQ];funext r U;unfold qto;rw[if_neg (by simp[qgM];omega)]
  have hn3:(262144:Int)<n:=by omega
  simp only[qA]at hval;simp;refine qFp hval (by simp) ?_;simp[hv,hn3,this]
 simp only[qA]at hval;simp;refine qFp hval (by simp) ?_;simp[hv,show ¬(262144:Int)<n by omega,show ¬(n:Int)<0 by omega];refine qFF l (fun d ev U=>ev 1=.sl 4 (l.map qt) .none/\ev 2=.int .i64 n/\ev 3=.ptr H.length 0/\ev 24=.sl 4 (l.map qt) .none/\ev 25=.int .i64 l.length/\ev 26=.int .i64 d.length/\(∃H',U=⟨H',T⟩/\H'[H.length]?=some (.cells (qA p)))/\∀e∈d,wJ p.vars e=true) ?_ ?_ ?_
 . refine⟨by simp,by simp,by simp,by simp,by simp,by simp,⟨_,rfl,?_⟩,by simp⟩;simp
 . rintro d e rest ev U R hR hd hxe hlt ⟨e1,e2,e3,e24,e25,e26,⟨H',rfl,hP⟩,hall⟩;have hm:=qAV hxe;obtain⟨hwe,hh,hsz⟩:=hx e hm;have hkn:=qnX p e (by have:=h.vars;show p.vars.length<_;omega) hwe (by omega) hsz;have hdw:=wr (n:=(d.length:Int)+1) (by unfold Fits at hfl;omega) (by unfold Fits at hfl;omega);simp only[qA]at hkn hP;simp[-getElem?_pos,e3,e24,e25,e26,hlt,hxe,qf hP,qc e];rw[<- qc e];refine qFp hkn (by simp) ?_
   cases hk:wJ p.vars e with
   | false=>
    have:Q=fun r _=>r=.tup [.nilp,.int .i64 1]:=by
     rw[hQ];funext r U;unfold qto;have hb:qgM p l n=false:=by
      have:l.all (wJ p.vars)=false:=qD6.2 ⟨e,hm,by simp[hk]⟩;simp[qgM,this]
     rw[hb];simp
    simp[this]
   | true=>
    simp[e26,hdw];refine hR _ _ ⟨by simp[e1],by simp[e2],by simp[e3],by simp[e24],by simp[e25],by simp,⟨_,rfl,qf hP _⟩,fun x hx=>?_⟩;rcases qBb.1 hx with hx|hx
    . exact hall x hx
    simp only[qBt,qDg,or_false]at hx
    rwa[hx]
 rintro ev U ⟨e1,e2,e3,e24,e25,e26,⟨H',rfl,hP⟩,hall⟩;have hbeg:qgM p l n=true:=by
  have:=qA3.2 hall;simp[qgM,this,hv];omega
 have hQ':Q=fun r U'=>∃F A t,r=.tup [.ptr F 0,.int .i64 0]/\FndR F A t p l (zC p.vars) false n U'.H/\A<U'.H.length:=by
  rw[hQ];funext r U;unfold qto;rw[if_pos hbeg]
 rw[hQ'];simp only[qA]at hP;by_cases hv0:p.vars=[]
 . rw[hv0]at hP;simp only[qBy]at hP;simp[e25,e26];rw[qU rfl];simp[zg,e1,e2,e3,hP,qf hP,hv0,qG,zu,zZ,qP];refine⟨?_,?_⟩
   all_goals
    refine qFu (fun m ev U=>ev 10=.ptr H'.length 0/\ev 46=.int .i64 0/\ev 47=.int .i64 0/\U=⟨H'++[.cells [.sl 4 [] .none,.sl 4 (p.hard.map qt) .none,.sl 4 (p.soft.map qt) .none,.sl 2 (p.dists.map zs) .none,.sl 1 (p.groups.map qD) .none,.sl 4 (l.map qt) .none,.sl 1 [] (.chain T.length 0),.bool false,.int .i64 n]],T++[some 0]⟩) 0 ⟨by simp,by simp⟩ ?_;rintro m ev U R hR ⟨f10,f46,f47,rfl⟩;simp[f10,f46,f47];refine⟨H'.length,⟨T.length,?_,fun h=>absurd rfl h⟩,by simp⟩;simp[hv0,Jg,zC]
 have hpos:=qBf.2 hv0;have hv1:(p.vars.length:Int)<=549755813888:=by have:=h.vars;omega
 simp[e25,e26];rw[qU rfl];simp[zg,e1,e2,e3,hP,qf hP,hv0,hv1,qG,zu,zZ,qP];refine⟨?_,?_⟩
 all_goals
  refine qFF p.vars (fun d ev U=>ev 10=.ptr (H'.length+1) 0/\ev 45=.sl 4 (p.vars.map qM) .none/\ev 46=.int .i64 p.vars.length/\ev 47=.int .i64 d.length/\∃H3,U=⟨H3,T⟩/\H'.length<H3.length/\FndR (H'.length+1) H'.length T.length p l (zC d++List.replicate (p.vars.length-d.length) 0) false n H3) ?_ ?_ ?_
  . refine⟨by simp,by simp,by simp,by simp,_,rfl,by simp,⟨?_,fun _=>?_⟩⟩
    . have hz:zC []++List.replicate (p.vars.length-([]:List Var).length) (0:Int)≠[]:=fun e=>by
       have:=congrArg List.length e;simp[zC]at this
       first|omega|exact hv0 (by simpa using this)
      have hzl:(zC []++List.replicate (p.vars.length-([]:List Var).length) (0:Int)).length=p.vars.length:=(by simp[zC]);rw[qbv,Jg,if_neg hz,hzl];simp
    . simp[zC,zb]
  . rintro d v rest ev U R hR hd hxv hlt ⟨f10,f45,f46,f47,H3,rfl,hAl,hfr⟩;have hdw:=wr (n:=(d.length:Int)+1) (by omega) (by omega);have hrl:List.replicate (p.vars.length-d.length) (0:Int)=0::List.replicate (p.vars.length-(d.length+1)) 0:=by
     rw[show p.vars.length-d.length=(p.vars.length-(d.length+1))+1 by omega,qCV]
    rw[hrl]at hfr;have hsd:zC (d++[v])=zC d++[if v.mode=0 then v.value else 0]:=(by simp[zC]);have hsl:(zC d).length=d.length:=(by simp[zC]);have hnext:∀x:Int,zC d++x::List.replicate (p.vars.length-(d.length+1)) 0=(zC d++[x])++List.replicate (p.vars.length-(d.length+1)) 0:=fun x=>by simp
    have hzl:∀x:Int,(zC d++x::List.replicate (p.vars.length-(d.length+1)) 0).length=p.vars.length:=fun x=>by simp[hsl];omega
    have hz:∀x:Int,zC d++x::List.replicate (p.vars.length-(d.length+1)) 0≠[]:=fun x=>by simp
    have hF3:=hfr.f;have hA3:=hfr.r (hz 0);have hrow:∀x:Int,Jg H'.length T.length (zC d++x::List.replicate (p.vars.length-(d.length+1)) 0)=.ms H'.length 0 p.vars.length 1:=fun x=>by rw[Jg,if_neg (hz x),hzl]
    rw[qbv,hrow]at hF3;by_cases hm0:v.mode=0
    . rw[if_pos hm0]at hsd;have hset:(zb (zC d++0::List.replicate (p.vars.length-(d.length+1)) 0)).set d.length (.int .i64 v.value)=zb (zC d++v.value::List.replicate (p.vars.length-(d.length+1)) 0):=by
       rw[yL,qBK _ _ (by omega),hsl,qBS];rfl
      simp[-getElem?_pos,f45,f46,f47,hlt,hxv,hm0];rw[qU rfl];simp[-getElem?_pos,zg,f10,f47,qf hF3,qf hA3,hlt,show(zb (zC d++0::List.replicate (p.vars.length-(d.length+1)) 0)).length=p.vars.length by rw[qR,hzl],hset,show d.length+1<=p.vars.length by omega,hdw];refine hR _ _ ⟨by simp[f10],by simp[f45],by simp[f46],by simp,_,rfl,by simp;omega,?_⟩;rw[hsd,qAY,qBo,<- hnext];refine⟨?_,fun _=>?_⟩
      . rw[qbv,hrow,qAX (by omega)];exact qf hF3 _
      exact qA0 (by simp;omega)
    rw[if_neg hm0]at hsd;simp[-getElem?_pos,f45,f46,f47,hlt,hxv,hm0,hdw];refine hR _ _ ⟨by simp[f10],by simp[f45],by simp[f46],by simp,_,rfl,by simp;omega,?_⟩;rw[hsd,qAY,qBo,<- hnext];exact hfr.look _
  rintro ev U ⟨f10,f45,f46,f47,H3,rfl,hAl,hfr⟩;rw[qBS,qDO,qBC]at hfr;simp[f10,f46,f47];exact⟨H'.length,⟨T.length,hfr⟩,hAl⟩
