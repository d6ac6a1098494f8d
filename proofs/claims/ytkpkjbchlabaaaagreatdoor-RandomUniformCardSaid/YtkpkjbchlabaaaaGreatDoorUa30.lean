/- A part of the proof. -/
import Derived.Test.YtkpkjbchlabaaaaGreatDoorUa23
import Derived.Test.YtkpkjbchlabaaaaGreatDoorUa29
import Derived.Test.YtkpkjbchlabaaaaGreatDoorUa16
set_option maxHeartbeats 16000000
set_option linter.unusedVariables false
set_option linter.unusedSimpArgs false
set_option maxRecDepth 100000
set_option linter.defProp false
section
namespace Go.Proofs.YtkpkjbchlabaaaaGreatDoor
open Go Go.Abs
def qkb:List (Nat×Sch×List Nat):=[(9,.step 1 [9,8,7] (.step 2 [9,8,7,5,4,3] (.step 3 [9,8,7,5,4] (.step 4 [9,8,7,5] (.step 6 [9,8,7] (.fork (.cons 0 (.step 5 [9,8,7] (.step 7 [9,8] (.step 8 [9] (.step 9 [] (.done))))) (.cons 5 (.step 0 [9,8,7] (.step 7 [9,8] (.step 8 [9] (.step 9 [] (.done))))) (.nil)))))))),[]),(14,.step 0 [8,7,3,2,1] (.step 1 [8,7,3,2] (.step 2 [8,7,3] (.step 3 [8,7] (.step 4 [8,7] (.step 5 [8,7,6] (.step 6 [8,7] (.step 7 [8] (.step 8 [] (.done))))))))),[])]
noncomputable def qef (p:Problem)(l:List Ex)(n:Int):Bool:=decide (qk p=0)&&(decide (0<=n)&&(decide (n<=262144)&&l.all (wu p.vars)))
def qpx (p:Problem)(l:List Ex)(n:Nat)(r:AV)(U':St):Prop :=
 if qef p l n=true then ∃ F A t,r=.tup [.ptr F 0,.int .i64 0]/\FndR F A t p l (zH p.vars) false n U'.H/\A<U'.H.length else r=.tup [.nilp,.int .i64 1]
theorem qlM (p:Problem)(l:List Ex)(n:Nat)(h:VQ p)(hfl:Fits l)(hx:∀ e∈l,Wen e/\hgt e<=1000/\(pre e).length<=100000)(hn:n<4611686018427387904)(H:List Blk)(T:List (Option Nat)) :
 qf Tryz.prog GG 234 [.agg (qG p),.sl 4 (l.map qq) .none,.int .i64 n] ⟨H,T⟩ (qpx p l n):=by
 refine qf.kO ⟨false,qkb,[],[]⟩ qe Tryz.func234 rfl (by kernel_rfl) ?_;have hval:=yh p h;have hfv:Fits p.vars:=by have:=h.vars;show p.vars.length<_;omega
 have hnn:¬ (n:Int)<0:=by omega
 obtain⟨Q,hQ⟩:∃ Q,Q=qpx p l n:=⟨_,rfl⟩;rw[<- hQ];by_cases hv:qk p=0
 case neg=>
  have:Q=fun r _=>r=.tup [.nilp,.int .i64 1]:=by rw[hQ];funext r U;unfold qpx;rw[if_neg (by simp[qef,hv])]
  simp only[qG]at hval;simp[-getElem?_pos];refine qc.call hval (by simp) ?_;simp[-getElem?_pos,hv,this]
 by_cases hn2:n<=262144
 case neg=>
  have:Q=fun r _=>r=.tup [.nilp,.int .i64 1]:=by rw[hQ];funext r U;unfold qpx;rw[if_neg (by simp[qef];omega)]
  have hn3:(262144:Int)<n:=by omega
  simp only[qG]at hval;simp[-getElem?_pos];refine qc.call hval (by simp) ?_;simp[-getElem?_pos,hv,hn3,this]
 have hn3:¬ (262144:Int)<n:=by omega
 simp only[qG]at hval;simp[-getElem?_pos];refine qc.call hval (by simp) ?_;simp[-getElem?_pos,hv,hn3,hnn];refine qY.listR l (fun d ev U=>ev 1=.sl 4 (l.map qq) .none/\ev 2=.int .i64 n/\ev 3=.ptr H.length 0/\ev 24=.sl 4 (l.map qq) .none/\ev 25=.int .i64 l.length/\ev 26=.int .i64 d.length/\(∃ H',U=⟨H',T⟩/\H'[H.length]?=some (.cells (qG p)))/\∀ e∈d,wu p.vars e=true) ?_ ?_ ?_
 . refine⟨by simp,by simp,by simp,by simp,by simp,by simp,⟨_,rfl,?_⟩,by simp⟩;simp
 . rintro d e rest ev U R hR hd hxe hlt ⟨e1,e2,e3,e24,e25,e26,⟨H',rfl,hP⟩,hall⟩;have hm:=qpz hxe;obtain⟨hwe,hh,hsz⟩:=hx e hm;have hkn:=qkH p e hfv hwe (by omega) hsz;have hdw:=wr (n:=(d.length:Int)+1) (by unfold Fits at hfl;omega) (by unfold Fits at hfl;omega);simp only[qG]at hkn hP;simp[-getElem?_pos,e3,e24,e25,e26,hlt,hxe,qa hP,qd e];rw[<- qd e];refine qc.call hkn (by simp) ?_
   cases hk:wu p.vars e with
   | false=>
    have:Q=fun r _=>r=.tup [.nilp,.int .i64 1]:=by
     rw[hQ];funext r U;unfold qpx;have hb:qef p l n=false:=by
      have:l.all (wu p.vars)=false:=qsE.2 ⟨e,hm,by simp[hk]⟩;simp[qef,this]
     rw[hb];simp
    simp[-getElem?_pos,this]
   | true=>
    simp[-getElem?_pos,e26,hdw];refine hR _ _ ⟨by simp[e1],by simp[e2],by simp[e3],by simp[e24],by simp[e25],by simp,⟨_,rfl,qa hP _⟩,fun x hx=>?_⟩;rcases qpZ.1 hx with hx|hx
    . exact hall x hx
    . simp only[qp5,qqU,or_false]at hx;rw[hx];exact hk
 . rintro ev U ⟨e1,e2,e3,e24,e25,e26,⟨H',rfl,hP⟩,hall⟩;have hbeg:qef p l n=true:=by
    have:l.all (wu p.vars)=true:=qpJ.2 hall;simp[qef,this,hv];omega
   have hQ':Q=fun r U'=>∃ F A t,r=.tup [.ptr F 0,.int .i64 0]/\FndR F A t p l (zH p.vars) false n U'.H/\A<U'.H.length:=by
    rw[hQ];funext r U;unfold qpx;rw[if_pos hbeg]
   rw[hQ'];clear hQ' hQ;simp only[qG]at hP;by_cases hv0:p.vars=[]
   . rw[hv0]at hP;simp only[qqa]at hP;simp[-getElem?_pos,e25,e26];rw[qI rfl];simp[-getElem?_pos,qO,e1,e2,e3,hP,qa hP,hv0,qy,zn,zS,qF];have hst:zH p.vars=[]:=(by rw[hv0];rfl);refine⟨?_,?_⟩
     all_goals
      refine qY.gen (fun m ev U=>ev 10=.ptr H'.length 0/\ev 46=.int .i64 0/\ev 47=.int .i64 0/\U=⟨H'++[.cells [.sl 4 [] .none,.sl 4 (p.hard.map qq) .none,.sl 4 (p.soft.map qq) .none,.sl 2 (p.dists.map zG) .none,.sl 1 (p.groups.map zz) .none,.sl 4 (l.map qq) .none,.sl 1 [] (.chain T.length 0),.bool false,.int .i64 n]],T++[some 0]⟩) 0 ⟨by simp,by simp,by simp,rfl⟩ ?_;rintro m ev U R hR ⟨f10,f46,f47,rfl⟩;simp[-getElem?_pos,f10,f46,f47];refine⟨H'.length,⟨T.length,?_,fun h=>absurd rfl h⟩,by simp⟩;simp[hv0,Vz,zH]
   . have hpos:=qpO.2 hv0;have hne:¬ (p.vars.length:Int)=0:=(by omega);have hv1:(p.vars.length:Int)<=549755813888:=(by have:=h.vars;omega);simp[-getElem?_pos,e25,e26];rw[qI rfl];simp[-getElem?_pos,qO,e1,e2,e3,hP,qa hP,hv0,hv1,qy,zn,zS,qF];have hvl:p.vars.length<=1000:=h.vars;refine⟨?_,?_⟩
     all_goals
      refine qY.listR p.vars (fun d ev U=>ev 10=.ptr (H'.length+1) 0/\ev 45=.sl 4 (p.vars.map qE) .none/\ev 46=.int .i64 p.vars.length/\ev 47=.int .i64 d.length/\∃ H3,U=⟨H3,T⟩/\H'.length<H3.length/\FndR (H'.length+1) H'.length T.length p l (zH d++List.replicate (p.vars.length-d.length) 0) false n H3) ?_ ?_ ?_
      . refine⟨by simp,by simp,by simp,by simp,_,rfl,by simp,⟨?_,fun _=>?_⟩⟩
        . have hz:zH []++List.replicate (p.vars.length-([]:List Var).length) (0:Int)≠[]:=fun e=>by
           have:=congrArg List.length e;simp[zH]at this
           first | omega | exact hv0 (by simpa using this)
          have hzl:(zH []++List.replicate (p.vars.length-([]:List Var).length) (0:Int)).length=p.vars.length:=(by simp[zH]);rw[Kl,Vz,if_neg hz,hzl];simp
        . simp[zH,zL]
      . rintro d v rest ev U R hR hd hxv hlt ⟨f10,f45,f46,f47,H3,rfl,hAl,hfr⟩;have hdw:=wr (n:=(d.length:Int)+1) (by omega) (by omega);have hrl:List.replicate (p.vars.length-d.length) (0:Int)=0::List.replicate (p.vars.length-(d.length+1)) 0:=by
         rw[show p.vars.length-d.length=(p.vars.length-(d.length+1))+1 by omega,qrJ]
        rw[hrl]at hfr;have hsd:zH (d++[v])=zH d++[if v.mode=0 then v.value else 0]:=(by simp[zH]);have hsl:(zH d).length=d.length:=(by simp[zH]);have hnext:∀ x:Int,zH d++x::List.replicate (p.vars.length-(d.length+1)) 0=(zH d++[x])++List.replicate (p.vars.length-(d.length+1)) 0:=fun x=>by simp
        have hzl:∀ x:Int,(zH d++x::List.replicate (p.vars.length-(d.length+1)) 0).length=p.vars.length:=fun x=>by simp[hsl];omega
        have hz:∀ x:Int,zH d++x::List.replicate (p.vars.length-(d.length+1)) 0≠[]:=fun x=>by simp
        have hF3:=hfr.f;have hA3:=hfr.r (hz 0);have hrow:∀ x:Int,Vz H'.length T.length (zH d++x::List.replicate (p.vars.length-(d.length+1)) 0)=.ms H'.length 0 p.vars.length 1:=fun x=>by rw[Vz,if_neg (hz x),hzl]
        rw[Kl,hrow]at hF3;have hA3l:=(qpy.1 hA3).1;have hml:d.length+1<=p.vars.length:=(by omega);by_cases hm0:v.mode=0
        . rw[if_pos hm0]at hsd;have hlenA:(zL (zH d++0::List.replicate (p.vars.length-(d.length+1)) 0)).length=p.vars.length:=(by rw[zb,hzl]);have hset:(zL (zH d++0::List.replicate (p.vars.length-(d.length+1)) 0)).set d.length (.int .i64 v.value)=zL (zH d++v.value::List.replicate (p.vars.length-(d.length+1)) 0):=by
           rw[kv,qqC _ _ (by omega),hsl,qqL];rfl
          simp[-getElem?_pos,f45,f46,f47,hlt,hxv,hm0];rw[qI rfl];simp[-getElem?_pos,qO,f10,f47,qa hF3,qa hA3,hlt,hlenA,hset,hml,hdw];refine hR _ _ ⟨by simp[f10],by simp[f45],by simp[f46],by simp,_,rfl,by simp;omega,?_⟩;rw[hsd,qpD,qp2,<- hnext];refine⟨?_,fun _=>?_⟩
          . rw[Kl,hrow,qpB (by omega)];exact qa hF3 _
          . exact qpF (by simp;omega)
        . rw[if_neg hm0]at hsd;simp[-getElem?_pos,f45,f46,f47,hlt,hxv,hm0,hdw];refine hR _ _ ⟨by simp[f10],by simp[f45],by simp[f46],by simp,_,rfl,by simp;omega,?_⟩;rw[hsd,qpD,qp2,<- hnext];exact hfr.look _
      . rintro ev U ⟨f10,f45,f46,f47,H3,rfl,hAl,hfr⟩;rw[qqL,qsv,qqc]at hfr;simp[-getElem?_pos,f10,f46,f47];exact⟨H'.length,⟨T.length,hfr⟩,hAl⟩
end Go.Proofs.YtkpkjbchlabaaaaGreatDoor
end
