/- A part of the proof. -/
import Derived.Test.YtkpkjbchlabaaaaGreatDoorSa23
import Derived.Test.YtkpkjbchlabaaaaGreatDoorSa29
import Derived.Test.YtkpkjbchlabaaaaGreatDoorSa16
set_option maxHeartbeats 16000000
set_option linter.unusedVariables false
set_option linter.unusedSimpArgs false
set_option maxRecDepth 100000
set_option linter.defProp false
section
namespace Go.Proofs.YtkpkjbchlabaaaaGreatDoor
open Go Go.Abs
def qkE:List (Nat×Sch×List Nat):=[(9,.step 1 [9,8,7] (.step 2 [9,8,7,5,4,3] (.step 3 [9,8,7,5,4] (.step 4 [9,8,7,5] (.step 6 [9,8,7] (.fork (.cons 0 (.step 5 [9,8,7] (.step 7 [9,8] (.step 8 [9] (.step 9 [] (.done))))) (.cons 5 (.step 0 [9,8,7] (.step 7 [9,8] (.step 8 [9] (.step 9 [] (.done))))) (.nil)))))))),[]),(14,.step 0 [8,7,3,2,1] (.step 1 [8,7,3,2] (.step 2 [8,7,3] (.step 3 [8,7] (.step 4 [8,7] (.step 5 [8,7,6] (.step 6 [8,7] (.step 7 [8] (.step 8 [] (.done))))))))),[])]
noncomputable def qeO (p:Problem)(l:List Ex)(n:Int):Bool:=decide (qj p=0)&&(decide (0<=n)&&(decide (n<=262144)&&l.all (wH p.vars)))
def qqb (p:Problem)(l:List Ex)(n:Nat)(r:AV)(U':St):Prop :=
 if qeO p l n=true then ∃ F A t,r=.tup [.ptr F 0,.int .i64 0]/\FndR F A t p l (qP p.vars) false n U'.H/\A<U'.H.length else r=.tup [.nilp,.int .i64 1]
theorem qmi (p:Problem)(l:List Ex)(n:Nat)(h:VQ p)(hfl:Fits l)(hx:∀ e∈l,Wen e/\hgt e<=1000/\(pre e).length<=100000)(hn:n<4611686018427387904)(H:List Blk)(T:List (Option Nat)) :
 qf Tryz.prog GG 234 [.agg (qE p),.sl 4 (l.map qr) .none,.int .i64 n] ⟨H,T⟩ (qqb p l n):=by
 refine qf.kO ⟨false,qkE,[],[]⟩ qe Tryz.func234 rfl (by kernel_rfl) ?_;have hval:=yv p h;have hfv:Fits p.vars:=by have:=h.vars;show p.vars.length<_;omega
 have hnn:¬ (n:Int)<0:=by omega
 obtain⟨Q,hQ⟩:∃ Q,Q=qqb p l n:=⟨_,rfl⟩;rw[<- hQ];by_cases hv:qj p=0
 case neg=>
  have:Q=fun r _=>r=.tup [.nilp,.int .i64 1]:=by rw[hQ];funext r U;unfold qqb;rw[if_neg (by simp[qeO,hv])]
  simp only[qE]at hval;simp[-getElem?_pos];refine qc.call hval (by simp) ?_;simp[-getElem?_pos,hv,this]
 by_cases hn2:n<=262144
 case neg=>
  have:Q=fun r _=>r=.tup [.nilp,.int .i64 1]:=by rw[hQ];funext r U;unfold qqb;rw[if_neg (by simp[qeO];omega)]
  have hn3:(262144:Int)<n:=by omega
  simp only[qE]at hval;simp[-getElem?_pos];refine qc.call hval (by simp) ?_;simp[-getElem?_pos,hv,hn3,this]
 have hn3:¬ (262144:Int)<n:=by omega
 simp only[qE]at hval;simp[-getElem?_pos];refine qc.call hval (by simp) ?_;simp[-getElem?_pos,hv,hn3,hnn];refine qX.listR l (fun d ev U=>ev 1=.sl 4 (l.map qr) .none/\ev 2=.int .i64 n/\ev 3=.ptr H.length 0/\ev 24=.sl 4 (l.map qr) .none/\ev 25=.int .i64 l.length/\ev 26=.int .i64 d.length/\(∃ H',U=⟨H',T⟩/\H'[H.length]?=some (.cells (qE p)))/\∀ e∈d,wH p.vars e=true) ?_ ?_ ?_
 . refine⟨by simp,by simp,by simp,by simp,by simp,by simp,⟨_,rfl,?_⟩,by simp⟩;simp
 . rintro d e rest ev U R hR hd hxe hlt ⟨e1,e2,e3,e24,e25,e26,⟨H',rfl,hP⟩,hall⟩;have hm:=qqd hxe;obtain⟨hwe,hh,hsz⟩:=hx e hm;have hkn:=qld p e hfv hwe (by omega) hsz;have hdw:=wr (n:=(d.length:Int)+1) (by unfold Fits at hfl;omega) (by unfold Fits at hfl;omega);simp only[qE]at hkn hP;simp[-getElem?_pos,e3,e24,e25,e26,hlt,hxe,qa hP,qd e];rw[<- qd e];refine qc.call hkn (by simp) ?_
   cases hk:wH p.vars e with
   | false=>
    have:Q=fun r _=>r=.tup [.nilp,.int .i64 1]:=by
     rw[hQ];funext r U;unfold qqb;have hb:qeO p l n=false:=by
      have:l.all (wH p.vars)=false:=qtm.2 ⟨e,hm,by simp[hk]⟩;simp[qeO,this]
     rw[hb];simp
    simp[-getElem?_pos,this]
   | true=>
    simp[-getElem?_pos,e26,hdw];refine hR _ _ ⟨by simp[e1],by simp[e2],by simp[e3],by simp[e24],by simp[e25],by simp,⟨_,rfl,qa hP _⟩,fun x hx=>?_⟩;rcases qqA.1 hx with hx|hx
    . exact hall x hx
    . simp only[qqE,qrA,or_false]at hx;rw[hx];exact hk
 . rintro ev U ⟨e1,e2,e3,e24,e25,e26,⟨H',rfl,hP⟩,hall⟩;have hbeg:qeO p l n=true:=by
    have:l.all (wH p.vars)=true:=qqo.2 hall;simp[qeO,this,hv];omega
   have hQ':Q=fun r U'=>∃ F A t,r=.tup [.ptr F 0,.int .i64 0]/\FndR F A t p l (qP p.vars) false n U'.H/\A<U'.H.length:=by
    rw[hQ];funext r U;unfold qqb;rw[if_pos hbeg]
   rw[hQ'];clear hQ' hQ;simp only[qE]at hP;by_cases hv0:p.vars=[]
   . rw[hv0]at hP;simp only[qqU]at hP;simp[-getElem?_pos,e25,e26];rw[qG rfl];simp[-getElem?_pos,qN,e1,e2,e3,hP,qa hP,hv0,qx,zn,zS,qF];have hst:qP p.vars=[]:=(by rw[hv0];rfl);refine⟨?_,?_⟩
     all_goals
      refine qX.gen (fun m ev U=>ev 10=.ptr H'.length 0/\ev 46=.int .i64 0/\ev 47=.int .i64 0/\U=⟨H'++[.cells [.sl 4 [] .none,.sl 4 (p.hard.map qr) .none,.sl 4 (p.soft.map qr) .none,.sl 2 (p.dists.map zH) .none,.sl 1 (p.groups.map zG) .none,.sl 4 (l.map qr) .none,.sl 1 [] (.chain T.length 0),.bool false,.int .i64 n]],T++[some 0]⟩) 0 ⟨by simp,by simp,by simp,rfl⟩ ?_;rintro m ev U R hR ⟨f10,f46,f47,rfl⟩;simp[-getElem?_pos,f10,f46,f47];refine⟨H'.length,⟨T.length,?_,fun h=>absurd rfl h⟩,by simp⟩;simp[hv0,V3,qP]
   . have hpos:=qqt.2 hv0;have hne:¬ (p.vars.length:Int)=0:=(by omega);have hv1:(p.vars.length:Int)<=549755813888:=(by have:=h.vars;omega);simp[-getElem?_pos,e25,e26];rw[qG rfl];simp[-getElem?_pos,qN,e1,e2,e3,hP,qa hP,hv0,hv1,qx,zn,zS,qF];have hvl:p.vars.length<=1000:=h.vars;refine⟨?_,?_⟩
     all_goals
      refine qX.listR p.vars (fun d ev U=>ev 10=.ptr (H'.length+1) 0/\ev 45=.sl 4 (p.vars.map qA) .none/\ev 46=.int .i64 p.vars.length/\ev 47=.int .i64 d.length/\∃ H3,U=⟨H3,T⟩/\H'.length<H3.length/\FndR (H'.length+1) H'.length T.length p l (qP d++List.replicate (p.vars.length-d.length) 0) false n H3) ?_ ?_ ?_
      . refine⟨by simp,by simp,by simp,by simp,_,rfl,by simp,⟨?_,fun _=>?_⟩⟩
        . have hz:qP []++List.replicate (p.vars.length-([]:List Var).length) (0:Int)≠[]:=fun e=>by
           have:=congrArg List.length e;simp[qP]at this
           first | omega | exact hv0 (by simpa using this)
          have hzl:(qP []++List.replicate (p.vars.length-([]:List Var).length) (0:Int)).length=p.vars.length:=(by simp[qP]);rw[KC,V3,if_neg hz,hzl];simp
        . simp[qP,zI]
      . rintro d v rest ev U R hR hd hxv hlt ⟨f10,f45,f46,f47,H3,rfl,hAl,hfr⟩;have hdw:=wr (n:=(d.length:Int)+1) (by omega) (by omega);have hrl:List.replicate (p.vars.length-d.length) (0:Int)=0::List.replicate (p.vars.length-(d.length+1)) 0:=by
         rw[show p.vars.length-d.length=(p.vars.length-(d.length+1))+1 by omega,qrY]
        rw[hrl]at hfr;have hsd:qP (d++[v])=qP d++[if v.mode=0 then v.value else 0]:=(by simp[qP]);have hsl:(qP d).length=d.length:=(by simp[qP]);have hnext:∀ x:Int,qP d++x::List.replicate (p.vars.length-(d.length+1)) 0=(qP d++[x])++List.replicate (p.vars.length-(d.length+1)) 0:=fun x=>by simp
        have hzl:∀ x:Int,(qP d++x::List.replicate (p.vars.length-(d.length+1)) 0).length=p.vars.length:=fun x=>by simp[hsl];omega
        have hz:∀ x:Int,qP d++x::List.replicate (p.vars.length-(d.length+1)) 0≠[]:=fun x=>by simp
        have hF3:=hfr.f;have hA3:=hfr.r (hz 0);have hrow:∀ x:Int,V3 H'.length T.length (qP d++x::List.replicate (p.vars.length-(d.length+1)) 0)=.ms H'.length 0 p.vars.length 1:=fun x=>by rw[V3,if_neg (hz x),hzl]
        rw[KC,hrow]at hF3;have hA3l:=(qqc.1 hA3).1;have hml:d.length+1<=p.vars.length:=(by omega);by_cases hm0:v.mode=0
        . rw[if_pos hm0]at hsd;have hlenA:(zI (qP d++0::List.replicate (p.vars.length-(d.length+1)) 0)).length=p.vars.length:=(by rw[za,hzl]);have hset:(zI (qP d++0::List.replicate (p.vars.length-(d.length+1)) 0)).set d.length (.int .i64 v.value)=zI (qP d++v.value::List.replicate (p.vars.length-(d.length+1)) 0):=by
           rw[yz,qrh _ _ (by omega),hsl,qro];rfl
          simp[-getElem?_pos,f45,f46,f47,hlt,hxv,hm0];rw[qG rfl];simp[-getElem?_pos,qN,f10,f47,qa hF3,qa hA3,hlt,hlenA,hset,hml,hdw];refine hR _ _ ⟨by simp[f10],by simp[f45],by simp[f46],by simp,_,rfl,by simp;omega,?_⟩;rw[hsd,qqg,qqK,<- hnext];refine⟨?_,fun _=>?_⟩
          . rw[KC,hrow,qqf (by omega)];exact qa hF3 _
          . exact qqh (by simp;omega)
        . rw[if_neg hm0]at hsd;simp[-getElem?_pos,f45,f46,f47,hlt,hxv,hm0,hdw];refine hR _ _ ⟨by simp[f10],by simp[f45],by simp[f46],by simp,_,rfl,by simp;omega,?_⟩;rw[hsd,qqg,qqK,<- hnext];exact hfr.look _
      . rintro ev U ⟨f10,f45,f46,f47,H3,rfl,hAl,hfr⟩;rw[qro,qtc,qqV]at hfr;simp[-getElem?_pos,f10,f46,f47];exact⟨H'.length,⟨T.length,hfr⟩,hAl⟩
end Go.Proofs.YtkpkjbchlabaaaaGreatDoor
end
