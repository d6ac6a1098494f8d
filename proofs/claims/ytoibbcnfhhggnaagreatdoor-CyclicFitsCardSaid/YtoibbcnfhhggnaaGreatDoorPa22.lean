/- A part of the proof. -/
import Derived.Test.YtoibbcnfhhggnaaGreatDoorPa20
import Derived.Test.YtoibbcnfhhggnaaGreatDoorPa21
import Derived.Test.YtoibbcnfhhggnaaGreatDoorPa17
import Derived.Test.YtoibbcnfhhggnaaGreatDoorPa19
set_option maxHeartbeats 16000000
set_option linter.unusedVariables false
set_option linter.unusedSimpArgs false
set_option maxRecDepth 100000
set_option linter.defProp false
section
namespace Go.Proofs.YtoibbcnfhhggnaaGreatDoor
open Go Go.Abs
def qla:List (Nat×Sch×List Nat):=[(9,.step 1 [9,8,7] (.step 2 [9,8,7,5,4,3] (.step 3 [9,8,7,5,4] (.step 4 [9,8,7,5] (.step 6 [9,8,7] (.fork (.cons 0 (.step 5 [9,8,7] (.step 7 [9,8] (.step 8 [9] (.step 9 [] (.done))))) (.cons 5 (.step 0 [9,8,7] (.step 7 [9,8] (.step 8 [9] (.step 9 [] (.done))))) (.nil)))))))),[]),(14,.step 0 [8,7,3,2,1] (.step 1 [8,7,3,2] (.step 2 [8,7,3] (.step 3 [8,7] (.step 4 [8,7] (.step 5 [8,7,6] (.step 6 [8,7] (.step 7 [8] (.step 8 [] (.done))))))))),[])]
noncomputable def qeY (p:Problem)(l:List Ex)(n:Int):Bool:=decide (qk p=0)&&(decide (0<=n)&&(decide (n<=262144)&&l.all (wO p.vars)))
def qqk (p:Problem)(l:List Ex)(n:Nat)(r:AV)(U':St):Prop :=
 if qeY p l n=true then ∃ F A t,r=.tup [.ptr F 0,.int .i64 0]/\FndR F A t p l (qW p.vars) false n U'.H/\A<U'.H.length else r=.tup [.nilp,.int .i64 1]
theorem qmH (p:Problem)(l:List Ex)(n:Nat)(h:VQ p)(hfl:Fits l)(hx:∀ e∈l,Wen e/\hgt e<=1000/\(pre e).length<=100000)(hn:n<4611686018427387904)(H:List Blk)(T:List (Option Nat)) :
 qg Tryz.prog GG 164 [.agg (qL p),.sl 4 (l.map qu) .none,.int .i64 n] ⟨H,T⟩ (qqk p l n):=by
 refine qg.kO ⟨false,qla,[],[]⟩ qe Tryz.func164 rfl (by kernel_rfl) ?_;have hval:=jW p h;have hfv:Fits p.vars:=by have:=h.vars;show p.vars.length<_;omega
 have hnn:¬ (n:Int)<0:=by omega
 obtain⟨Q,hQ⟩:∃ Q,Q=qqk p l n:=⟨_,rfl⟩;rw[<- hQ];by_cases hv:qk p=0
 case neg=>
  have:Q=fun r _=>r=.tup [.nilp,.int .i64 1]:=by rw[hQ];funext r U;unfold qqk;rw[if_neg (by simp[qeY,hv])]
  simp only[qL]at hval;simp[-getElem?_pos];refine qd.call hval (by simp) ?_;simp[-getElem?_pos,hv,this]
 by_cases hn2:n<=262144
 case neg=>
  have:Q=fun r _=>r=.tup [.nilp,.int .i64 1]:=by rw[hQ];funext r U;unfold qqk;rw[if_neg (by simp[qeY];omega)]
  have hn3:(262144:Int)<n:=by omega
  simp only[qL]at hval;simp[-getElem?_pos];refine qd.call hval (by simp) ?_;simp[-getElem?_pos,hv,hn3,this]
 have hn3:¬ (262144:Int)<n:=by omega
 simp only[qL]at hval;simp[-getElem?_pos];refine qd.call hval (by simp) ?_;simp[-getElem?_pos,hv,hn3,hnn];refine qM.listR l (fun d ev U=>ev 1=.sl 4 (l.map qu) .none/\ev 2=.int .i64 n/\ev 3=.ptr H.length 0/\ev 24=.sl 4 (l.map qu) .none/\ev 25=.int .i64 l.length/\ev 26=.int .i64 d.length/\(∃ H',U=⟨H',T⟩/\H'[H.length]?=some (.cells (qL p)))/\∀ e∈d,wO p.vars e=true) ?_ ?_ ?_
 . refine⟨by simp,by simp,by simp,by simp,by simp,by simp,⟨_,rfl,?_⟩,by simp⟩;simp
 . rintro d e rest ev U R hR hd hxe hlt ⟨e1,e2,e3,e24,e25,e26,⟨H',rfl,hP⟩,hall⟩;have hm:=qqm hxe;obtain⟨hwe,hh,hsz⟩:=hx e hm;have hkn:=qlE p e hfv hwe (by omega) hsz;have hdw:=wr (n:=(d.length:Int)+1) (by unfold Fits at hfl;omega) (by unfold Fits at hfl;omega);simp only[qL]at hkn hP;simp[-getElem?_pos,e3,e24,e25,e26,hlt,hxe,qb hP,qc e];rw[<- qc e];refine qd.call hkn (by simp) ?_
   cases hk:wO p.vars e with
   | false=>
    have:Q=fun r _=>r=.tup [.nilp,.int .i64 1]:=by
     rw[hQ];funext r U;unfold qqk;have hb:qeY p l n=false:=by
      have:l.all (wO p.vars)=false:=qtw.2 ⟨e,hm,by simp[hk]⟩;simp[qeY,this]
     rw[hb];simp
    simp[-getElem?_pos,this]
   | true=>
    simp[-getElem?_pos,e26,hdw];refine hR _ _ ⟨by simp[e1],by simp[e2],by simp[e3],by simp[e24],by simp[e25],by simp,⟨_,rfl,qb hP _⟩,fun x hx=>?_⟩;rcases qqE.1 hx with hx|hx
    . exact hall x hx
    . simp only[qqM,qrI,or_false]at hx;rw[hx];exact hk
 . rintro ev U ⟨e1,e2,e3,e24,e25,e26,⟨H',rfl,hP⟩,hall⟩;have hbeg:qeY p l n=true:=by
    have:l.all (wO p.vars)=true:=qqy.2 hall;simp[qeY,this,hv];omega
   have hQ':Q=fun r U'=>∃ F A t,r=.tup [.ptr F 0,.int .i64 0]/\FndR F A t p l (qW p.vars) false n U'.H/\A<U'.H.length:=by
    rw[hQ];funext r U;unfold qqk;rw[if_pos hbeg]
   rw[hQ'];clear hQ' hQ;simp only[qL]at hP;by_cases hv0:p.vars=[]
   . rw[hv0]at hP;simp only[qqQ]at hP;simp[-getElem?_pos,e25,e26];rw[qH rfl];simp[-getElem?_pos,qP,e1,e2,e3,hP,qb hP,hv0,qA,qX,zu,qy];have hst:qW p.vars=[]:=(by rw[hv0];rfl);refine⟨?_,?_⟩
     all_goals
      refine qM.gen (fun m ev U=>ev 10=.ptr H'.length 0/\ev 46=.int .i64 0/\ev 47=.int .i64 0/\U=⟨H'++[.cells [.sl 4 [] .none,.sl 4 (p.hard.map qu) .none,.sl 4 (p.soft.map qu) .none,.sl 2 (p.dists.map zH) .none,.sl 1 (p.groups.map qN) .none,.sl 4 (l.map qu) .none,.sl 1 [] (.chain T.length 0),.bool false,.int .i64 n]],T++[some 0]⟩) 0 ⟨by simp,by simp,by simp,rfl⟩ ?_;rintro m ev U R hR ⟨f10,f46,f47,rfl⟩;simp[-getElem?_pos,f10,f46,f47];refine⟨H'.length,⟨T.length,?_,fun h=>absurd rfl h⟩,by simp⟩;simp[hv0,V8,qW]
   . have hpos:=qqB.2 hv0;have hne:¬ (p.vars.length:Int)=0:=(by omega);have hv1:(p.vars.length:Int)<=549755813888:=(by have:=h.vars;omega);simp[-getElem?_pos,e25,e26];rw[qH rfl];simp[-getElem?_pos,qP,e1,e2,e3,hP,qb hP,hv0,hv1,qA,qX,zu,qy];have hvl:p.vars.length<=1000:=h.vars;refine⟨?_,?_⟩
     all_goals
      refine qM.listR p.vars (fun d ev U=>ev 10=.ptr (H'.length+1) 0/\ev 45=.sl 4 (p.vars.map qp) .none/\ev 46=.int .i64 p.vars.length/\ev 47=.int .i64 d.length/\∃ H3,U=⟨H3,T⟩/\H'.length<H3.length/\FndR (H'.length+1) H'.length T.length p l (qW d++List.replicate (p.vars.length-d.length) 0) false n H3) ?_ ?_ ?_
      . refine⟨by simp,by simp,by simp,by simp,_,rfl,by simp,⟨?_,fun _=>?_⟩⟩
        . have hz:qW []++List.replicate (p.vars.length-([]:List Var).length) (0:Int)≠[]:=fun e=>by
           have:=congrArg List.length e;simp[qW]at this
           first | omega | exact hv0 (by simpa using this)
          have hzl:(qW []++List.replicate (p.vars.length-([]:List Var).length) (0:Int)).length=p.vars.length:=(by simp[qW]);rw[KH,V8,if_neg hz,hzl];simp
        . simp[qW,zB]
      . rintro d v rest ev U R hR hd hxv hlt ⟨f10,f45,f46,f47,H3,rfl,hAl,hfr⟩;have hdw:=wr (n:=(d.length:Int)+1) (by omega) (by omega);have hrl:List.replicate (p.vars.length-d.length) (0:Int)=0::List.replicate (p.vars.length-(d.length+1)) 0:=by
         rw[show p.vars.length-d.length=(p.vars.length-(d.length+1))+1 by omega,qrF]
        rw[hrl]at hfr;have hsd:qW (d++[v])=qW d++[if v.mode=0 then v.value else 0]:=(by simp[qW]);have hsl:(qW d).length=d.length:=(by simp[qW]);have hnext:∀ x:Int,qW d++x::List.replicate (p.vars.length-(d.length+1)) 0=(qW d++[x])++List.replicate (p.vars.length-(d.length+1)) 0:=fun x=>by simp
        have hzl:∀ x:Int,(qW d++x::List.replicate (p.vars.length-(d.length+1)) 0).length=p.vars.length:=fun x=>by simp[hsl];omega
        have hz:∀ x:Int,qW d++x::List.replicate (p.vars.length-(d.length+1)) 0≠[]:=fun x=>by simp
        have hF3:=hfr.f;have hA3:=hfr.r (hz 0);have hrow:∀ x:Int,V8 H'.length T.length (qW d++x::List.replicate (p.vars.length-(d.length+1)) 0)=.ms H'.length 0 p.vars.length 1:=fun x=>by rw[V8,if_neg (hz x),hzl]
        rw[KH,hrow]at hF3;have hA3l:=(qql.1 hA3).1;have hml:d.length+1<=p.vars.length:=(by omega);by_cases hm0:v.mode=0
        . rw[if_pos hm0]at hsd;have hlenA:(zB (qW d++0::List.replicate (p.vars.length-(d.length+1)) 0)).length=p.vars.length:=(by rw[za,hzl]);have hset:(zB (qW d++0::List.replicate (p.vars.length-(d.length+1)) 0)).set d.length (.int .i64 v.value)=zB (qW d++v.value::List.replicate (p.vars.length-(d.length+1)) 0):=by
           rw[yC,qrn _ _ (by omega),hsl,qrB];rfl
          simp[-getElem?_pos,f45,f46,f47,hlt,hxv,hm0];rw[qH rfl];simp[-getElem?_pos,qP,f10,f47,qb hF3,qb hA3,hlt,hlenA,hset,hml,hdw];refine hR _ _ ⟨by simp[f10],by simp[f45],by simp[f46],by simp,_,rfl,by simp;omega,?_⟩;rw[hsd,qqr,qqO,<- hnext];refine⟨?_,fun _=>?_⟩
          . rw[KH,hrow,qqn (by omega)];exact qb hF3 _
          . exact qqp (by simp;omega)
        . rw[if_neg hm0]at hsd;simp[-getElem?_pos,f45,f46,f47,hlt,hxv,hm0,hdw];refine hR _ _ ⟨by simp[f10],by simp[f45],by simp[f46],by simp,_,rfl,by simp;omega,?_⟩;rw[hsd,qqr,qqO,<- hnext];exact hfr.look _
      . rintro ev U ⟨f10,f45,f46,f47,H3,rfl,hAl,hfr⟩;rw[qrB,qth,qq5]at hfr;simp[-getElem?_pos,f10,f46,f47];exact⟨H'.length,⟨T.length,hfr⟩,hAl⟩
theorem zJ {p:Problem}(h:qk p=0):∀ v∈p.vars,jF v=0:=by
 have hv:zX p.vars=0:=by
  unfold qk at h;split at h
  . exact absurd h (by assumption)
  . rename_i h1;exact qq8.1 h1
 unfold zX at hv;split at hv
 . cases hv
 . split at hv
   . rename_i h1;exact absurd hv h1
   . rename_i h1;exact zl.1 (qq8.1 h1)
theorem kh:∀ (a:List Int),zB a=a.flatMap qo
 | []=>rfl
 | x::r=>by
  have:=kh r;rw[qqG,<- this];rfl
noncomputable def Jq (p:Problem)(l:List Ex)(n:Nat):List Int×Int :=
 if qeY p l n=true then (match qb1 p.vars l n (qW p.vars) with
  | (some a,_)=>(a,0)
  | (none,true)=>([],11)
  | (none,false)=>([],18)) else ([],1)
theorem ql5 (p:Problem)(l:List Ex)(n:Nat)(h:VQ p)(hfl:Fits l)(hx:∀ e∈l,Wen e/\hgt e<=1000/\(pre e).length<=100000)(hn:n<4611686018427387904) :
 Pure Tryz.prog GG 121 [.agg (qL p),.sl 4 (l.map qu) .none,.int .i64 n] (.tup [.sl 1 ((Jq p l n).1.map qo) .none,.int .i64 (Jq p l n).2]):=by
 refine Pure.kO o0 true qe Tryz.func121 rfl (by kernel_rfl) ?_;have hb:=qmH p l n h hfl hx hn [.cells (qL p)] [];simp only[qL]at hb;simp[-getElem?_pos];refine qd.acall hb ?_;rintro v ⟨H1,T1⟩ hq;unfold qqk at hq;by_cases hg:qeY p l n=true
 . rw[if_pos hg]at hq;obtain⟨F,A,t,rfl,hfr,hAl⟩:=hq;simp only at hfr hAl;have hv:qk p=0:=by
    simp only[qeY,qqq,decide_eq_true_eq]at hg;exact hg.1
   have hn2:n<=262144:=by
    simp only[qeY,qqq,decide_eq_true_eq]at hg;omega
   have hw:∀ v∈p.vars,0<=v.width/\v.width<=28:=fun v hm=>by have:=qR (zJ hv v hm);omega
   have hh:=hit327 T1 hfr hAl hn2 h.vars (YH p.vars) hw hx hfl;have hFA:Jq p l n=(match qb1 p.vars l n (qW p.vars) with
    | (some a,_)=>(a,0)
    | (none,true)=>([],11)
    | (none,false)=>([],18)):=if_pos hg
   rw[hFA];generalize qb1 p.vars l n (qW p.vars)=s at *;simp[-getElem?_pos];refine qd.acall hh ?_;rintro v2 ⟨H2,T2⟩ ⟨hk,⟨va,n',hF2⟩,hres⟩;simp only[KH]at hF2;rcases hres with ⟨a,bh,vh,hs,rfl,hrow⟩|⟨hs,rfl⟩
   . obtain⟨s1,s2⟩:=s;simp only at hs;subst hs;simp only at hrow;simp[-getElem?_pos];rcases hrow with ⟨rfl,sz,tok,rfl⟩|⟨ha0,rfl,hbc⟩
     . have hc:∀ H t k,frz H 7 (.sl sz [] (.chain t k))=.sl sz [] .none:=fun H t k=>by rw[frz];simp[qF]
       cases tok with
       | chain t k=>
        rw[frz,if_neg (by simp[qF,qq])];simp only[qqx,qqQ,hc,wQ,qF,qq,Leq,zj];simp[qT]
       | none=>rw[qv (by simp)];exact⟨by simp,by simp[Leq,zj]⟩
       | nil=>rw[qv (by simp)];exact⟨by simp,by simp[Leq,zj]⟩
       | tight=>rw[qv (by simp)];exact⟨by simp,by simp[Leq,zj]⟩
     . have ho:jt bh 1 qo H2 (.ms bh 0 a.length 1) a:=.inr ⟨ha0,rfl,by
        rw[hbc,kh]⟩
       have f1:=ho.frz (fun x=>by simp) (fun x=>by simp) (fun x=>by simp) 6;have f2:=ho.frzNo (fun x=>by simp) (fun x=>by simp) (fun x=>by simp) 6;rw[frz,if_neg (by simp[qF,qq])];simp only[qqx,qqQ,wQ,qF,qq,Leq,zj,qr1,and_true];exact⟨f2,f1⟩
   . obtain⟨s1,s2⟩:=s;simp only at hs hF2;subst hs;cases s2
     . simp[-getElem?_pos,hF2];rw[qv (by simp)];exact⟨by simp,by simp[Leq,zj]⟩
     . simp[-getElem?_pos,hF2];rw[qv (by simp)];exact⟨by simp,by simp[Leq,zj]⟩
 . rw[if_neg hg]at hq;subst hq;have hFA:Jq p l n=([],1):=if_neg hg;rw[hFA];simp[-getElem?_pos];rw[qv (by simp)];exact⟨by simp,by simp[Leq,zj]⟩
theorem qp6 (p:Problem)(h:VQ p)(hv20:p.vars.length<=20):Pure Tryz.prog GG 166 [.agg (qL p)] (.int .i64 (yJ p.vars (qC p))):=by
 refine Pure.vc qe Tryz.func166 rfl (by kernel_rfl) ?_;have hv:=qhC p h;have hlen:=Jk p hv20;have hrg:∀ i∈qC p,0<=i/\i<p.vars.length:=fun i hi=>Zd hi
 simp only[qL]at hv;generalize qC p=R at hv hlen hrg ⊢;simp;refine qa.call hv (by simp) ?_
 try simp
 refine qE.intro (fun q env U=>∃ i,i<=R.length/\q=R.length-i/\env 1=.ptr 0 0/\env 3=.int .i64 (yJ p.vars (R.take i))/\env 7=.sl 1 (R.map qo) .none/\env 8=.int .i64 R.length/\env 9=.int .i64 i/\U=⟨[.cells (qL p)],[]⟩) R.length ⟨0,by simp[yJ]⟩ ?_;rintro q env U ⟨i,hi,rfl,h1,h3,h7,h8,h9,rfl⟩
 cases hvi:R[i]? with
 | some v=>
  obtain⟨hc,hv'⟩:=qql.1 hvi;obtain⟨r1,r2⟩:=hrg v (qqm hvi);obtain⟨j,rfl⟩:=qqR r1;have hj:j<p.vars.length:=by omega
  have hs:=qdE (l:=p.vars) hvi;simp only[qrg]at hs;rw[J3 hj]at hs;simp[h1,h3,h7,h8,h9,hc,hv',hj];exact⟨_,by omega,i+1,by omega,rfl,by rw[hs],wr (by omega) (by omega)⟩
 | none=>
  have hc:¬ i<R.length:=by simp at hvi;omega
  have ht:R.take i=R:=qqu (by omega);rw[ht]at h3;simp[h1,h3,h7,h8,h9,hc]
theorem qjB (p:Problem)(h:VQ p)(hv20:p.vars.length<=20)(h0:0<=yJ p.vars (qC p))(h28:yJ p.vars (qC p)<=28):Pure Tryz.prog GG 122 [.agg (qL p)] (.int .i64 ((2 ^ (yJ p.vars (qC p)).toNat:Nat):Int)):=by
 refine Pure.k qe Tryz.func122 rfl (by kernel_rfl) ?_;have hb:=qp6 p h hv20;have hs:=kQ h0 h28;generalize yJ p.vars (qC p)=B at *;have hn:¬ B<0:=by omega
 generalize hN:2 ^ B.toNat=N at *;simp only[qL]at hb;simp[-getElem?_pos];refine qd.call hb (by simp) ?_;simp[-getElem?_pos,hn,IntKind.bits,hs]
section
def Jj (q:Str×AV×Nat):AV×AV×Nat:=(.str q.1,q.2.1,q.2.2)
theorem Q4 {s:Str}:∀ (E:List (Str×AV×Nat)) (k:Nat),(jA (.str s) (E.map Jj) k=some none/\∀ q∈E,q.1≠s)\/∃ j q,E[j]?=some q/\q.1=s/\jA (.str s) (E.map Jj) k=some (some (k+j,q.2.1))
 | [],k=>.inl ⟨rfl,by simp⟩
 | e::E,k=>by
  by_cases h:s=e.1
  . right;refine⟨0,e,rfl,h.symm,?_⟩;simp[jA,Jj,Qy,h]
  . have h':(s==e.1)=false:=(by simpa using h);rcases Q4 (s:=s) E (k+1) with ⟨h1,h2⟩|⟨j,q,h1,h2,h3⟩
    . left;refine⟨by simp[jA,Jj,Qy,h'];simpa[Jj] using h1,fun q hq=>?_⟩;rcases qqM.1 hq with rfl|hq
      . exact fun e=>h e.symm
      . exact h2 q hq
    . right;refine⟨j+1,q,by simpa using h1,h2,?_⟩;simp only[qqx,Jj,jA,Qy,h'];have:k+(j+1)=k+1+j:=by omega
      rw[this];exact h3
def vD (vs:List Var):List (Str×AV×Nat):=vs.zipIdx.map fun q=>(q.1.name,.int .i64 (q.2:Int),q.2)
def wY (vs:List Var):Blk:=.map ((vD vs).map Jj) vs.length
theorem qdx {vs:List Var}{j:Nat}{q:Str×AV×Nat}(h:(vD vs)[j]?=some q):∃ v,vs[j]?=some v/\q=(v.name,.int .i64 (j:Int),j):=by
 unfold vD at h;rw[qqI,qsw]at h
 cases hv:vs[j]? with
 | none=>rw[hv]at h;simp at h
 | some v=>rw[hv]at h;simp at h;exact⟨v,rfl,h.symm⟩
theorem qdw {vs:List Var}(hn:(vs.map (·.name)).Nodup){i:Nat}{v:Var}(hv:vs[i]?=some v)(k:Nat):jA (.str v.name) ((vD vs).map Jj) k=some (some (k+i,.int .i64 (i:Int))):=by
 rcases Q4 (s:=v.name) (vD vs) k with ⟨_,h2⟩|⟨j,q,h1,h2,h3⟩
 . exfalso;have hm:(v.name,AV.int .i64 (i:Int),i)∈vD vs:=qqS.2 ⟨(v,i),qqm (i:=i) (by rw[qsw,hv];simp),rfl⟩;exact h2 _ hm rfl
 . obtain⟨w,hw,rfl⟩:=qdx h1;have hij:j=i:=by
    obtain⟨hj1,hj2⟩:=qql.1 hw;obtain⟨hi1,hi2⟩:=qql.1 hv;have h2:w.name=v.name:=h2;have hp:=qsa.1 hn;rcases Nat.lt_trichotomy j i with h|h|h
    . exact absurd (by rw[qrK,qrK,hj2,hi2,h2]) (hp j i (by simpa using hj1) (by simpa using hi1) h)
    . exact h
    . exact absurd (by rw[qrK,qrK,hj2,hi2,h2]) (hp i j (by simpa using hi1) (by simpa using hj1) h)
   subst hij;exact h3
structure PB (p:Problem)(lv:List Int)(c:Bc):Prop where
 rest:c.rest=qL p++[.sl 1 (lv.map qo) .none,.map c.M]
 mp:c.mp=wY p.vars
 len:lv.length=p.vars.length
 few:p.vars.length<=1000
 vars:∀ v∈p.vars,jF v=0
 nodup:(p.vars.map (·.name)).Nodup
 lev:∀ (i:Nat) (v:Var) (l:Int),p.vars[i]?=some v->lv[i]?=some l->v.mode≠0->0<=l/\l+v.width<=20
def qg7 (v:Var)(l:Int)(b:Nat->Bool):Int:=if v.mode=0 then v.value else (zn (fun k=>b (l.toNat+v.width.toNat-1-k)) v.width.toNat:Nat)
theorem WP {v:Var}(h:jF v=0):0<=v.value/\v.value<65536:=by
 have h1:=qR h;unfold jF at h;split at h
 . cases h
 . split at h
   . cases h
   . rename_i hc;have:(2:Int) ^ v.width.toNat<=2 ^ 8:=by
      have:v.width.toNat<=8:=by omega
      have h2:(2:Nat) ^ v.width.toNat<=2 ^ 8:=qqL (by omega) this;have h3:((2 ^ v.width.toNat:Nat):Int)<=((2 ^ 8:Nat):Int):=Int.ofNat_le.2 h2;simpa using h3
     omega
theorem qcc {vs:List Var}{m:Nat}{U:St}(hm:U.H[m]?=some (wY vs))(hn:(vs.map (·.name)).Nodup){i:Nat}{v:Var}(hv:vs[i]?=some v):zw (Dof Tryz.prog) U 214 (.map m) (.str v.name) false=some (.int .i64 (i:Int)):=by
 have:=qdw hn hv 0;unfold wY at hm;generalize (vD vs).map Jj=E at *;simp[zw,hm,zA,this]
theorem qfo {w:Nat}(f:Nat->Bool):∀ {n:Nat},w<=n->zn (fun j=>decide (j<w)&&f j) n=zn f w:=fun {n} h=>by
 apply qr3;intro i;rw[qY,qY];by_cases h1:i<w
 . have:i<n:=by omega
   simp[h1,this]
 . simp[h1]
section
variable {c:Bc}{d:List Nd}{H:List Blk}{T:List (Option Nat)}
def qk7:List (Nat×Sch×List Nat):=[(9,.step 0 [25,24] (.step 1 [25,24,23] (.step 2 [25,24,23,22,21,20,19,5,4,3] (.step 3 [25,24,23,22,21,20,19,5,4] (.step 4 [25,24,23,22,21,20,19,5] (.step 5 [25,24,23,22,21,20,19] (.step 6 [25,24,23,22,21,20,19,18,16,15,12,11,9,8,7] (.step 7 [25,24,23,22,21,20,19,18,16,15,12,11,9,8] (.step 8 [25,24,23,22,21,20,19,18,16,15,12,11,9] (.step 9 [25,24,23,22,21,20,19,18,16,15,12,11] (.step 10 [25,24,23,22,21,20,19,18,16,15,12,11] (.step 11 [25,24,23,22,21,20,19,18,16,15,12] (.step 12 [25,24,23,22,21,20,19,18,16,15] (.step 13 [25,24,23,22,21,20,19,18,16,15,14] (.step 14 [25,24,23,22,21,20,19,18,16,15] (.step 15 [25,24,23,22,21,20,19,18,16] (.step 16 [25,24,23,22,21,20,19,18] (.step 17 [25,24,23,22,21,20,19,18] (.step 18 [25,24,23,22,21,20,19] (.step 19 [25,24,23,22,21,20] (.step 20 [25,24,23] (.step 21 [25,24,23] (.step 22 [25,24,23] (.step 23 [25,24] (.step 24 [25] (.step 25 [] (.done)))))))))))))))))))))))))),[19,23])]
theorem qca (h:BX c H d H){p:Problem}{lv:List Int}(hp:PB p lv c){i:Nat}{v:Var}{l:Int}(hv:p.vars[i]?=some v)(hl:lv[i]?=some l) :
 qg Tryz.prog (XG c) 231 [.ptr c.B 0,.str v.name] ⟨H,T⟩ (WQ c d H fun b=>qg7 v l b):=by
 refine qg.kO ⟨false,qk7,[],[]⟩ qe Tryz.func231 rfl (by kernel_rfl) ?_;have hk:∀ j,H.length<=j->j≠c.B:=fun j hj=>(h.at hj).1
 obtain⟨tok,hb⟩:=h.b;have hm:=h.m;rw[hp.rest]at hb;rw[hp.mp]at hm;have hlook:=fun (u:List Blk) (T:List (Option Nat))=>qcc (U:=⟨H++u,T⟩) (qb hm u) hp.nodup hv
 have hve:=hp.vars v (qqm hv);have hvw:=qR hve;have hvv:=WP hve;have hil:=(qql.1 hv).1;have hill:i<lv.length:=by rw[hp.len];exact hil
 simp only[qL,qqP,qqJ]at hb;simp[-getElem?_pos,qb hb,hlook,hv,ju];by_cases hm0:v.mode=0
 . have hc:=j7 v.value.toNat (by omega);rw[Int.toNat_of_nonneg hvv.1]at hc;have hVl:((List.range 16).map fun k=>if v.value.toNat.testBit k=true then 1 else 0).length=16:=(by simp);have hwo:=Kj h.ok v.value.toNat;have hval:=fun b=>Z6 h.ok b (n:=v.value.toNat) (by omega)
   generalize ((List.range 16).map fun k=>if v.value.toNat.testBit k=true then 1 else 0)=V at *;simp[-getElem?_pos,hm0];refine qd.call hc (by simp) ?_;simp[-getElem?_pos,hVl,qm hVl,zk hVl (show (qx zf).length=16 from rfl),qQ];refine⟨d,V,rfl,h.app _,zd.refl d,hwo,fun b=>?_⟩;unfold zT qg7;dsimp only;rw[if_pos hm0,hval b];omega
 . have hlev:=hp.lev i v l hv hl hm0;have hwn:v.width=(v.width.toNat:Int):=(by omega);have hln:l=(l.toNat:Int):=(by omega);generalize hwN:v.width.toNat=w at *;generalize hlN:l.toNat=L at *;have hgl:∀ u:List Blk,True:=fun _=>trivial
   have hl':lv[i]?=some (L:Int):=(by rw[hl,hln]);simp[-getElem?_pos,hm0,hwn];refine ki w (fun k ev U=>ev 0=.ptr c.B 0/\ev 4=.ptr H.length 0/\ev 5=.int .i64 (i:Int)/\ev 6=.ptr (H.length+1) 0/\ev 7=.ptr (H.length+2) 0/\ev 30=.int .i64 (w:Int)/\ev 31=.int .i64 (k:Int) /\
    ∃ d' W,BX c H d' U.H/\zd d d'/\zc d' W/\U.H[H.length]?=some (.cells (qx zf))/\U.H[H.length+1]?=some (.cells (qp v))/\U.H[H.length+2]?=some (.cells (qx W)) /\
     ∀ b j,j<16->qn d' b W j=(decide (j<k)&&b (L+w-1-j))) ?_ ?_ ?_
   . refine⟨by simp,by simp,by simp,by simp,by simp,by simp,by simp,d,zf,h.app _,zd.refl d,ky h.ok,lk0,?_,lk2,fun b j hj=>by rw[yQ h.ok];simp⟩;have:=lk1 (H:=H) (p:=Blk.cells (qx zf)) (q:=Blk.cells (qp v)) (t:=[.cells (qx zf)]);simp only[qp,hwn]at this ⊢;exact this
   . rintro k ev ⟨H1,T1⟩ R hR hkw ⟨e0,e4,e5,e6,e7,e30,e31,d1,W,hx,hg,hW,bZ,bV,bW,hbits⟩;dsimp only at hx bZ bV bW;obtain⟨t1,hb1⟩:=hx.b;rw[hp.rest]at hb1;simp only[qL,qqP,qqJ]at hb1;simp only[qp,hwn]at bV;have hWl:=hW.1;have hk':(k:Int)<w:=(by omega);have hk16:k<16:=(by omega);have hk16':(k:Int)<16:=(by omega);have hk1:k+1<=16:=hk16;have hwk:=wr (n:=(k:Int)+1) (by omega) (by omega);have hw1:=wr (n:=(L:Int)+w) (by omega) (by omega);have hw2:=wr (n:=(L:Int)+w-1) (by omega) (by omega);have hw3:=wr (n:=(L:Int)+w-1-k) (by omega) (by omega);have hlevel:(L:Int)+w-1-k=((L+w-1-k:Nat):Int):=(by omega);rw[hlevel]at hw3;have hbit:=fun T=>(bit417 d1 hx.ok (L+w-1-k) (by omega) H1 T).leq (args:=[.agg [.sl 3 (d1.map qI) t1],.int .i64 ((L+w-1-k:Nat):Int)]) (by simp[zj,Leq,jZ.refl])
     have hLv:∀ b:Nat->Bool,b (L+w-1-k)=b (L+w-1-k):=fun _=>rfl
     generalize hLL:L+w-1-k=LL at *;simp[-getElem?_pos,e30,e31,hk'];rw[qH rfl];simp[-getElem?_pos,qP,e0,e5,e6,hb1,bV,hl',hw1,hw2,hlevel,hw3];refine qd.acall (hbit T1).glo ?_;have hxc:=hx;rintro v2 ⟨H2,T2⟩ ⟨hk2,rfl|⟨d2,i2,t2,rfl,g2,hd2,hi2,hm2,hs2⟩⟩
     . simp[-getElem?_pos,qP];exact qd.acall (wq c (Q:=fun _ _=>False) (hx.same hk2).kp0 _ _) fun _ _ h=>h.elim
     . simp[-getElem?_pos,qP];refine qd.acall (ZO c (hx.self.same hk2) hd2 i2 _) ?_;rintro v3 ⟨H3,T3⟩ ⟨rfl,hxx⟩;have hx3:=hx.call hxx;have up:∀ {k:Nat} {x:Blk},H.length<=k->H1[k]?=some x->H3[k]?=some x:=fun {k x} hl hq=>hxx.loc hq (hk k hl)
       have cW:=up (by omega) bW;have hl3:=(qql.1 cW).1;have hkl:k<W.length:=(by omega);simp[-getElem?_pos,qP,e7,e31,cW,hWl,hk16',hk1,yO,hwk];refine hR _ _ ⟨by simp[e0],by simp[e4],by simp[e5],by simp[e6],by simp[e7],by simp[e30],by simp,d2,W.set k i2,hx3.set (by omega) _,hg.trans g2,(hW.grown g2).set hi2,?_,?_,qqp hl3,fun b j hj=>?_⟩
       . rw[qqn (by omega)];exact up (by omega) bZ
       . rw[qqn (by omega)];have:=up (by omega) bV;simp only[qp,hwn]at this ⊢;exact this
       . rw[wB hkl];by_cases hjk:j=k
         . subst hjk;rw[if_pos rfl,hs2 b,hLL];have ht:=hx.ok.two
           cases hbb:b LL with
           | true=>simp[qc2 hx.ok]
           | false=>simp[JI hx.ok]
         . rw[if_neg hjk,zE hx.ok g2 hW b hj,hbits b j hj];by_cases h1:j<k
           . have h2:j<k+1:=(by omega);simp[h1,h2]
           . have h2:¬ j<k+1:=(by omega);simp[h1,h2]
   . rintro ev ⟨H1,T1⟩ ⟨e0,e4,e5,e6,e7,e30,e31,d1,W,hx,hg,hW,bZ,bV,bW,hbits⟩;dsimp only at hx bZ bV bW;have hWl:=hW.1;have hHl:=(qql.1 bZ).1;simp[-getElem?_pos,e4,e7,e30,e31,bW,bZ,hWl,qm hWl,zk hWl (show (qx zf).length=16 from rfl),qQ,hHl];refine⟨d1,W,rfl,hx.set (by omega) _,hg,hW,fun b=>?_⟩;unfold zT qg7;dsimp only;rw[if_neg hm0,hwN,hlN,zo (hbits b),qfo _ (by omega)]
end
end
section
def ZF (vs:List Var)(lv:List Int)(b:Nat->Bool):List Int:=(vs.zip lv).map fun q=>qg7 q.1 q.2 b
theorem J2 {vs:List Var}{lv:List Int}(h:lv.length=vs.length)(b:Nat->Bool):(ZF vs lv b).length=vs.length:=by simp[ZF,h]
theorem qdh {vs:List Var}{lv:List Int}{i:Nat}{v:Var}{l:Int}(hv:vs[i]?=some v)(hl:lv[i]?=some l)(b:Nat->Bool):(ZF vs lv b)[i]?=some (qg7 v l b):=by
 unfold ZF;rw[qqI,qrq (z:=(v,l)) |>.2 ⟨hv,hl⟩];rfl
theorem vU:∀ {vs:List Var} {a:List Int} {i:Nat} {v:Var} {x:Int},(vs.map (·.name)).Nodup->vs[i]?=some v->a[i]?=some x->jn ((vs.zip a).map fun q=>⟨q.1.name,q.2⟩) v.name=some (qt x)
 | [],_,i,v,x,_,hv,_=>by simp at hv
 | w::vs,[],i,v,x,_,_,hx=>by simp at hx
 | w::vs,y::a,0,v,x,hn,hv,hx=>by
  simp at hv hx;subst hv hx;simp[jn]
 | w::vs,y::a,i+1,v,x,hn,hv,hx=>by
  simp only[qqx,qrX]at hn;have ih:=vU (vs:=vs) (a:=a) (i:=i) (v:=v) (x:=x) hn.2 (by simpa using hv) (by simpa using hx);have hne:¬ w.name=v.name:=fun e=>hn.1 (qqS.2 ⟨v,qqm (i:=i) (by simpa using hv),e.symm⟩)
  have hne':(w.name==v.name)=false:=by simpa using hne
  unfold jn at ih ⊢;simp only[qtr,qqx,qsU,hne'];exact ih
theorem qfq {v:Var}(h:jF v=0)(l:Int)(b:Nat->Bool):0<=qg7 v l b/\qg7 v l b<=65535:=by
 have h1:=WP h;have h2:=qR h;unfold qg7;split
 . omega
 . have:=yX (fun k=>b (l.toNat+v.width.toNat-1-k)) v.width.toNat;have h3:2 ^ v.width.toNat<=2 ^ 8:=qqL (by omega) (by omega);omega
theorem qiW {p:Problem}{lv:List Int}(hl:lv.length=p.vars.length)(hn:(p.vars.map (·.name)).Nodup)(hve:∀ v∈p.vars,jF v=0){i:Nat}{v:Var}{l:Int}(hv:p.vars[i]?=some v)(hli:lv[i]?=some l)(b:Nat->Bool) :
 (jn (kr p.vars (ZF p.vars lv b)) v.name).getD 0=qg7 v l b:=by
 have h1:=vU hn hv (qdh hv hli b);unfold kr;rw[if_pos (J2 hl b),h1];have h2:=qfq (hve v (qqm hv)) l b;exact Qb h2.1 h2.2
theorem Yz {V:List Nat}(hV:V.length=16):∀ {Ws:List (List Nat)} {i:Nat},(∀ w∈Ws,w.length=16)->i<Ws.length->zp (Ws.flatMap qx) (i*16) (qx V)=(Ws.set i V).flatMap qx
 | [],i,_,h=>by simp at h
 | a::r,0,h,_=>by
  rw[qqG,qrT,qtq,qqG];exact wG _ _ _ (by rw[jr,jr,h a (by simp),hV])
 | a::r,i+1,h,hi=>by
  have hi':i<r.length:=by simpa using hi
  rw[qqG,qs0,qqG,<- Yz hV (Ws:=r) (i:=i) (fun w hw=>h w (by simp[hw])) hi',qsZ,qr4];have:=vL (c:=r.flatMap qx) (qx V) (qx a) (i*16)
  rwa[jr,h a (by simp)]at this
def qgF (p:Problem)(e:Ex):Prop:=∀ x∈pre e,qr x=0/\x.op≠3/\x.op≠24/\(x.op=2->vz p.vars x.name=true)/\x.args.length<=1000
theorem qgF.arg {p:Problem}{e a:Ex}(h:qgF p e)(ha:a∈e.args):qgF p a:=fun x hx=>h x (by rw[jk];exact qrH _ (Qi.2 ⟨a,ha,hx⟩))
theorem qgF.self {p:Problem}{e:Ex}(h:qgF p e):qr e=0/\e.op≠3/\e.op≠24/\(e.op=2->vz p.vars e.name=true)/\e.args.length<=1000:=h e (by rw[jk];simp)
section
variable {c:Bc}{d:List Nd}{H:List Blk}{T:List (Option Nat)}
def qd3:List (Nat×Sch×List Nat):=[(13,.step 1 [8,7,6,5] (.step 2 [8,7,6,5,4,3] (.step 3 [8,7,6,5,4] (.step 4 [8,7,6,5] (.fork (.cons 0 (.step 5 [8,7,6] (.step 6 [8,7] (.step 7 [8] (.step 8 [] (.done))))) (.cons 5 (.step 0 [8,7,6] (.step 6 [8,7] (.step 7 [8] (.step 8 [] (.done))))) (.nil))))))),[5,6]),(15,.step 0 [5,4] (.step 1 [5,4,3,2] (.step 2 [5,4,3] (.step 3 [5,4] (.step 4 [5] (.step 5 [] (.done)))))),[4]),(17,.step 0 [6,5] (.step 1 [6,5] (.step 2 [6,5,4,3] (.step 3 [6,5,4] (.step 4 [6,5] (.step 5 [6] (.step 6 [] (.done))))))),[5]),(19,.step 0 [5,4] (.step 1 [5,4,3,2] (.step 2 [5,4,3] (.step 3 [5,4] (.step 4 [5] (.step 5 [] (.done)))))),[4]),(21,.step 0 [8,7,6] (.step 1 [8,7,6,3,2] (.step 2 [8,7,6,3] (.step 3 [8,7,6] (.step 4 [8,7,6,5] (.step 5 [8,7,6] (.step 6 [8,7] (.step 7 [8] (.step 8 [] (.done))))))))),[6]),(23,.step 0 [6,4] (.step 1 [6,4,3,2] (.step 2 [6,4,3] (.step 3 [6,4] (.fork (.cons 4 (.step 5 [6] (.step 6 [] (.done))) (.cons 5 (.step 4 [6] (.step 6 [] (.done))) (.nil))))))),[4]),(24,.step 0 [8,7,2,1] (.step 1 [8,7,2] (.step 2 [8,7] (.step 3 [8,7,5,4] (.step 4 [8,7,5] (.step 5 [8,7] (.step 6 [8,7] (.step 7 [8] (.step 8 [] (.done))))))))),[7]),(25,.step 0 [10,9] (.step 1 [10,9,2] (.step 2 [10,9] (.step 3 [10,9,5,4] (.step 4 [10,9,5] (.step 5 [10,9] (.step 6 [10,9,8,7] (.step 7 [10,9,8] (.step 8 [10,9] (.step 9 [10] (.step 10 [] (.done))))))))))),[9])]
theorem qae (h:BX c H d H){p:Problem}{lv:List Int}(hp:PB p lv c)(e:Ex)(he:qgF p e)(h0:e.args=[]) :
 qg Tryz.prog (XG c) 178 [.ptr c.B 0,.agg (qu e)] ⟨H,T⟩ (WQ c d H fun b=>jX (kr p.vars (ZF p.vars lv b)) e):=by
 refine qg.kO ⟨false,qd3,[],[]⟩ qe Tryz.func178 rfl (by kernel_rfl) ?_;obtain⟨hn,h3,h24,h2,_⟩:=he.self;obtain⟨o1,o2,o3,o4,o5,o6,o7,o8⟩:=z9 hn;have hop:e.op=1\/e.op=2:=by
  unfold qj at o5;rw[h0]at o5;split at o5
  . simp at o5
  . simp only[qq1,qrJ,decide_eq_true_eq]at o5;unfold zx at o5
    repeat' split at o5
    all_goals omega
 have hk:∀ j,H.length<=j->j≠c.B:=fun j hj=>(h.at hj).1
 have henc:=qc e;rw[h0]at henc;simp only[qqQ]at henc;rw[henc];simp[-getElem?_pos,qA,ju,qQ];have hx1:=h.app [.cells [.ptr c.B 0],.cells [.int .i64 e.op,.int .i64 e.n,.str e.name,.sl 4 [] .none],.cells (qx zf)];refine qM.gen (fun n ev U=>ev 2=.ptr H.length 0/\ev 3=.ptr (H.length+1) 0/\ev 4=.ptr (H.length+2) 0/\ev 15=.int .i64 0/\ev 16=.int .i64 0/\BX c H d U.H/\U.H[H.length]?=some (.cells [.ptr c.B 0])/\U.H[H.length+1]?=some (.cells [.int .i64 e.op,.int .i64 e.n,.str e.name,.sl 4 [] .none])/\U.H[H.length+2]?=some (.cells (qx zf))) 0 ?_ ?_
 . exact⟨by simp,by simp,by simp,by simp,by simp,hx1,lk0,lk1,lk2⟩
 rintro n ev ⟨H1,T1⟩ R hR ⟨e2,e3,e4,e15,e16,hx,bB,bE,bZ⟩;dsimp only at hx bB bE bZ;have hZl:=(qql.1 bZ).1;simp[-getElem?_pos,e2,e3,e4,e15,e16,bE];rcases hop with hop|hop
 . have hnn:=o3 hop;have hc:=j7 e.n.toNat (by omega);rw[Int.toNat_of_nonneg hnn.1]at hc;have hVl:((List.range 16).map fun k=>if e.n.toNat.testBit k=true then 1 else 0).length=16:=(by simp);have hwo:=Kj h.ok e.n.toNat;have hval:=fun b=>Z6 h.ok b (n:=e.n.toNat) (by omega)
   generalize ((List.range 16).map fun k=>if e.n.toNat.testBit k=true then 1 else 0)=V at *;simp[-getElem?_pos,hop,e2,e3,e4,bE];refine qd.call hc (by simp) ?_;simp[-getElem?_pos,e2,e3,e4,bZ,hZl,hVl,qm hVl,zk hVl (show (qx zf).length=16 from rfl),qQ];refine⟨d,V,rfl,hx.set (by omega) _,zd.refl d,hwo,fun b=>?_⟩;dsimp only;rw[yp];unfold zT wM;rw[if_pos hop,hval b];omega
 . have hva:=h2 hop;unfold vz at hva;rw[qqN]at hva;obtain⟨v,hm,hvn⟩:=hva;have hvn:v.name=e.name:=(by simpa using hvn);obtain⟨i,hi⟩:=qq2 hm;have hil:=(qql.1 hi).1;obtain⟨l,hl⟩:∃ l,lv[i]?=some l:=⟨_,qqo (by rw[hp.len];exact hil)⟩;have hw:=qca hx.self hp hi hl (T:=T1);rw[hvn]at hw;have ht:¬ e.op=1:=(by omega);simp[-getElem?_pos,hop,e2,e3,e4,bE,bB];refine qd.acall hw ?_;rintro vv ⟨H2,T2⟩ ⟨d2,W,rfl,hxx,hg2,hW,hv2⟩;dsimp only at hv2;have cZ:=hxx.loc bZ (hk _ (by omega));have hl2:=(qql.1 cZ).1;dsimp only at cZ hl2;have hWl:=hW.1;simp[-getElem?_pos,e2,e3,e4,cZ,hl2,hWl,qm hWl,zk hWl (show (qx zf).length=16 from rfl),qQ];refine⟨d2,W,rfl,(hx.call hxx).set (by omega) _,hg2,hW,fun b=>?_⟩;rw[hv2 b];dsimp only;rw[yp];unfold wM;rw[if_neg ht,if_pos hop,<- hvn,qiW hp.len hp.nodup hp.vars hi hl b]
end
end
section
theorem ql4 (n:Nat):(List.replicate n (qx zf)).flatten=(List.replicate n zf).flatMap qx:=by rw[qr5,qs3]
theorem qis {x:Nat}:∀ l:List Nat,z7 (x:Int) (l.map fun n:Nat=>(n:Int))=qnw x l
 | []=>rfl
 | [_]=>rfl
 | a::b::r=>by
  simp only[qqx,z7,qnw,qis r];congr 2
  . rw[qrj,decide_eq_true_iff,decide_eq_true_iff];omega
  . rw[qrj,decide_eq_true_iff,decide_eq_true_iff];omega
section
variable {c:Bc}{d:List Nd}{H:List Blk}{T:List (Option Nat)}
theorem qjn (h:BX c H d H){h1 h2:Nat}{t x y:Nat}(b1:H[h1]?=some (.cells [.ptr c.B 0]))(b2:H[h2]?=some (.cells [.int .i64 (t:Int)]))(ht:t<d.length)(hx:x<d.length)(hy:y<d.length) :
 qg Tryz.prog (XG c) 239 [.int .i64 x,.int .i64 y,.ptr h1 0,.ptr h2 0] ⟨H,T⟩ (NQ c d H fun b=>evD d b t&&evD d b x||!evD d b t&&evD d b y):=by
 refine qg.k qe Tryz.func239 rfl (by kernel_rfl) ?_;simp[-getElem?_pos,b1,b2];refine qd.acall (qjm c h ht hx hy) ?_;rintro v ⟨H2,T2⟩ ⟨d2,y,rfl,hxx2,hg2,hy2,hv2⟩;simp[-getElem?_pos];exact⟨d2,y,rfl,hxx2,hg2,hy2,hv2⟩
theorem qad (h:BX c H d H){p:Problem}{lv:List Int}(hp:PB p lv c)(e:Ex)(he:qgF p e)(h0:e.args≠[])
 (ih:∀ a∈e.args,∀ d H T,BX c H d H->qg Tryz.prog (XG c) 178 [.ptr c.B 0,.agg (qu a)] ⟨H,T⟩ (WQ c d H fun b=>jX (kr p.vars (ZF p.vars lv b)) a)) :
 qg Tryz.prog (XG c) 178 [.ptr c.B 0,.agg (qu e)] ⟨H,T⟩ (WQ c d H fun b=>jX (kr p.vars (ZF p.vars lv b)) e):=by
 obtain⟨val,hvale⟩:∃ val:(Nat->Bool)->Ex->Int,∀ b e,jX (kr p.vars (ZF p.vars lv b)) e=val b e:=⟨_,fun _ _=>rfl⟩;simp only[hvale]at ih ⊢;refine qg.kO ⟨false,qd3,[],[]⟩ qe Tryz.func178 rfl (by kernel_rfl) ?_;obtain⟨hn,h3,h24,h2,hal⟩:=he.self;have hk:∀ j,H.length<=j->j≠c.B:=fun j hj=>(h.at hj).1
 have hpos:=qqB.2 h0;have hpos':¬ (e.args.length:Int)=0:=by omega
 have hle:(e.args.length:Int)<=549755813888:=by omega
 rw[qc e];simp[-getElem?_pos,qA,ju,qQ,hle,h0,ql4];refine qM.listR e.args (fun dn ev U=>ev 2=.ptr H.length 0/\ev 3=.ptr (H.length+1) 0/\ev 4=.ptr (H.length+2) 0/\ev 5=.ms (H.length+3) 0 e.args.length 16/\ev 14=.sl 4 (e.args.map qu) .none/\ev 15=.int .i64 e.args.length/\ev 16=.int .i64 dn.length /\
  ∃ (d':List Nd) (Ws:List (List Nat)),BX c H d' U.H/\zd d d'/\Ws.length=e.args.length/\(∀ w∈Ws,zc d' w)/\(∀ b,(Ws.take dn.length).map (zT d' b)=dn.map (val b)) /\
   U.H[H.length]?=some (.cells [.ptr c.B 0])/\U.H[H.length+1]?=some (.cells [.int .i64 e.op,.int .i64 e.n,.str e.name,.sl 4 (e.args.map qu) .none])/\U.H[H.length+2]?=some (.cells (qx zf))/\U.H[H.length+3]?=some (.cells (Ws.flatMap qx))) ?_ ?_ ?_
 . refine⟨by simp,by simp,by simp,by simp,by simp,by simp,by simp,d,List.replicate e.args.length zf,?_,zd.refl d,by simp,fun w hw=>?_,fun b=>by simp,?_,?_,?_,?_⟩
   . exact h.app _
   . rw[qrO]at hw;rw[hw.2];exact ky h.ok
   . exact lk0
   . exact lk1
   . exact lk2
   . exact lk3
 . rintro dn a rest ev ⟨H1,T1⟩ R hR hd hx hlt ⟨e2,e3,e4,e5,e14,e15,e16,d1,Ws,hx1,hg,hWl,hWs,hv,bB,bE,bZ,bW⟩;dsimp only at hx1 bB bE bZ bW;have ham:=qqm hx;have hdw:=wr (n:=(dn.length:Int)+1) (by omega) (by omega);have hlt':(dn.length:Int)<e.args.length:=(by omega);have hH1l:=(qql.1 bW).1;have hihx:=hx1.self.app [.cells (qu a)];have hih:=fun T=>ih a ham d1 _ T (hx1.app [.cells (qu a)]).self
   have hflen:=Y5 (Ws:=Ws) fun w hw=>(hWs w hw).1
   rw[hWl]at hflen;have hfit:dn.length*16+16<=e.args.length*16:=(by omega);have hput:∀ {V:List Nat},V.length=16->zp (Ws.flatMap qx) (dn.length*16) (qx V)=(Ws.set dn.length V).flatMap qx:=fun {V} hV=>Yz hV (fun w hw=>(hWs w hw).1) (by omega)
   rw[qc a]at hih;simp[-getElem?_pos,e2,e5,e14,e15,e16,hlt',hx,qc a,qb bB];refine qd.acall (hih T1) ?_;rintro v ⟨H2,T2⟩ ⟨d2,V,rfl,hxx2,hg2,hV,hv2⟩;dsimp only at hv2;have hVl:=hV.1;have hx2:=(hx1.app [.cells (qu a)]).call (by rw[qc a];exact hxx2);have up:∀ {k:Nat} {x:Blk},H.length<=k->H1[k]?=some x->H2[k]?=some x:=fun {k x} hl hq=>hxx2.loc (qb hq _) (hk k hl)
   have cW:=up (by omega) bW;have hl2:=(qql.1 cW).1;simp[-getElem?_pos,e16,hlt',cW,hflen,hfit,hVl,hput hVl,hdw];refine hR _ _ ⟨by simp[e2],by simp[e3],by simp[e4],by simp[e5],by simp[e14],by simp[e15],by simp,d2,Ws.set dn.length V,hx2.set (by omega) _,hg.trans hg2,by simp[hWl],fun w hw=>?_,fun b=>?_,?_,?_,?_,qqp hl2⟩
   . rcases qr9 hw with hw|rfl
     . exact (hWs w hw).grown hg2
     . exact hV
   . have h1:(Ws.set dn.length V).take (dn++[a]).length=Ws.take dn.length++[V]:=by
      rw[qqr,qqO,qqT,qqp (by omega),List.take_set_of_le (qqw _)];rfl
     rw[h1,qrc,qrc,<- hv b];congr 1
     . apply qrw;intro w hw;exact qfK hx1.ok hg2 (hWs w (qrk hw)) b
     . simp only[qqx,qqQ];rw[hv2 b]
   . rw[qqn (by omega)];exact up (by omega) bB
   . rw[qqn (by omega)];exact up (by omega) bE
   . rw[qqn (by omega)];exact up (by omega) bZ
 . rintro ev ⟨H1,T1⟩ ⟨e2,e3,e4,e5,e14,e15,e16,d1,Ws,hx,hg,hWl,hWs,hv,bB,bE,bZ,bW⟩;dsimp only at hx bB bE bZ bW;have hvf:∀ b,Ws.map (zT d1 b)=e.args.map (val b):=fun b=>by
    have:=hv b
    rwa[qqu (by omega)]at this
   have hW16:∀ w∈Ws,w.length=16:=fun w hw=>(hWs w hw).1
   have hflen:=Y5 hW16;have hnode:∀ b,val b e=opW e.op (Ws.map (zT d1 b)):=fun b=>by
    rw[<- hvale,yp];unfold wM;rw[hvf b];have:(List.map (jX (kr p.vars (ZF p.vars lv b))) e.args)=e.args.map (val b):=qrw fun a _=>hvale b a
    rw[this];have h1:e.op≠1/\e.op≠2:=by
     obtain⟨o1,o2,o3,o4,o5,o6,o7,o8⟩:=z9 hn;unfold qj at o5;constructor
     . intro h;rw[h]at o5;simp[zx]at o5;exact h0 o5
     . intro h;rw[h]at o5;simp[zx]at o5;exact h0 o5
    rw[if_neg h1.1,if_neg h1.2,if_neg h3,if_neg h24]
   have fin:∀ {H4:List Blk} {d4:List Nd} {V:List Nat} {τ:St},τ.H=H4.set (H.length+2) (.cells (qx V))->BX c H d4 H4->zd d1 d4->zc d4 V->(∀ b,zT d4 b V=opW e.op (Ws.map (zT d1 b)))->WQ c d H (fun b=>val b e) (.agg (qx V)) τ:=fun {H4 d4 V τ} hτ hx4 hg4 hV hvv=>by
    refine⟨d4,_,rfl,?_,hg.trans hg4,hV,fun b=>by rw[hvv];exact (hnode b).symm⟩;rw[hτ];exact hx4.set (by omega) _
   have hZl:=(qql.1 bZ).1;obtain⟨o1,o2,o3,o4,o5,o6,o7,o8⟩:=z9 hn;have hop:((e.op=4\/e.op=5\/e.op=6\/e.op=25)/\e.args.length=1)\/(e.op=22/\e.args.length=3)\/(e.op=23/\3<=e.args.length)\/(7<=e.op/\e.op<=21/\e.args.length=2):=by
    unfold qj at o5;split at o5
    . simp only[decide_eq_true_eq]at o5;omega
    . simp only[decide_eq_true_eq]at o5;unfold zx at o5
      repeat' split at o5
      all_goals omega
   have hZ16:(qx zf).length=16:=rfl;have ht:=hx.ok.two;rcases hop with ⟨hop,h1⟩|⟨hop,h1⟩|⟨hop,h1⟩|⟨hop7,hop21,h1⟩
   . -- one operand
     rw[h1]at hWl e5;obtain⟨w0,rfl⟩:∃ w,Ws=[w]:=List.length_eq_one_iff.1 hWl;have hw0:=hWs w0 (by simp);have hw0l:=hw0.1;simp only[qqG,qsK,qq5]at bW;rcases hop with hop|hop|hop|hop
     . simp[-getElem?_pos,e3,e15,e16,bE,hop,h1];rw[qH rfl];simp[-getElem?_pos,qP,e2,e5,bB,bW,hw0l,qm hw0l];have key:=Qd hx.self hw0 (T:=T1);refine⟨qd.acall key ?_,qd.acall key ?_⟩
       all_goals
        rintro v ⟨H2,T2⟩ ⟨d2,t,rfl,hxx2,hg2,ht2,hv2⟩;dsimp only at hv2;have hx2:=hx.call hxx2;have cB:=hxx2.loc bB (hk _ (by omega));dsimp only at cB;simp[-getElem?_pos,qP,e2,cB];refine qd.acall (QE c hx2.self ht2) ?_;rintro v ⟨H3,T3⟩ ⟨d3,u,rfl,hxx3,hg3,hu,hv3⟩;dsimp only at hv3;have hx3:=hx2.call hxx3;have cZ:=hxx3.loc (hxx2.loc bZ (hk _ (by omega))) (hk _ (by omega));have hl3:=(qql.1 cZ).1;dsimp only at cZ hl3;simp[-getElem?_pos,qP];refine qd.call (jd u) (by simp) ?_;have cut1:(qx (u::List.replicate 15 0)).take 16=qx (u::List.replicate 15 0):=qm rfl;have put1:zp (qx zf) 0 (qx (u::List.replicate 15 0))=qx (u::List.replicate 15 0):=zk rfl rfl;have kg:=fin (H4:=H3) (d4:=d3) (V:=u::List.replicate 15 0) (τ:=⟨H3.set (H.length+2) (.cells (qx (u::List.replicate 15 0))),T3⟩) rfl hx3 (hg2.trans hg3) (qaX hx3.ok hu) (fun b=>by
         rw[Vc hx3.ok,hv3,hv2,vF,hop];simp[opW,unW,zT])
        simp only[List.reduceReplicate]at kg cut1 put1;simp[-getElem?_pos,qP,e4,cZ,qQ,put1,hl3,cut1];exact kg
     . simp[-getElem?_pos,e3,e15,e16,bE,hop,h1];rw[qH rfl];simp[-getElem?_pos,qP,e2,e5,bB,bW,hw0l,qm hw0l];refine qd.acall (ZB hx.self hw0) ?_;rintro v ⟨H2,T2⟩ ⟨d2,V,rfl,hxx2,hg2,hV,hv2⟩;dsimp only at hv2;have hVl:=hV.1;have cZ:=hxx2.loc bZ (hk _ (by omega));have hl3:=(qql.1 cZ).1;dsimp only at cZ hl3;simp[-getElem?_pos,qP,e4,cZ,qQ,hVl,zk hVl hZ16,hl3,qm hVl];refine fin rfl (hx.call hxx2) hg2 hV fun b=>?_
       unfold zT;rw[zo (hv2 b),w_inv,hop];rfl
     . have hc0:=j7 0 (by omega);rw[qeS]at hc0;simp only[qrJ]at hc0;simp[-getElem?_pos,e3,e15,e16,bE,hop,h1];rw[qH rfl];simp[-getElem?_pos,qP,e2,bB];refine qd.call hc0 (by simp) ?_;simp[-getElem?_pos,qP,e5,bW,hw0l,qm hw0l];refine qd.acall (Zy hx.self (ky hx.ok) hw0) ?_;rintro v ⟨H2,T2⟩ ⟨d2,V,rfl,hxx2,hg2,hV,hv2⟩;dsimp only at hv2;have hVl:=hV.1;have cZ:=hxx2.loc bZ (hk _ (by omega));have hl3:=(qql.1 cZ).1;dsimp only at cZ hl3;simp[-getElem?_pos,qP,e4,cZ,qQ,hVl,zk hVl hZ16,hl3,qm hVl];refine fin rfl (hx.call hxx2) hg2 hV fun b=>?_
       rw[qcG (hv2 b),<- kD,w_sub,yW fun k _=>yQ hx.ok b k,hop];simp[opW,unW,zT]
     . simp[-getElem?_pos,e3,e15,e16,bE,hop,h1];rw[qH rfl];simp[-getElem?_pos,qP,e2,e5,bB,bW,hw0l,qm hw0l];refine qd.acall (qo6 hx.self hw0) ?_;rintro v ⟨H2,T2⟩ ⟨d2,V,rfl,hxx2,hg2,hV,hv2⟩;dsimp only at hv2;have hVl:=hV.1;have cZ:=hxx2.loc bZ (hk _ (by omega));have hl3:=(qql.1 cZ).1;dsimp only at cZ hl3;simp[-getElem?_pos,qP,e4,cZ,qQ,hVl,zk hVl hZ16,hl3,qm hVl];refine fin rfl (hx.call hxx2) hg2 hV fun b=>?_
       have hr:=qfJ d1 b w0;have hwi:=Qb hr.1 hr.2;unfold zT at hwi ⊢;rw[hv2 b,<- Wl _ 16 (by omega),hop];simp[opW,unW,hwi]
   . -- a choice
     rw[h1]at hWl e5;obtain⟨w0,w1,w2,rfl⟩:∃ w w' w'',Ws=[w,w',w'']:=by
      match Ws,hWl with
      | [a,b,c],_=>exact⟨a,b,c,rfl⟩
     have hw0:=hWs w0 (by simp);have hw0l:=hw0.1;have hw1:=hWs w1 (by simp);have hw1l:=hw1.1;have hw2:=hWs w2 (by simp);have hw2l:=hw2.1;simp only[qqG,qsK,qq5]at bW;have c0:(qx w0++(qx w1++qx w2)).take 16=qx w0:=(by rw[qrf (by simp[hw0l]),qm hw0l]);have c1:((qx w0++(qx w1++qx w2)).drop 16).take 16=qx w1:=by
      rw[qrZ,qq0 (by simp[hw0l]),jr,hw0l,qrB,qrL,qqJ,qrf (by simp[hw1l]),qm hw1l]
     have c2:(qx w0++(qx w1++qx w2)).drop 32=qx w2:=by
      rw[qrZ,qq0 (by simp[hw0l]),jr,hw0l,qqJ,qrZ,qq0 (by simp[hw1l]),jr,hw1l];rfl
     have cl:(qx w0++(qx w1++qx w2)).length=48:=(by simp[hw0l,hw1l,hw2l]);generalize qx w0++(qx w1++qx w2)=F at *;simp[-getElem?_pos,e3,e15,e16,bE,hop,h1];rw[qH rfl];simp[-getElem?_pos,qP,e2,e5,bB,bW,cl,c0]
     -- what is behind the truth
     have rest:∀ {H2:List Blk} {T2:List (Option Nat)} {d2:List Nd} {t N:Nat},BX c H d2 H2->zd d1 d2->t<d2.length->(∀ b,evD d2 b t=ZE (qn d1 b w0) 16)->(∀ {k:Nat} {x:Blk},H.length<=k->H1[k]?=some x->H2[k]?=some x)->H2[N]?=some (.cells [.int .i64 (t:Int)])->N≠c.B ->
      qg Tryz.prog (XG c) 238 [.agg (qx w1),.agg (qx w2),.fn 239 [] [.ptr H.length 0,.ptr N 0]] ⟨H2,T2⟩ (BQ c d2 H2 fun b k=>if ZE (qn d1 b w0) 16=true then qn d1 b w1 k else qn d1 b w2 k):=by
      intro H2 T2 d2 t N hx2 hg2 ht2 htv up bN hN;have cB:=up (qqw _) bB;have:=JR hx2.self (hw1.grown hg2) (hw2.grown hg2) (T:=T2) (g:=239) (first:=[]) (cap:=[.ptr H.length 0,.ptr N 0]) (F:=fun b p q=>ZE (qn d1 b w0) 16&&p||!ZE (qn d1 b w0) 16&&q) (fun d3 H3 T3 x y hx3 hg3 hxl hyl=>by
       have key:=qjn hx3.self (h1:=H.length) (h2:=N) (t:=t) (x:=x) (y:=y) (T:=T3) (hx3.loc cB (hk _ (qqw _))) (hx3.loc bN hN) (qqD ht2 hg3.len) hxl hyl;have e:(fun b=>evD d3 b t&&evD d3 b x||!evD d3 b t&&evD d3 b y)=fun b=>ZE (qn d1 b w0) 16&&evD d3 b x||!ZE (qn d1 b w0) 16&&evD d3 b y:=by
        funext b;rw[hg3.ev hx2.ok b ht2,htv]
       rw[e]at key;exact key)
      refine this.imp fun v U ⟨d',W,e1,e2,e3,e4,e5⟩=>⟨d',W,e1,e2,e3,e4,fun b k hk=>?_⟩
      rw[e5 b k hk];dsimp only;rw[zE hx.ok hg2 hw1 b hk,zE hx.ok hg2 hw2 b hk];cases ZE (qn d1 b w0) 16<;>simp
     have QS:∀ {H4:List Blk} {T4:List (Option Nat)} {d2 d4:List Nd} {V:List Nat},BX c H d4 H4->zd d1 d2->zd d2 d4->zc d4 V->(∀ b k,k<16->qn d4 b V k=if ZE (qn d1 b w0) 16=true then qn d1 b w1 k else qn d1 b w2 k)->WQ c d H (fun b=>val b e) (.agg (qx V)) ⟨H4.set (H.length+2) (.cells (qx V)),T4⟩:=fun {H4 T4 d2 d4 V} hx4 hg2 hg4 hV hvv=>by
      refine fin rfl hx4 (hg2.trans hg4) hV fun b=>?_
      unfold zT;rw[zo (hvv b),hop,vF];by_cases h:(zn (qn d1 b w0) 16:Int)=0
      . have h':zn (qn d1 b w0) 16=0:=(by omega);simp[opW,h']
      . have h':¬ zn (qn d1 b w0) 16=0:=(by omega);simp[opW,h']
     refine⟨qd.acall (Qd hx.self hw0) ?_,qd.acall (Qd (hx.app _).self hw0) ?_⟩
     . rintro v ⟨H2,T2⟩ ⟨d2,t,rfl,hxx2,hg2,ht2,hv2⟩;dsimp only at hv2;have hx2:=hx.call hxx2;have up:∀ {k:Nat} {x:Blk},H.length<=k->H1[k]?=some x->H2[k]?=some x:=fun {k x} hl hq=>hxx2.loc hq (hk k hl)
       have cW:=up (by omega) bW;simp[-getElem?_pos,qP];rw[qH rfl];simp[-getElem?_pos,qP,e2,e5,qb cW,cl,c1,c2,qm hw2l];have hH2l:H.length<=H2.length:=hx2.kp.1;refine qd.acall (rest (hx2.app [.cells [.int .i64 (t:Int)]]) hg2 ht2 hv2 (fun hl hq=>qb (up hl hq) _) lk0 (hk _ hH2l)) ?_;rintro v ⟨H3,T3⟩ ⟨d3,V,rfl,hxx3,hg3,hV,hv3⟩;have hx3:=(hx2.app [.cells [.int .i64 (t:Int)]]).call hxx3;have hVl:=hV.1;have cZ:=hxx3.loc (qb (up (by omega) bZ) _) (hk _ (by omega));have hl3:=(qql.1 cZ).1;dsimp only at cZ hl3;simp[-getElem?_pos,qP,e4,cZ,qQ,hVl,zk hVl hZ16,hl3,qm hVl];exact QS hx3 hg2 hg3 hV hv3
     . rintro v ⟨H2,T2⟩ ⟨d2,t,rfl,hxx2,hg2,ht2,hv2⟩;dsimp only at hv2;have hx2:=(hx.app _).call hxx2;have up:∀ {k:Nat} {x:Blk},H.length<=k->H1[k]?=some x->H2[k]?=some x:=fun {k x} hl hq=>hxx2.loc (qb hq _) (hk k hl)
       have hH1l:H.length<=H1.length:=hx.kp.1;have bN:=hxx2.loc (lk0 (H:=H1) (p:=Blk.cells [.int .i64 0]) (t:=[])) (hk _ hH1l);have hNl:=(qql.1 bN).1;have hH13:=(qql.1 bW).1;have cW:=up (by omega) bW;have up3:∀ {k:Nat} {x:Blk},H.length<=k->H1[k]?=some x->(H2.set H1.length (.cells [.int .i64 (t:Int)]))[k]?=some x:=fun {k x} hl hq=>by
        have:=(qql.1 hq).1;rw[qqn (by omega)];exact up hl hq
       have dW:=up3 (by omega) bW;simp[-getElem?_pos,qP,bN];rw[qH rfl];simp[-getElem?_pos,qP,e2,e5,dW,cl,c1,c2,qm hw2l];refine qd.acall (rest (hx2.set hH1l _) hg2 ht2 hv2 up3 (qqp hNl) (hk _ hH1l)) ?_;rintro v ⟨H3,T3⟩ ⟨d3,V,rfl,hxx3,hg3,hV,hv3⟩;have hx3:=(hx2.set hH1l _).call hxx3;have hVl:=hV.1;have cZ:=hxx3.loc (up3 (by omega) bZ) (hk _ (by omega));have hl3:=(qql.1 cZ).1;dsimp only at cZ hl3;simp[-getElem?_pos,qP,e4,cZ,qQ,hVl,zk hVl hZ16,hl3,qm hVl];exact QS hx3 hg2 hg3 hV hv3
   . -- ranges
     obtain⟨w0,Wr,rfl⟩:∃ w r,Ws=w::r:=by
      match Ws,hWl with
      | a::r,_=>exact⟨a,r,rfl⟩
      | [],h=>simp at h;omega
     have hw0:=hWs w0 (by simp);have hw0l:=hw0.1;have hWrl:Wr.length+1=e.args.length:=(by simpa using hWl);rw[<- hWrl]at e5;have hsl:zt (.ms (H.length+3) 0 (Wr.length+1) 16) (some (.int .i64 1)) none none=some (.ms (H.length+3) 16 Wr.length 16):=by
      have h2:(1:Int)<=((Wr.length+1:Nat):Int):=(by omega);show (if (0:Int)<=1/\(1:Int)<=((Wr.length+1:Nat):Int)/\((Wr.length+1:Nat):Int)<=((Wr.length+1:Nat):Int)/\((1:Int)=0\/(1:Int)<((Wr.length+1:Nat):Int)) then _ else _)=_;rw[if_pos ⟨by omega,h2,qtP _,.inr (by omega)⟩];simp
     have hpos1:(0:Int)<(Wr.length:Int)+1:=(by omega);have hin:=qir hx.self hw0 (A:=H.length+3) (V:=w0) (Ws:=Wr) hw0l (fun w hw=>hWs w (by simp[hw])) (by simpa using bW) (hk _ (by omega)) (by omega) (T:=T1);simp only[qqG]at bW hflen;have c0:(qx w0++Wr.flatMap qx).take 16=qx w0:=(by rw[qrf (by simp[hw0l]),qm hw0l]);have cl:16<=(qx w0++Wr.flatMap qx).length:=(by simp[hw0l]);generalize qx w0++Wr.flatMap qx=F at *;simp[-getElem?_pos,e3,e15,e16,bE,hop];rw[qH rfl];simp[-getElem?_pos,qP,e2,e5,bB,bW,cl,c0,hsl,hpos1];refine qd.acall hin ?_;rintro v ⟨H2,T2⟩ ⟨d2,u,rfl,hxx2,hg2,hu,hv2⟩;dsimp only at hv2;have hx2:=hx.call hxx2;have cZ:=hxx2.loc bZ (hk _ (by omega));have hl3:=(qql.1 cZ).1;dsimp only at cZ hl3;simp[-getElem?_pos,qP];refine qd.call (jd u) (by simp) ?_;have cut1:(qx (u::List.replicate 15 0)).take 16=qx (u::List.replicate 15 0):=qm rfl;have put1:zp (qx zf) 0 (qx (u::List.replicate 15 0))=qx (u::List.replicate 15 0):=zk rfl rfl;have kg:=fin (H4:=H2) (d4:=d2) (V:=u::List.replicate 15 0) (τ:=⟨H2.set (H.length+2) (.cells (qx (u::List.replicate 15 0))),T2⟩) rfl hx2 hg2 (qaX hx2.ok hu) (fun b=>by
      rw[Vc hx2.ok,hv2,hop];have:(Wr.map (zT d1 b))=(Wr.map fun w=>zn (qn d1 b w) 16).map fun n:Nat=>(n:Int):=by
       rw[qrD];rfl
      simp only[opW,qqx,List.tail_cons,this];have hins:=qis (x:=zn (qn d1 b w0) 16) (Wr.map fun w=>zn (qn d1 b w) 16);show _=b2i (z7 (zT d1 b w0) _);rw[<- hins];rfl)
     simp only[List.reduceReplicate]at kg cut1 put1;simp[-getElem?_pos,qP,e4,cZ,qQ,put1,hl3,cut1];exact kg
   . -- two operands
     rw[h1]at hWl e5;obtain⟨w0,w1,rfl⟩:∃ w w',Ws=[w,w']:=by
      match Ws,hWl with
      | [a,b],_=>exact⟨a,b,rfl⟩
     have hw0:=hWs w0 (by simp);have hw0l:=hw0.1;have hw1:=hWs w1 (by simp);have hw1l:=hw1.1;have c0:(qx w0++qx w1).take 16=qx w0:=(by rw[qrf (by simp[hw0l]),qm hw0l]);have c1:(qx w0++qx w1).drop 16=qx w1:=(by rw[qrZ,qq0 (by simp[hw0l]),jr,hw0l];rfl);have cl:(qx w0++qx w1).length=32:=(by simp[hw0l,hw1l]);simp only[qqG,qsK,qq5]at bW;generalize qx w0++qx w1=F at *;have n1:¬ e.op=1:=(by omega);have n2:¬ e.op=2:=(by omega);have n4:¬ e.op=4:=(by omega);have n5:¬ e.op=5:=(by omega);have n6:¬ e.op=6:=(by omega);have n25:¬ e.op=25:=(by omega);have n23:¬ e.op=23:=(by omega);have n22:¬ e.op=22:=(by omega);simp[-getElem?_pos,e2,e3,e15,e16,bE,h1,n1,n2,n4,n5,n6,n25,n23,n22];rw[qH rfl];simp[-getElem?_pos,qP,e2,e3,e5,bB,bE,bW,cl,c0,c1,qm hw1l];refine qd.acall (qju hx.self hw0 hw1 hop7 hop21) ?_;rintro v ⟨H2,T2⟩ ⟨d2,V,rfl,hxx2,hg2,hV,hv2⟩;dsimp only at hv2;have hVl:=hV.1;have cZ:=hxx2.loc bZ (hk _ (by omega));have hl3:=(qql.1 cZ).1;dsimp only at cZ hl3;simp[-getElem?_pos,qP,e4,cZ,qQ,hVl,zk hVl hZ16,hl3,qm hVl];refine fin rfl (hx.call hxx2) hg2 hV fun b=>?_
     rw[hv2 b];simp[opW,n22,n23]
theorem qn5 {p:Problem}{lv:List Int}(hp:PB p lv c):∀ (e:Ex),qgF p e->∀ d H T,BX c H d H->qg Tryz.prog (XG c) 178 [.ptr c.B 0,.agg (qu e)] ⟨H,T⟩ (WQ c d H fun b=>jX (kr p.vars (ZF p.vars lv b)) e):=by
 refine Ex.ind fun e ih he d H T h=>?_
 by_cases h0:e.args=[]
 . exact qae h hp e he h0
 . exact qad h hp e he h0 fun a ha d H T h=>ih a ha (he.arg ha) d H T h
end
end
def qgC (v:Var):Nat:=if v.mode=0 then 0 else v.width.toNat
theorem qdF {l:List Var}(hw:∀ v∈l,0<=v.width/\v.width<=8)(hl:l.length<=1000):∀ k,k<=l.length->yJ l (JC l k)=(((l.take k).map qgC).sum:Nat)/\((l.take k).map qgC).sum<=8*k
 | 0,_=>⟨by simp[JC,yJ],by simp⟩
 | k+1,hk=>by
  obtain⟨i1,i2⟩:=qdF hw hl k (by omega);obtain⟨v,hv⟩:∃ v,l[k]?=some v:=⟨_,qqo (by omega)⟩;have hwv:=hw v (qqm hv);have ht:l.take (k+1)=l.take k++[v]:=by rw[qqT,hv];rfl
  have hr:yA l (k:Int)=(v.mode != 0):=by simp[yA,hv]
  rw[Yt,hr,ht,qrc,List.sum_append];by_cases hm:v.mode=0
  . have hb:qgC v=0:=(by simp[qgC,hm]);simp only[hm,bne_self_eq_false,qqF,if_false,qqx,qqQ,qsE,qt2,hb];exact⟨by simpa using i1,by omega⟩
  . have hb:qgC v=v.width.toNat:=(by simp[qgC,hm]);have hm':(v.mode != 0)=true:=(by simpa using hm);rw[if_pos hm'];have hs:yJ l (JC l k++[(k:Int)])=IntKind.i64.wrap (yJ l (JC l k)+zG l k):=by
     unfold yJ;rw[qrC];simp
    rw[hs,i1];have hwa:zG l k=v.width:=(by simp[zG,hv]);rw[hwa];simp only[qqx,qqQ,qsE,qt2,hb,qrx];rw[wr (by omega) (by omega)];exact⟨by omega,by omega⟩
theorem VY {p:Problem}(hv:qk p=0)(hl:p.vars.length<=1000):yJ p.vars (qC p)=((p.vars.map qgC).sum:Nat)/\(QY p.vars).length=2 ^ (p.vars.map qgC).sum:=by
 have hw:∀ v∈p.vars,0<=v.width/\v.width<=8:=fun v hm=>by have:=qR (zJ hv v hm);omega
 have h1:=qdF hw hl p.vars.length (qqw _);rw[qr0]at h1;have hr:qC p=JC p.vars p.vars.length:=by unfold qC;rw[if_neg (by simpa using hv)]
 rw[hr];exact⟨h1.1,qdk p.vars⟩
noncomputable def Jy (p:Problem)(l:List Ex):Bool:=decide (qk p=0)&&(l.all (wO p.vars)&&jT p.vars l)
theorem QI (p:Problem)(l:List Ex)(h:VQ p)(hv20:p.vars.length<=20)(hb:yJ p.vars (qC p)<=18)(hfl:Fits l)(hx:∀ e∈l,Wen e/\hgt e<=1000/\(pre e).length<=100000) :
 Pure Tryz.prog GG 87 [.agg (qL p),.sl 4 (l.map qu) .none] (.bool (Jy p l)):=by
 refine Pure.k qe Tryz.func87 rfl (by kernel_rfl) ?_;have h0:0<=yJ p.vars (qC p):=by
  by_cases hv:qk p=0
  . rw[(VY hv (by omega)).1];omega
  . have:qC p=[]:=by unfold qC;rw[if_pos (by simpa using hv)]
    rw[this];simp[yJ]
 have ha:=qjB p h hv20 h0 (by omega);have hp:2 ^ (yJ p.vars (qC p)).toNat<=2 ^ 18:=qqL (by omega) (by omega);have hf:=ql5 p l (2 ^ (yJ p.vars (qC p)).toNat) h hfl hx (by omega);have hr:(Jq p l (2 ^ (yJ p.vars (qC p)).toNat)).2≠18/\decide ((Jq p l (2 ^ (yJ p.vars (qC p)).toNat)).2=0)=Jy p l:=by
  unfold Jq;by_cases hg:qeY p l (2 ^ (yJ p.vars (qC p)).toNat:Nat)=true
  . rw[if_pos hg];simp only[qeY,qqq,decide_eq_true_eq]at hg;obtain⟨hv,_,_,hk⟩:=hg;have hab:=VY hv (by omega);have hs:=qlV (vs:=p.vars) (l:=l) (k:=2 ^ (yJ p.vars (qC p)).toNat) (by rw[hab.2,hab.1];simp);have hsb:Jy p l=jT p.vars l:=(by simp[Jy,hv,hk]);rw[hsb,<- hs.1];generalize qb1 p.vars l _ (qW p.vars)=s at hs;obtain⟨s1,s2⟩:=s
    cases s1 with
    | some a=>simp
    | none=>
     have:=hs.2 rfl;simp only at this;subst this;simp
  . rw[if_neg hg];have hsb:Jy p l=false:=by
     apply qru.2;intro hh;simp only[Jy,qqq,decide_eq_true_eq]at hh;apply hg;simp only[qeY,qqq,decide_eq_true_eq];have hp0:0<2 ^ (yJ p.vars (qC p)).toNat:=qsh _;generalize 2 ^ (yJ p.vars (qC p)).toNat=N at *;exact⟨hh.1,by omega,by omega,hh.2.1⟩
    rw[hsb];simp
 generalize Jq p l (2 ^ (yJ p.vars (qC p)).toNat)=fa at *;generalize 2 ^ (yJ p.vars (qC p)).toNat=N at *;obtain⟨hr1,hr2⟩:=hr;rw[<- hr2];have hm:Qx (.int .i64 (N:Int)) (.int .i64 262144)=some (.int .i64 N):=by
  simp only[Qx];rw[if_neg (by omega)]
 simp only[qL]at ha hf;simp[-getElem?_pos];refine qd.call ha (by simp) ?_;simp[-getElem?_pos,hm];refine qd.call hf (by simp) ?_;simp[-getElem?_pos,hr1];rw[qrj];simp
end Go.Proofs.YtoibbcnfhhggnaaGreatDoor
end
