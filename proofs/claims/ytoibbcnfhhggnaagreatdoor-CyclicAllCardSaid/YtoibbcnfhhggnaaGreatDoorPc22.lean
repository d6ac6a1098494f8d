/- A part of the proof. -/
import Derived.Test.YtoibbcnfhhggnaaGreatDoorPc20
import Derived.Test.YtoibbcnfhhggnaaGreatDoorPc21
import Derived.Test.YtoibbcnfhhggnaaGreatDoorPc17
import Derived.Test.YtoibbcnfhhggnaaGreatDoorPc19
set_option maxHeartbeats 16000000
set_option linter.unusedVariables false
set_option linter.unusedSimpArgs false
set_option maxRecDepth 100000
set_option linter.defProp false
section
namespace Go.Proofs.YtoibbcnfhhggnaaGreatDoor
open Go Go.Abs
def qkZ:List (Nat×Sch×List Nat):=[(9,.step 1 [9,8,7] (.step 2 [9,8,7,5,4,3] (.step 3 [9,8,7,5,4] (.step 4 [9,8,7,5] (.step 6 [9,8,7] (.fork (.cons 0 (.step 5 [9,8,7] (.step 7 [9,8] (.step 8 [9] (.step 9 [] (.done))))) (.cons 5 (.step 0 [9,8,7] (.step 7 [9,8] (.step 8 [9] (.step 9 [] (.done))))) (.nil)))))))),[]),(14,.step 0 [8,7,3,2,1] (.step 1 [8,7,3,2] (.step 2 [8,7,3] (.step 3 [8,7] (.step 4 [8,7] (.step 5 [8,7,6] (.step 6 [8,7] (.step 7 [8] (.step 8 [] (.done))))))))),[])]
noncomputable def qeU (p:Problem)(l:List Ex)(n:Int):Bool:=decide (qi p=0)&&(decide (0<=n)&&(decide (n<=262144)&&l.all (wS p.vars)))
def qp4 (p:Problem)(l:List Ex)(n:Nat)(r:AV)(U':St):Prop :=
 if qeU p l n=true then ∃ F A t,r=.tup [.ptr F 0,.int .i64 0]/\FndR F A t p l (qP p.vars) false n U'.H/\A<U'.H.length else r=.tup [.nilp,.int .i64 1]
theorem qmx (p:Problem)(l:List Ex)(n:Nat)(h:VQ p)(hfl:Fits l)(hx:∀ e∈l,Wen e/\hgt e<=1000/\(pre e).length<=100000)(hn:n<4611686018427387904)(H:List Blk)(T:List (Option Nat)) :
 qg Tryz.prog GG 164 [.agg (qJ p),.sl 4 (l.map qs) .none,.int .i64 n] ⟨H,T⟩ (qp4 p l n):=by
 refine qg.kO ⟨false,qkZ,[],[]⟩ qe Tryz.func164 rfl (by kernel_rfl) ?_;have hval:=j4 p h;have hfv:Fits p.vars:=by have:=h.vars;show p.vars.length<_;omega
 have hnn:¬ (n:Int)<0:=by omega
 obtain⟨Q,hQ⟩:∃ Q,Q=qp4 p l n:=⟨_,rfl⟩;rw[<- hQ];by_cases hv:qi p=0
 case neg=>
  have:Q=fun r _=>r=.tup [.nilp,.int .i64 1]:=by rw[hQ];funext r U;unfold qp4;rw[if_neg (by simp[qeU,hv])]
  simp only[qJ]at hval;simp[-getElem?_pos];refine qc.call hval (by simp) ?_;simp[-getElem?_pos,hv,this]
 by_cases hn2:n<=262144
 case neg=>
  have:Q=fun r _=>r=.tup [.nilp,.int .i64 1]:=by rw[hQ];funext r U;unfold qp4;rw[if_neg (by simp[qeU];omega)]
  have hn3:(262144:Int)<n:=by omega
  simp only[qJ]at hval;simp[-getElem?_pos];refine qc.call hval (by simp) ?_;simp[-getElem?_pos,hv,hn3,this]
 have hn3:¬ (262144:Int)<n:=by omega
 simp only[qJ]at hval;simp[-getElem?_pos];refine qc.call hval (by simp) ?_;simp[-getElem?_pos,hv,hn3,hnn];refine qL.listR l (fun d ev U=>ev 1=.sl 4 (l.map qs) .none/\ev 2=.int .i64 n/\ev 3=.ptr H.length 0/\ev 24=.sl 4 (l.map qs) .none/\ev 25=.int .i64 l.length/\ev 26=.int .i64 d.length/\(∃ H',U=⟨H',T⟩/\H'[H.length]?=some (.cells (qJ p)))/\∀ e∈d,wS p.vars e=true) ?_ ?_ ?_
 . refine⟨by simp,by simp,by simp,by simp,by simp,by simp,⟨_,rfl,?_⟩,by simp⟩;simp
 . rintro d e rest ev U R hR hd hxe hlt ⟨e1,e2,e3,e24,e25,e26,⟨H',rfl,hP⟩,hall⟩;have hm:=qp6 hxe;obtain⟨hwe,hh,hsz⟩:=hx e hm;have hkn:=qlt p e hfv hwe (by omega) hsz;have hdw:=wr (n:=(d.length:Int)+1) (by unfold Fits at hfl;omega) (by unfold Fits at hfl;omega);simp only[qJ]at hkn hP;simp[-getElem?_pos,e3,e24,e25,e26,hlt,hxe,qa hP,qd e];rw[<- qd e];refine qc.call hkn (by simp) ?_
   cases hk:wS p.vars e with
   | false=>
    have:Q=fun r _=>r=.tup [.nilp,.int .i64 1]:=by
     rw[hQ];funext r U;unfold qp4;have hb:qeU p l n=false:=by
      have:l.all (wS p.vars)=false:=qtf.2 ⟨e,hm,by simp[hk]⟩;simp[qeU,this]
     rw[hb];simp
    simp[-getElem?_pos,this]
   | true=>
    simp[-getElem?_pos,e26,hdw];refine hR _ _ ⟨by simp[e1],by simp[e2],by simp[e3],by simp[e24],by simp[e25],by simp,⟨_,rfl,qa hP _⟩,fun x hx=>?_⟩;rcases qqo.1 hx with hx|hx
    . exact hall x hx
    . simp only[qqv,qry,or_false]at hx;rw[hx];exact hk
 . rintro ev U ⟨e1,e2,e3,e24,e25,e26,⟨H',rfl,hP⟩,hall⟩;have hbeg:qeU p l n=true:=by
    have:l.all (wS p.vars)=true:=qqi.2 hall;simp[qeU,this,hv];omega
   have hQ':Q=fun r U'=>∃ F A t,r=.tup [.ptr F 0,.int .i64 0]/\FndR F A t p l (qP p.vars) false n U'.H/\A<U'.H.length:=by
    rw[hQ];funext r U;unfold qp4;rw[if_pos hbeg]
   rw[hQ'];clear hQ' hQ;simp only[qJ]at hP;by_cases hv0:p.vars=[]
   . rw[hv0]at hP;simp only[qqF]at hP;simp[-getElem?_pos,e25,e26];rw[qG rfl];simp[-getElem?_pos,qM,e1,e2,e3,hP,qa hP,hv0,qw,qV,zu,qv];have hst:qP p.vars=[]:=(by rw[hv0];rfl);refine⟨?_,?_⟩
     all_goals
      refine qL.gen (fun m ev U=>ev 10=.ptr H'.length 0/\ev 46=.int .i64 0/\ev 47=.int .i64 0/\U=⟨H'++[.cells [.sl 4 [] .none,.sl 4 (p.hard.map qs) .none,.sl 4 (p.soft.map qs) .none,.sl 2 (p.dists.map zM) .none,.sl 1 (p.groups.map zc) .none,.sl 4 (l.map qs) .none,.sl 1 [] (.chain T.length 0),.bool false,.int .i64 n]],T++[some 0]⟩) 0 ⟨by simp,by simp,by simp,rfl⟩ ?_;rintro m ev U R hR ⟨f10,f46,f47,rfl⟩;simp[-getElem?_pos,f10,f46,f47];refine⟨H'.length,⟨T.length,?_,fun h=>absurd rfl h⟩,by simp⟩;simp[hv0,qad,qP]
   . have hpos:=qql.2 hv0;have hne:¬ (p.vars.length:Int)=0:=(by omega);have hv1:(p.vars.length:Int)<=549755813888:=(by have:=h.vars;omega);simp[-getElem?_pos,e25,e26];rw[qG rfl];simp[-getElem?_pos,qM,e1,e2,e3,hP,qa hP,hv0,hv1,qw,qV,zu,qv];have hvl:p.vars.length<=1000:=h.vars;refine⟨?_,?_⟩
     all_goals
      refine qL.listR p.vars (fun d ev U=>ev 10=.ptr (H'.length+1) 0/\ev 45=.sl 4 (p.vars.map qo) .none/\ev 46=.int .i64 p.vars.length/\ev 47=.int .i64 d.length/\∃ H3,U=⟨H3,T⟩/\H'.length<H3.length/\FndR (H'.length+1) H'.length T.length p l (qP d++List.replicate (p.vars.length-d.length) 0) false n H3) ?_ ?_ ?_
      . refine⟨by simp,by simp,by simp,by simp,_,rfl,by simp,⟨?_,fun _=>?_⟩⟩
        . have hz:qP []++List.replicate (p.vars.length-([]:List Var).length) (0:Int)≠[]:=fun e=>by
           have:=congrArg List.length e;simp[qP]at this
           first | omega | exact hv0 (by simpa using this)
          have hzl:(qP []++List.replicate (p.vars.length-([]:List Var).length) (0:Int)).length=p.vars.length:=(by simp[qP]);rw[KX,qad,if_neg hz,hzl];simp
        . simp[qP,zF]
      . rintro d v rest ev U R hR hd hxv hlt ⟨f10,f45,f46,f47,H3,rfl,hAl,hfr⟩;have hdw:=wr (n:=(d.length:Int)+1) (by omega) (by omega);have hrl:List.replicate (p.vars.length-d.length) (0:Int)=0::List.replicate (p.vars.length-(d.length+1)) 0:=by
         rw[show p.vars.length-d.length=(p.vars.length-(d.length+1))+1 by omega,qrr]
        rw[hrl]at hfr;have hsd:qP (d++[v])=qP d++[if v.mode=0 then v.value else 0]:=(by simp[qP]);have hsl:(qP d).length=d.length:=(by simp[qP]);have hnext:∀ x:Int,qP d++x::List.replicate (p.vars.length-(d.length+1)) 0=(qP d++[x])++List.replicate (p.vars.length-(d.length+1)) 0:=fun x=>by simp
        have hzl:∀ x:Int,(qP d++x::List.replicate (p.vars.length-(d.length+1)) 0).length=p.vars.length:=fun x=>by simp[hsl];omega
        have hz:∀ x:Int,qP d++x::List.replicate (p.vars.length-(d.length+1)) 0≠[]:=fun x=>by simp
        have hF3:=hfr.f;have hA3:=hfr.r (hz 0);have hrow:∀ x:Int,qad H'.length T.length (qP d++x::List.replicate (p.vars.length-(d.length+1)) 0)=.ms H'.length 0 p.vars.length 1:=fun x=>by rw[qad,if_neg (hz x),hzl]
        rw[KX,hrow]at hF3;have hA3l:=(qp5.1 hA3).1;have hml:d.length+1<=p.vars.length:=(by omega);by_cases hm0:v.mode=0
        . rw[if_pos hm0]at hsd;have hlenA:(zF (qP d++0::List.replicate (p.vars.length-(d.length+1)) 0)).length=p.vars.length:=(by rw[qY,hzl]);have hset:(zF (qP d++0::List.replicate (p.vars.length-(d.length+1)) 0)).set d.length (.int .i64 v.value)=zF (qP d++v.value::List.replicate (p.vars.length-(d.length+1)) 0):=by
           rw[yD,qrb _ _ (by omega),hsl,qrl];rfl
          simp[-getElem?_pos,f45,f46,f47,hlt,hxv,hm0];rw[qG rfl];simp[-getElem?_pos,qM,f10,f47,qa hF3,qa hA3,hlt,hlenA,hset,hml,hdw];refine hR _ _ ⟨by simp[f10],by simp[f45],by simp[f46],by simp,_,rfl,by simp;omega,?_⟩;rw[hsd,qqb,qqA,<- hnext];refine⟨?_,fun _=>?_⟩
          . rw[KX,hrow,qp7 (by omega)];exact qa hF3 _
          . exact qqa (by simp;omega)
        . rw[if_neg hm0]at hsd;simp[-getElem?_pos,f45,f46,f47,hlt,hxv,hm0,hdw];refine hR _ _ ⟨by simp[f10],by simp[f45],by simp[f46],by simp,_,rfl,by simp;omega,?_⟩;rw[hsd,qqb,qqA,<- hnext];exact hfr.look _
      . rintro ev U ⟨f10,f45,f46,f47,H3,rfl,hAl,hfr⟩;rw[qrl,qs6,qqP]at hfr;simp[-getElem?_pos,f10,f46,f47];exact⟨H'.length,⟨T.length,hfr⟩,hAl⟩
theorem zE {p:Problem}(h:qi p=0):∀ v∈p.vars,jL v=0:=by
 have hv:z8 p.vars=0:=by
  unfold qi at h;split at h
  . exact absurd h (by assumption)
  . rename_i h1;exact qqN.1 h1
 unfold z8 at hv;split at hv
 . cases hv
 . split at hv
   . rename_i h1;exact absurd hv h1
   . rename_i h1;exact zf.1 (qqN.1 h1)
theorem kw:∀ (a:List Int),zF a=a.flatMap qy
 | []=>rfl
 | x::r=>by
  have:=kw r;rw[qqs,<- this];rfl
noncomputable def Jw (p:Problem)(l:List Ex)(n:Nat):List Int×Int :=
 if qeU p l n=true then (match qb5 p.vars l n (qP p.vars) with
  | (some a,_)=>(a,0)
  | (none,true)=>([],11)
  | (none,false)=>([],18)) else ([],1)
theorem qlV (p:Problem)(l:List Ex)(n:Nat)(h:VQ p)(hfl:Fits l)(hx:∀ e∈l,Wen e/\hgt e<=1000/\(pre e).length<=100000)(hn:n<4611686018427387904) :
 Pure Tryz.prog GG 121 [.agg (qJ p),.sl 4 (l.map qs) .none,.int .i64 n] (.tup [.sl 1 ((Jw p l n).1.map qy) .none,.int .i64 (Jw p l n).2]):=by
 refine Pure.kO o0 true qe Tryz.func121 rfl (by kernel_rfl) ?_;have hb:=qmx p l n h hfl hx hn [.cells (qJ p)] [];simp only[qJ]at hb;simp[-getElem?_pos];refine qc.acall hb ?_;rintro v ⟨H1,T1⟩ hq;unfold qp4 at hq;by_cases hg:qeU p l n=true
 . rw[if_pos hg]at hq;obtain⟨F,A,t,rfl,hfr,hAl⟩:=hq;simp only at hfr hAl;have hv:qi p=0:=by
    simp only[qeU,qp9,decide_eq_true_eq]at hg;exact hg.1
   have hn2:n<=262144:=by
    simp only[qeU,qp9,decide_eq_true_eq]at hg;omega
   have hw:∀ v∈p.vars,0<=v.width/\v.width<=28:=fun v hm=>by have:=qU (zE hv v hm);omega
   have hh:=hit327 T1 hfr hAl hn2 h.vars (YT p.vars) hw hx hfl;have hFA:Jw p l n=(match qb5 p.vars l n (qP p.vars) with
    | (some a,_)=>(a,0)
    | (none,true)=>([],11)
    | (none,false)=>([],18)):=if_pos hg
   rw[hFA];generalize qb5 p.vars l n (qP p.vars)=s at *;simp[-getElem?_pos];refine qc.acall hh ?_;rintro v2 ⟨H2,T2⟩ ⟨hk,⟨va,n',hF2⟩,hres⟩;simp only[KX]at hF2;rcases hres with ⟨a,bh,vh,hs,rfl,hrow⟩|⟨hs,rfl⟩
   . obtain⟨s1,s2⟩:=s;simp only at hs;subst hs;simp only at hrow;simp[-getElem?_pos];rcases hrow with ⟨rfl,sz,tok,rfl⟩|⟨ha0,rfl,hbc⟩
     . have hc:∀ H t k,frz H 7 (.sl sz [] (.chain t k))=.sl sz [] .none:=fun H t k=>by rw[frz];simp[qC]
       cases tok with
       | chain t k=>
        rw[frz,if_neg (by simp[qC,qq])];simp only[qqk,qqF,hc,wU,qC,qq,Leq,zm];simp[qQ]
       | none=>rw[qt (by simp)];exact⟨by simp,by simp[Leq,zm]⟩
       | nil=>rw[qt (by simp)];exact⟨by simp,by simp[Leq,zm]⟩
       | tight=>rw[qt (by simp)];exact⟨by simp,by simp[Leq,zm]⟩
     . have ho:jw bh 1 qy H2 (.ms bh 0 a.length 1) a:=.inr ⟨ha0,rfl,by
        rw[hbc,kw]⟩
       have f1:=ho.frz (fun x=>by simp) (fun x=>by simp) (fun x=>by simp) 6;have f2:=ho.frzNo (fun x=>by simp) (fun x=>by simp) (fun x=>by simp) 6;rw[frz,if_neg (by simp[qC,qq])];simp only[qqk,qqF,wU,qC,qq,Leq,zm,qrP,and_true];exact⟨f2,f1⟩
   . obtain⟨s1,s2⟩:=s;simp only at hs hF2;subst hs;cases s2
     . simp[-getElem?_pos,hF2];rw[qt (by simp)];exact⟨by simp,by simp[Leq,zm]⟩
     . simp[-getElem?_pos,hF2];rw[qt (by simp)];exact⟨by simp,by simp[Leq,zm]⟩
 . rw[if_neg hg]at hq;subst hq;have hFA:Jw p l n=([],1):=if_neg hg;rw[hFA];simp[-getElem?_pos];rw[qt (by simp)];exact⟨by simp,by simp[Leq,zm]⟩
theorem qpN (p:Problem)(h:VQ p)(hv20:p.vars.length<=20):Pure Tryz.prog GG 166 [.agg (qJ p)] (.int .i64 (yB p.vars (qz p))):=by
 refine Pure.vc qe Tryz.func166 rfl (by kernel_rfl) ?_;have hv:=qhD p h;have hlen:=Jr p hv20;have hrg:∀ i∈qz p,0<=i/\i<p.vars.length:=fun i hi=>Zg hi
 simp only[qJ]at hv;generalize qz p=R at hv hlen hrg ⊢;simp;refine qb.call hv (by simp) ?_
 try simp
 refine qD.intro (fun q env U=>∃ i,i<=R.length/\q=R.length-i/\env 1=.ptr 0 0/\env 3=.int .i64 (yB p.vars (R.take i))/\env 7=.sl 1 (R.map qy) .none/\env 8=.int .i64 R.length/\env 9=.int .i64 i/\U=⟨[.cells (qJ p)],[]⟩) R.length ⟨0,by simp[yB]⟩ ?_;rintro q env U ⟨i,hi,rfl,h1,h3,h7,h8,h9,rfl⟩
 cases hvi:R[i]? with
 | some v=>
  obtain⟨hc,hv'⟩:=qp5.1 hvi;obtain⟨r1,r2⟩:=hrg v (qp6 hvi);obtain⟨j,rfl⟩:=qqM r1;have hj:j<p.vars.length:=by omega
  have hs:=qdC (l:=p.vars) hvi;simp only[qq7]at hs;rw[Ya hj]at hs;simp[h1,h3,h7,h8,h9,hc,hv',hj];exact⟨_,by omega,i+1,by omega,rfl,by rw[hs],wr (by omega) (by omega)⟩
 | none=>
  have hc:¬ i<R.length:=by simp at hvi;omega
  have ht:R.take i=R:=qqg (by omega);rw[ht]at h3;simp[h1,h3,h7,h8,h9,hc]
theorem qjB (p:Problem)(h:VQ p)(hv20:p.vars.length<=20)(h0:0<=yB p.vars (qz p))(h28:yB p.vars (qz p)<=28):Pure Tryz.prog GG 122 [.agg (qJ p)] (.int .i64 ((2 ^ (yB p.vars (qz p)).toNat:Nat):Int)):=by
 refine Pure.k qe Tryz.func122 rfl (by kernel_rfl) ?_;have hb:=qpN p h hv20;have hs:=kg h0 h28;generalize yB p.vars (qz p)=B at *;have hn:¬ B<0:=by omega
 generalize hN:2 ^ B.toNat=N at *;simp only[qJ]at hb;simp[-getElem?_pos];refine qc.call hb (by simp) ?_;simp[-getElem?_pos,hn,IntKind.bits,hs]
section
def Jq (q:Str×AV×Nat):AV×AV×Nat:=(.str q.1,q.2.1,q.2.2)
theorem Q6 {s:Str}:∀ (E:List (Str×AV×Nat)) (k:Nat),(jD (.str s) (E.map Jq) k=some none/\∀ q∈E,q.1≠s)\/∃ j q,E[j]?=some q/\q.1=s/\jD (.str s) (E.map Jq) k=some (some (k+j,q.2.1))
 | [],k=>.inl ⟨rfl,by simp⟩
 | e::E,k=>by
  by_cases h:s=e.1
  . right;refine⟨0,e,rfl,h.symm,?_⟩;simp[jD,Jq,Qz,h]
  . have h':(s==e.1)=false:=(by simpa using h);rcases Q6 (s:=s) E (k+1) with ⟨h1,h2⟩|⟨j,q,h1,h2,h3⟩
    . left;refine⟨by simp[jD,Jq,Qz,h'];simpa[Jq] using h1,fun q hq=>?_⟩;rcases qqv.1 hq with rfl|hq
      . exact fun e=>h e.symm
      . exact h2 q hq
    . right;refine⟨j+1,q,by simpa using h1,h2,?_⟩;simp only[qqk,Jq,jD,Qz,h'];have:k+(j+1)=k+1+j:=by omega
      rw[this];exact h3
def vG (vs:List Var):List (Str×AV×Nat):=vs.zipIdx.map fun q=>(q.1.name,.int .i64 (q.2:Int),q.2)
def vg (vs:List Var):Blk:=.map ((vG vs).map Jq) vs.length
theorem qdu {vs:List Var}{j:Nat}{q:Str×AV×Nat}(h:(vG vs)[j]?=some q):∃ v,vs[j]?=some v/\q=(v.name,.int .i64 (j:Int),j):=by
 unfold vG at h;rw[qqp,qsj]at h
 cases hv:vs[j]? with
 | none=>rw[hv]at h;simp at h
 | some v=>rw[hv]at h;simp at h;exact⟨v,rfl,h.symm⟩
theorem qdt {vs:List Var}(hn:(vs.map (·.name)).Nodup){i:Nat}{v:Var}(hv:vs[i]?=some v)(k:Nat):jD (.str v.name) ((vG vs).map Jq) k=some (some (k+i,.int .i64 (i:Int))):=by
 rcases Q6 (s:=v.name) (vG vs) k with ⟨_,h2⟩|⟨j,q,h1,h2,h3⟩
 . exfalso;have hm:(v.name,AV.int .i64 (i:Int),i)∈vG vs:=qqx.2 ⟨(v,i),qp6 (i:=i) (by rw[qsj,hv];simp),rfl⟩;exact h2 _ hm rfl
 . obtain⟨w,hw,rfl⟩:=qdu h1;have hij:j=i:=by
    obtain⟨hj1,hj2⟩:=qp5.1 hw;obtain⟨hi1,hi2⟩:=qp5.1 hv;have h2:w.name=v.name:=h2;have hp:=qrV.1 hn;rcases Nat.lt_trichotomy j i with h|h|h
    . exact absurd (by rw[qrA,qrA,hj2,hi2,h2]) (hp j i (by simpa using hj1) (by simpa using hi1) h)
    . exact h
    . exact absurd (by rw[qrA,qrA,hj2,hi2,h2]) (hp i j (by simpa using hi1) (by simpa using hj1) h)
   subst hij;exact h3
structure PB (p:Problem)(lv:List Int)(c:Bc):Prop where
 rest:c.rest=qJ p++[.sl 1 (lv.map qy) .none,.map c.M]
 mp:c.mp=vg p.vars
 len:lv.length=p.vars.length
 few:p.vars.length<=1000
 vars:∀ v∈p.vars,jL v=0
 nodup:(p.vars.map (·.name)).Nodup
 lev:∀ (i:Nat) (v:Var) (l:Int),p.vars[i]?=some v->lv[i]?=some l->v.mode≠0->0<=l/\l+v.width<=20
def qg7 (v:Var)(l:Int)(b:Nat->Bool):Int:=if v.mode=0 then v.value else (zo (fun k=>b (l.toNat+v.width.toNat-1-k)) v.width.toNat:Nat)
theorem W5 {v:Var}(h:jL v=0):0<=v.value/\v.value<65536:=by
 have h1:=qU h;unfold jL at h;split at h
 . cases h
 . split at h
   . cases h
   . rename_i hc;have:(2:Int) ^ v.width.toNat<=2 ^ 8:=by
      have:v.width.toNat<=8:=by omega
      have h2:(2:Nat) ^ v.width.toNat<=2 ^ 8:=qqu (by omega) this;have h3:((2 ^ v.width.toNat:Nat):Int)<=((2 ^ 8:Nat):Int):=Int.ofNat_le.2 h2;simpa using h3
     omega
theorem qcf {vs:List Var}{m:Nat}{U:St}(hm:U.H[m]?=some (vg vs))(hn:(vs.map (·.name)).Nodup){i:Nat}{v:Var}(hv:vs[i]?=some v):zx (Dof Tryz.prog) U 214 (.map m) (.str v.name) false=some (.int .i64 (i:Int)):=by
 have:=qdt hn hv 0;unfold vg at hm;generalize (vG vs).map Jq=E at *;simp[zx,hm,zC,this]
theorem qfm {w:Nat}(f:Nat->Bool):∀ {n:Nat},w<=n->zo (fun j=>decide (j<w)&&f j) n=zo f w:=fun {n} h=>by
 apply qrN;intro i;rw[qW,qW];by_cases h1:i<w
 . have:i<n:=by omega
   simp[h1,this]
 . simp[h1]
section
variable {c:Bc}{d:List Nd}{H:List Blk}{T:List (Option Nat)}
def qkW:List (Nat×Sch×List Nat):=[(9,.step 0 [25,24] (.step 1 [25,24,23] (.step 2 [25,24,23,22,21,20,19,5,4,3] (.step 3 [25,24,23,22,21,20,19,5,4] (.step 4 [25,24,23,22,21,20,19,5] (.step 5 [25,24,23,22,21,20,19] (.step 6 [25,24,23,22,21,20,19,18,16,15,12,11,9,8,7] (.step 7 [25,24,23,22,21,20,19,18,16,15,12,11,9,8] (.step 8 [25,24,23,22,21,20,19,18,16,15,12,11,9] (.step 9 [25,24,23,22,21,20,19,18,16,15,12,11] (.step 10 [25,24,23,22,21,20,19,18,16,15,12,11] (.step 11 [25,24,23,22,21,20,19,18,16,15,12] (.step 12 [25,24,23,22,21,20,19,18,16,15] (.step 13 [25,24,23,22,21,20,19,18,16,15,14] (.step 14 [25,24,23,22,21,20,19,18,16,15] (.step 15 [25,24,23,22,21,20,19,18,16] (.step 16 [25,24,23,22,21,20,19,18] (.step 17 [25,24,23,22,21,20,19,18] (.step 18 [25,24,23,22,21,20,19] (.step 19 [25,24,23,22,21,20] (.step 20 [25,24,23] (.step 21 [25,24,23] (.step 22 [25,24,23] (.step 23 [25,24] (.step 24 [25] (.step 25 [] (.done)))))))))))))))))))))))))),[19,23])]
theorem qcd (h:BX c H d H){p:Problem}{lv:List Int}(hp:PB p lv c){i:Nat}{v:Var}{l:Int}(hv:p.vars[i]?=some v)(hl:lv[i]?=some l) :
 qg Tryz.prog (XG c) 231 [.ptr c.B 0,.str v.name] ⟨H,T⟩ (WQ c d H fun b=>qg7 v l b):=by
 refine qg.kO ⟨false,qkW,[],[]⟩ qe Tryz.func231 rfl (by kernel_rfl) ?_;have hk:∀ j,H.length<=j->j≠c.B:=fun j hj=>(h.at hj).1
 obtain⟨tok,hb⟩:=h.b;have hm:=h.m;rw[hp.rest]at hb;rw[hp.mp]at hm;have hlook:=fun (u:List Blk) (T:List (Option Nat))=>qcf (U:=⟨H++u,T⟩) (qa hm u) hp.nodup hv
 have hve:=hp.vars v (qp6 hv);have hvw:=qU hve;have hvv:=W5 hve;have hil:=(qp5.1 hv).1;have hill:i<lv.length:=by rw[hp.len];exact hil
 simp only[qJ,qqB,qqw]at hb;simp[-getElem?_pos,qa hb,hlook,hv,jy];by_cases hm0:v.mode=0
 . have hc:=yb v.value.toNat (by omega);rw[Int.toNat_of_nonneg hvv.1]at hc;have hVl:((List.range 16).map fun k=>if v.value.toNat.testBit k=true then 1 else 0).length=16:=(by simp);have hwo:=Ky h.ok v.value.toNat;have hval:=fun b=>Z9 h.ok b (n:=v.value.toNat) (by omega)
   generalize ((List.range 16).map fun k=>if v.value.toNat.testBit k=true then 1 else 0)=V at *;simp[-getElem?_pos,hm0];refine qc.call hc (by simp) ?_;simp[-getElem?_pos,hVl,qm hVl,zl hVl (show (qu zb).length=16 from rfl),qO];refine⟨d,V,rfl,h.app _,q9.refl d,hwo,fun b=>?_⟩;unfold zU qg7;dsimp only;rw[if_pos hm0,hval b];omega
 . have hlev:=hp.lev i v l hv hl hm0;have hwn:v.width=(v.width.toNat:Int):=(by omega);have hln:l=(l.toNat:Int):=(by omega);generalize hwN:v.width.toNat=w at *;generalize hlN:l.toNat=L at *;have hgl:∀ u:List Blk,True:=fun _=>trivial
   have hl':lv[i]?=some (L:Int):=(by rw[hl,hln]);simp[-getElem?_pos,hm0,hwn];refine kx w (fun k ev U=>ev 0=.ptr c.B 0/\ev 4=.ptr H.length 0/\ev 5=.int .i64 (i:Int)/\ev 6=.ptr (H.length+1) 0/\ev 7=.ptr (H.length+2) 0/\ev 30=.int .i64 (w:Int)/\ev 31=.int .i64 (k:Int) /\
    ∃ d' W,BX c H d' U.H/\q9 d d'/\qZ d' W/\U.H[H.length]?=some (.cells (qu zb))/\U.H[H.length+1]?=some (.cells (qo v))/\U.H[H.length+2]?=some (.cells (qu W)) /\
     ∀ b j,j<16->qn d' b W j=(decide (j<k)&&b (L+w-1-j))) ?_ ?_ ?_
   . refine⟨by simp,by simp,by simp,by simp,by simp,by simp,by simp,d,zb,h.app _,q9.refl d,kI h.ok,lk0,?_,lk2,fun b j hj=>by rw[yV h.ok];simp⟩;have:=lk1 (H:=H) (p:=Blk.cells (qu zb)) (q:=Blk.cells (qo v)) (t:=[.cells (qu zb)]);simp only[qo,hwn]at this ⊢;exact this
   . rintro k ev ⟨H1,T1⟩ R hR hkw ⟨e0,e4,e5,e6,e7,e30,e31,d1,W,hx,hg,hW,bZ,bV,bW,hbits⟩;dsimp only at hx bZ bV bW;obtain⟨t1,hb1⟩:=hx.b;rw[hp.rest]at hb1;simp only[qJ,qqB,qqw]at hb1;simp only[qo,hwn]at bV;have hWl:=hW.1;have hk':(k:Int)<w:=(by omega);have hk16:k<16:=(by omega);have hk16':(k:Int)<16:=(by omega);have hk1:k+1<=16:=hk16;have hwk:=wr (n:=(k:Int)+1) (by omega) (by omega);have hw1:=wr (n:=(L:Int)+w) (by omega) (by omega);have hw2:=wr (n:=(L:Int)+w-1) (by omega) (by omega);have hw3:=wr (n:=(L:Int)+w-1-k) (by omega) (by omega);have hlevel:(L:Int)+w-1-k=((L+w-1-k:Nat):Int):=(by omega);rw[hlevel]at hw3;have hbit:=fun T=>(bit417 d1 hx.ok (L+w-1-k) (by omega) H1 T).leq (args:=[.agg [.sl 3 (d1.map qH) t1],.int .i64 ((L+w-1-k:Nat):Int)]) (by simp[zm,Leq,j6.refl])
     have hLv:∀ b:Nat->Bool,b (L+w-1-k)=b (L+w-1-k):=fun _=>rfl
     generalize hLL:L+w-1-k=LL at *;simp[-getElem?_pos,e30,e31,hk'];rw[qG rfl];simp[-getElem?_pos,qM,e0,e5,e6,hb1,bV,hl',hw1,hw2,hlevel,hw3];refine qc.acall (hbit T1).glo ?_;have hxc:=hx;rintro v2 ⟨H2,T2⟩ ⟨hk2,rfl|⟨d2,i2,t2,rfl,g2,hd2,hi2,hm2,hs2⟩⟩
     . simp[-getElem?_pos,qM];exact qc.acall (wz c (Q:=fun _ _=>False) (hx.same hk2).kp0 _ _) fun _ _ h=>h.elim
     . simp[-getElem?_pos,qM];refine qc.acall (ZU c (hx.self.same hk2) hd2 i2 _) ?_;rintro v3 ⟨H3,T3⟩ ⟨rfl,hxx⟩;have hx3:=hx.call hxx;have up:∀ {k:Nat} {x:Blk},H.length<=k->H1[k]?=some x->H3[k]?=some x:=fun {k x} hl hq=>hxx.loc hq (hk k hl)
       have cW:=up (by omega) bW;have hl3:=(qp5.1 cW).1;have hkl:k<W.length:=(by omega);simp[-getElem?_pos,qM,e7,e31,cW,hWl,hk16',hk1,yR,hwk];refine hR _ _ ⟨by simp[e0],by simp[e4],by simp[e5],by simp[e6],by simp[e7],by simp[e30],by simp,d2,W.set k i2,hx3.set (by omega) _,hg.trans g2,(hW.grown g2).set hi2,?_,?_,qqa hl3,fun b j hj=>?_⟩
       . rw[qp7 (by omega)];exact up (by omega) bZ
       . rw[qp7 (by omega)];have:=up (by omega) bV;simp only[qo,hwn]at this ⊢;exact this
       . rw[wF hkl];by_cases hjk:j=k
         . subst hjk;rw[if_pos rfl,hs2 b,hLL];have ht:=hx.ok.two
           cases hbb:b LL with
           | true=>simp[qc0 hx.ok]
           | false=>simp[JN hx.ok]
         . rw[if_neg hjk,zI hx.ok g2 hW b hj,hbits b j hj];by_cases h1:j<k
           . have h2:j<k+1:=(by omega);simp[h1,h2]
           . have h2:¬ j<k+1:=(by omega);simp[h1,h2]
   . rintro ev ⟨H1,T1⟩ ⟨e0,e4,e5,e6,e7,e30,e31,d1,W,hx,hg,hW,bZ,bV,bW,hbits⟩;dsimp only at hx bZ bV bW;have hWl:=hW.1;have hHl:=(qp5.1 bZ).1;simp[-getElem?_pos,e4,e7,e30,e31,bW,bZ,hWl,qm hWl,zl hWl (show (qu zb).length=16 from rfl),qO,hHl];refine⟨d1,W,rfl,hx.set (by omega) _,hg,hW,fun b=>?_⟩;unfold zU qg7;dsimp only;rw[if_neg hm0,hwN,hlN,zq (hbits b),qfm _ (by omega)]
end
end
section
def ZJ (vs:List Var)(lv:List Int)(b:Nat->Bool):List Int:=(vs.zip lv).map fun q=>qg7 q.1 q.2 b
theorem J8 {vs:List Var}{lv:List Int}(h:lv.length=vs.length)(b:Nat->Bool):(ZJ vs lv b).length=vs.length:=by simp[ZJ,h]
theorem qdf {vs:List Var}{lv:List Int}{i:Nat}{v:Var}{l:Int}(hv:vs[i]?=some v)(hl:lv[i]?=some l)(b:Nat->Bool):(ZJ vs lv b)[i]?=some (qg7 v l b):=by
 unfold ZJ;rw[qqp,qrc (z:=(v,l)) |>.2 ⟨hv,hl⟩];rfl
theorem vV:∀ {vs:List Var} {a:List Int} {i:Nat} {v:Var} {x:Int},(vs.map (·.name)).Nodup->vs[i]?=some v->a[i]?=some x->zV ((vs.zip a).map fun q=>⟨q.1.name,q.2⟩) v.name=some (qN x)
 | [],_,i,v,x,_,hv,_=>by simp at hv
 | w::vs,[],i,v,x,_,_,hx=>by simp at hx
 | w::vs,y::a,0,v,x,hn,hv,hx=>by
  simp at hv hx;subst hv hx;simp[zV]
 | w::vs,y::a,i+1,v,x,hn,hv,hx=>by
  simp only[qqk,qro]at hn;have ih:=vV (vs:=vs) (a:=a) (i:=i) (v:=v) (x:=x) hn.2 (by simpa using hv) (by simpa using hx);have hne:¬ w.name=v.name:=fun e=>hn.1 (qqx.2 ⟨v,qp6 (i:=i) (by simpa using hv),e.symm⟩)
  have hne':(w.name==v.name)=false:=by simpa using hne
  unfold zV at ih ⊢;simp only[qsO,qqk,qsb,hne'];exact ih
theorem qfo {v:Var}(h:jL v=0)(l:Int)(b:Nat->Bool):0<=qg7 v l b/\qg7 v l b<=65535:=by
 have h1:=W5 h;have h2:=qU h;unfold qg7;split
 . omega
 . have:=ke (fun k=>b (l.toNat+v.width.toNat-1-k)) v.width.toNat;have h3:2 ^ v.width.toNat<=2 ^ 8:=qqu (by omega) (by omega);omega
theorem qiW {p:Problem}{lv:List Int}(hl:lv.length=p.vars.length)(hn:(p.vars.map (·.name)).Nodup)(hve:∀ v∈p.vars,jL v=0){i:Nat}{v:Var}{l:Int}(hv:p.vars[i]?=some v)(hli:lv[i]?=some l)(b:Nat->Bool) :
 (zV (kE p.vars (ZJ p.vars lv b)) v.name).getD 0=qg7 v l b:=by
 have h1:=vV hn hv (qdf hv hli b);unfold kE;rw[if_pos (J8 hl b),h1];have h2:=qfo (hve v (qp6 hv)) l b;exact Q2 h2.1 h2.2
theorem YL {V:List Nat}(hV:V.length=16):∀ {Ws:List (List Nat)} {i:Nat},(∀ w∈Ws,w.length=16)->i<Ws.length->zt (Ws.flatMap qu) (i*16) (qu V)=(Ws.set i V).flatMap qu
 | [],i,_,h=>by simp at h
 | a::r,0,h,_=>by
  rw[qqs,qrG,qtc,qqs];exact wK _ _ _ (by rw[jt,jt,h a (by simp),hV])
 | a::r,i+1,h,hi=>by
  have hi':i<r.length:=by simpa using hi
  rw[qqs,qsu,qqs,<- YL hV (Ws:=r) (i:=i) (fun w hw=>h w (by simp[hw])) hi',qsM,qrO];have:=vL (c:=r.flatMap qu) (qu V) (qu a) (i*16)
  rwa[jt,h a (by simp)]at this
def qgF (p:Problem)(e:Ex):Prop:=∀ x∈pre e,qr x=0/\x.op≠3/\x.op≠24/\(x.op=2->vC p.vars x.name=true)/\x.args.length<=1000
theorem qgF.arg {p:Problem}{e a:Ex}(h:qgF p e)(ha:a∈e.args):qgF p a:=fun x hx=>h x (by rw[jc];exact qrn _ (wR.2 ⟨a,ha,hx⟩))
theorem qgF.self {p:Problem}{e:Ex}(h:qgF p e):qr e=0/\e.op≠3/\e.op≠24/\(e.op=2->vC p.vars e.name=true)/\e.args.length<=1000:=h e (by rw[jc];simp)
section
variable {c:Bc}{d:List Nd}{H:List Blk}{T:List (Option Nat)}
def qd0:List (Nat×Sch×List Nat):=[(13,.step 1 [8,7,6,5] (.step 2 [8,7,6,5,4,3] (.step 3 [8,7,6,5,4] (.step 4 [8,7,6,5] (.fork (.cons 0 (.step 5 [8,7,6] (.step 6 [8,7] (.step 7 [8] (.step 8 [] (.done))))) (.cons 5 (.step 0 [8,7,6] (.step 6 [8,7] (.step 7 [8] (.step 8 [] (.done))))) (.nil))))))),[5,6]),(15,.step 0 [5,4] (.step 1 [5,4,3,2] (.step 2 [5,4,3] (.step 3 [5,4] (.step 4 [5] (.step 5 [] (.done)))))),[4]),(17,.step 0 [6,5] (.step 1 [6,5] (.step 2 [6,5,4,3] (.step 3 [6,5,4] (.step 4 [6,5] (.step 5 [6] (.step 6 [] (.done))))))),[5]),(19,.step 0 [5,4] (.step 1 [5,4,3,2] (.step 2 [5,4,3] (.step 3 [5,4] (.step 4 [5] (.step 5 [] (.done)))))),[4]),(21,.step 0 [8,7,6] (.step 1 [8,7,6,3,2] (.step 2 [8,7,6,3] (.step 3 [8,7,6] (.step 4 [8,7,6,5] (.step 5 [8,7,6] (.step 6 [8,7] (.step 7 [8] (.step 8 [] (.done))))))))),[6]),(23,.step 0 [6,4] (.step 1 [6,4,3,2] (.step 2 [6,4,3] (.step 3 [6,4] (.fork (.cons 4 (.step 5 [6] (.step 6 [] (.done))) (.cons 5 (.step 4 [6] (.step 6 [] (.done))) (.nil))))))),[4]),(24,.step 0 [8,7,2,1] (.step 1 [8,7,2] (.step 2 [8,7] (.step 3 [8,7,5,4] (.step 4 [8,7,5] (.step 5 [8,7] (.step 6 [8,7] (.step 7 [8] (.step 8 [] (.done))))))))),[7]),(25,.step 0 [10,9] (.step 1 [10,9,2] (.step 2 [10,9] (.step 3 [10,9,5,4] (.step 4 [10,9,5] (.step 5 [10,9] (.step 6 [10,9,8,7] (.step 7 [10,9,8] (.step 8 [10,9] (.step 9 [10] (.step 10 [] (.done))))))))))),[9])]
theorem qak (h:BX c H d H){p:Problem}{lv:List Int}(hp:PB p lv c)(e:Ex)(he:qgF p e)(h0:e.args=[]) :
 qg Tryz.prog (XG c) 178 [.ptr c.B 0,.agg (qs e)] ⟨H,T⟩ (WQ c d H fun b=>yo (kE p.vars (ZJ p.vars lv b)) e):=by
 refine qg.kO ⟨false,qd0,[],[]⟩ qe Tryz.func178 rfl (by kernel_rfl) ?_;obtain⟨hn,h3,h24,h2,_⟩:=he.self;obtain⟨o1,o2,o3,o4,o5,o6,o7,o8⟩:=jo hn;have hop:e.op=1\/e.op=2:=by
  unfold qj at o5;rw[h0]at o5;split at o5
  . simp at o5
  . simp only[qqK,qrz,decide_eq_true_eq]at o5;unfold zy at o5
    repeat' split at o5
    all_goals omega
 have hk:∀ j,H.length<=j->j≠c.B:=fun j hj=>(h.at hj).1
 have henc:=qd e;rw[h0]at henc;simp only[qqF]at henc;rw[henc];simp[-getElem?_pos,qw,jy,qO];have hx1:=h.app [.cells [.ptr c.B 0],.cells [.int .i64 e.op,.int .i64 e.n,.str e.name,.sl 4 [] .none],.cells (qu zb)];refine qL.gen (fun n ev U=>ev 2=.ptr H.length 0/\ev 3=.ptr (H.length+1) 0/\ev 4=.ptr (H.length+2) 0/\ev 15=.int .i64 0/\ev 16=.int .i64 0/\BX c H d U.H/\U.H[H.length]?=some (.cells [.ptr c.B 0])/\U.H[H.length+1]?=some (.cells [.int .i64 e.op,.int .i64 e.n,.str e.name,.sl 4 [] .none])/\U.H[H.length+2]?=some (.cells (qu zb))) 0 ?_ ?_
 . exact⟨by simp,by simp,by simp,by simp,by simp,hx1,lk0,lk1,lk2⟩
 rintro n ev ⟨H1,T1⟩ R hR ⟨e2,e3,e4,e15,e16,hx,bB,bE,bZ⟩;dsimp only at hx bB bE bZ;have hZl:=(qp5.1 bZ).1;simp[-getElem?_pos,e2,e3,e4,e15,e16,bE];rcases hop with hop|hop
 . have hnn:=o3 hop;have hc:=yb e.n.toNat (by omega);rw[Int.toNat_of_nonneg hnn.1]at hc;have hVl:((List.range 16).map fun k=>if e.n.toNat.testBit k=true then 1 else 0).length=16:=(by simp);have hwo:=Ky h.ok e.n.toNat;have hval:=fun b=>Z9 h.ok b (n:=e.n.toNat) (by omega)
   generalize ((List.range 16).map fun k=>if e.n.toNat.testBit k=true then 1 else 0)=V at *;simp[-getElem?_pos,hop,e2,e3,e4,bE];refine qc.call hc (by simp) ?_;simp[-getElem?_pos,e2,e3,e4,bZ,hZl,hVl,qm hVl,zl hVl (show (qu zb).length=16 from rfl),qO];refine⟨d,V,rfl,hx.set (by omega) _,q9.refl d,hwo,fun b=>?_⟩;dsimp only;rw[yk];unfold zU Qw;rw[if_pos hop,hval b];omega
 . have hva:=h2 hop;unfold vC at hva;rw[qqr]at hva;obtain⟨v,hm,hvn⟩:=hva;have hvn:v.name=e.name:=(by simpa using hvn);obtain⟨i,hi⟩:=qqJ hm;have hil:=(qp5.1 hi).1;obtain⟨l,hl⟩:∃ l,lv[i]?=some l:=⟨_,qp8 (by rw[hp.len];exact hil)⟩;have hw:=qcd hx.self hp hi hl (T:=T1);rw[hvn]at hw;have ht:¬ e.op=1:=(by omega);simp[-getElem?_pos,hop,e2,e3,e4,bE,bB];refine qc.acall hw ?_;rintro vv ⟨H2,T2⟩ ⟨d2,W,rfl,hxx,hg2,hW,hv2⟩;dsimp only at hv2;have cZ:=hxx.loc bZ (hk _ (by omega));have hl2:=(qp5.1 cZ).1;dsimp only at cZ hl2;have hWl:=hW.1;simp[-getElem?_pos,e2,e3,e4,cZ,hl2,hWl,qm hWl,zl hWl (show (qu zb).length=16 from rfl),qO];refine⟨d2,W,rfl,(hx.call hxx).set (by omega) _,hg2,hW,fun b=>?_⟩;rw[hv2 b];dsimp only;rw[yk];unfold Qw;rw[if_neg ht,if_pos hop,<- hvn,qiW hp.len hp.nodup hp.vars hi hl b]
end
end
section
theorem qlU (n:Nat):(List.replicate n (qu zb)).flatten=(List.replicate n zb).flatMap qu:=by rw[qrQ,qsQ]
theorem qis {x:Nat}:∀ l:List Nat,jO (x:Int) (l.map fun n:Nat=>(n:Int))=qnk x l
 | []=>rfl
 | [_]=>rfl
 | a::b::r=>by
  simp only[qqk,jO,qnk,qis r];congr 2
  . rw[qq1,decide_eq_true_iff,decide_eq_true_iff];omega
  . rw[qq1,decide_eq_true_iff,decide_eq_true_iff];omega
section
variable {c:Bc}{d:List Nd}{H:List Blk}{T:List (Option Nat)}
theorem qjn (h:BX c H d H){h1 h2:Nat}{t x y:Nat}(b1:H[h1]?=some (.cells [.ptr c.B 0]))(b2:H[h2]?=some (.cells [.int .i64 (t:Int)]))(ht:t<d.length)(hx:x<d.length)(hy:y<d.length) :
 qg Tryz.prog (XG c) 239 [.int .i64 x,.int .i64 y,.ptr h1 0,.ptr h2 0] ⟨H,T⟩ (NQ c d H fun b=>evD d b t&&evD d b x||!evD d b t&&evD d b y):=by
 refine qg.k qe Tryz.func239 rfl (by kernel_rfl) ?_;simp[-getElem?_pos,b1,b2];refine qc.acall (qjm c h ht hx hy) ?_;rintro v ⟨H2,T2⟩ ⟨d2,y,rfl,hxx2,hg2,hy2,hv2⟩;simp[-getElem?_pos];exact⟨d2,y,rfl,hxx2,hg2,hy2,hv2⟩
theorem qaj (h:BX c H d H){p:Problem}{lv:List Int}(hp:PB p lv c)(e:Ex)(he:qgF p e)(h0:e.args≠[])
 (ih:∀ a∈e.args,∀ d H T,BX c H d H->qg Tryz.prog (XG c) 178 [.ptr c.B 0,.agg (qs a)] ⟨H,T⟩ (WQ c d H fun b=>yo (kE p.vars (ZJ p.vars lv b)) a)) :
 qg Tryz.prog (XG c) 178 [.ptr c.B 0,.agg (qs e)] ⟨H,T⟩ (WQ c d H fun b=>yo (kE p.vars (ZJ p.vars lv b)) e):=by
 obtain⟨val,hvale⟩:∃ val:(Nat->Bool)->Ex->Int,∀ b e,yo (kE p.vars (ZJ p.vars lv b)) e=val b e:=⟨_,fun _ _=>rfl⟩;simp only[hvale]at ih ⊢;refine qg.kO ⟨false,qd0,[],[]⟩ qe Tryz.func178 rfl (by kernel_rfl) ?_;obtain⟨hn,h3,h24,h2,hal⟩:=he.self;have hk:∀ j,H.length<=j->j≠c.B:=fun j hj=>(h.at hj).1
 have hpos:=qql.2 h0;have hpos':¬ (e.args.length:Int)=0:=by omega
 have hle:(e.args.length:Int)<=549755813888:=by omega
 rw[qd e];simp[-getElem?_pos,qw,jy,qO,hle,h0,qlU];refine qL.listR e.args (fun dn ev U=>ev 2=.ptr H.length 0/\ev 3=.ptr (H.length+1) 0/\ev 4=.ptr (H.length+2) 0/\ev 5=.ms (H.length+3) 0 e.args.length 16/\ev 14=.sl 4 (e.args.map qs) .none/\ev 15=.int .i64 e.args.length/\ev 16=.int .i64 dn.length /\
  ∃ (d':List Nd) (Ws:List (List Nat)),BX c H d' U.H/\q9 d d'/\Ws.length=e.args.length/\(∀ w∈Ws,qZ d' w)/\(∀ b,(Ws.take dn.length).map (zU d' b)=dn.map (val b)) /\
   U.H[H.length]?=some (.cells [.ptr c.B 0])/\U.H[H.length+1]?=some (.cells [.int .i64 e.op,.int .i64 e.n,.str e.name,.sl 4 (e.args.map qs) .none])/\U.H[H.length+2]?=some (.cells (qu zb))/\U.H[H.length+3]?=some (.cells (Ws.flatMap qu))) ?_ ?_ ?_
 . refine⟨by simp,by simp,by simp,by simp,by simp,by simp,by simp,d,List.replicate e.args.length zb,?_,q9.refl d,by simp,fun w hw=>?_,fun b=>by simp,?_,?_,?_,?_⟩
   . exact h.app _
   . rw[qrF]at hw;rw[hw.2];exact kI h.ok
   . exact lk0
   . exact lk1
   . exact lk2
   . exact lk3
 . rintro dn a rest ev ⟨H1,T1⟩ R hR hd hx hlt ⟨e2,e3,e4,e5,e14,e15,e16,d1,Ws,hx1,hg,hWl,hWs,hv,bB,bE,bZ,bW⟩;dsimp only at hx1 bB bE bZ bW;have ham:=qp6 hx;have hdw:=wr (n:=(dn.length:Int)+1) (by omega) (by omega);have hlt':(dn.length:Int)<e.args.length:=(by omega);have hH1l:=(qp5.1 bW).1;have hihx:=hx1.self.app [.cells (qs a)];have hih:=fun T=>ih a ham d1 _ T (hx1.app [.cells (qs a)]).self
   have hflen:=Kk (Ws:=Ws) fun w hw=>(hWs w hw).1
   rw[hWl]at hflen;have hfit:dn.length*16+16<=e.args.length*16:=(by omega);have hput:∀ {V:List Nat},V.length=16->zt (Ws.flatMap qu) (dn.length*16) (qu V)=(Ws.set dn.length V).flatMap qu:=fun {V} hV=>YL hV (fun w hw=>(hWs w hw).1) (by omega)
   rw[qd a]at hih;simp[-getElem?_pos,e2,e5,e14,e15,e16,hlt',hx,qd a,qa bB];refine qc.acall (hih T1) ?_;rintro v ⟨H2,T2⟩ ⟨d2,V,rfl,hxx2,hg2,hV,hv2⟩;dsimp only at hv2;have hVl:=hV.1;have hx2:=(hx1.app [.cells (qs a)]).call (by rw[qd a];exact hxx2);have up:∀ {k:Nat} {x:Blk},H.length<=k->H1[k]?=some x->H2[k]?=some x:=fun {k x} hl hq=>hxx2.loc (qa hq _) (hk k hl)
   have cW:=up (by omega) bW;have hl2:=(qp5.1 cW).1;simp[-getElem?_pos,e16,hlt',cW,hflen,hfit,hVl,hput hVl,hdw];refine hR _ _ ⟨by simp[e2],by simp[e3],by simp[e4],by simp[e5],by simp[e14],by simp[e15],by simp,d2,Ws.set dn.length V,hx2.set (by omega) _,hg.trans hg2,by simp[hWl],fun w hw=>?_,fun b=>?_,?_,?_,?_,qqa hl2⟩
   . rcases qrU hw with hw|rfl
     . exact (hWs w hw).grown hg2
     . exact hV
   . have h1:(Ws.set dn.length V).take (dn++[a]).length=Ws.take dn.length++[V]:=by
      rw[qqb,qqA,qqE,qqa (by omega),List.take_set_of_le (qqf _)];rfl
     rw[h1,qqY,qqY,<- hv b];congr 1
     . apply qrd;intro w hw;exact qfJ hx1.ok hg2 (hWs w (qq0 hw)) b
     . simp only[qqk,qqF];rw[hv2 b]
   . rw[qp7 (by omega)];exact up (by omega) bB
   . rw[qp7 (by omega)];exact up (by omega) bE
   . rw[qp7 (by omega)];exact up (by omega) bZ
 . rintro ev ⟨H1,T1⟩ ⟨e2,e3,e4,e5,e14,e15,e16,d1,Ws,hx,hg,hWl,hWs,hv,bB,bE,bZ,bW⟩;dsimp only at hx bB bE bZ bW;have hvf:∀ b,Ws.map (zU d1 b)=e.args.map (val b):=fun b=>by
    have:=hv b
    rwa[qqg (by omega)]at this
   have hW16:∀ w∈Ws,w.length=16:=fun w hw=>(hWs w hw).1
   have hflen:=Kk hW16;have hnode:∀ b,val b e=opW e.op (Ws.map (zU d1 b)):=fun b=>by
    rw[<- hvale,yk];unfold Qw;rw[hvf b];have:(List.map (yo (kE p.vars (ZJ p.vars lv b))) e.args)=e.args.map (val b):=qrd fun a _=>hvale b a
    rw[this];have h1:e.op≠1/\e.op≠2:=by
     obtain⟨o1,o2,o3,o4,o5,o6,o7,o8⟩:=jo hn;unfold qj at o5;constructor
     . intro h;rw[h]at o5;simp[zy]at o5;exact h0 o5
     . intro h;rw[h]at o5;simp[zy]at o5;exact h0 o5
    rw[if_neg h1.1,if_neg h1.2,if_neg h3,if_neg h24]
   have fin:∀ {H4:List Blk} {d4:List Nd} {V:List Nat} {τ:St},τ.H=H4.set (H.length+2) (.cells (qu V))->BX c H d4 H4->q9 d1 d4->qZ d4 V->(∀ b,zU d4 b V=opW e.op (Ws.map (zU d1 b)))->WQ c d H (fun b=>val b e) (.agg (qu V)) τ:=fun {H4 d4 V τ} hτ hx4 hg4 hV hvv=>by
    refine⟨d4,_,rfl,?_,hg.trans hg4,hV,fun b=>by rw[hvv];exact (hnode b).symm⟩;rw[hτ];exact hx4.set (by omega) _
   have hZl:=(qp5.1 bZ).1;obtain⟨o1,o2,o3,o4,o5,o6,o7,o8⟩:=jo hn;have hop:((e.op=4\/e.op=5\/e.op=6\/e.op=25)/\e.args.length=1)\/(e.op=22/\e.args.length=3)\/(e.op=23/\3<=e.args.length)\/(7<=e.op/\e.op<=21/\e.args.length=2):=by
    unfold qj at o5;split at o5
    . simp only[decide_eq_true_eq]at o5;omega
    . simp only[decide_eq_true_eq]at o5;unfold zy at o5
      repeat' split at o5
      all_goals omega
   have hZ16:(qu zb).length=16:=rfl;have ht:=hx.ok.two;rcases hop with ⟨hop,h1⟩|⟨hop,h1⟩|⟨hop,h1⟩|⟨hop7,hop21,h1⟩
   . -- one operand
     rw[h1]at hWl e5;obtain⟨w0,rfl⟩:∃ w,Ws=[w]:=List.length_eq_one_iff.1 hWl;have hw0:=hWs w0 (by simp);have hw0l:=hw0.1;simp only[qqs,qsB,qqP]at bW;rcases hop with hop|hop|hop|hop
     . simp[-getElem?_pos,e3,e15,e16,bE,hop,h1];rw[qG rfl];simp[-getElem?_pos,qM,e2,e5,bB,bW,hw0l,qm hw0l];have key:=Qd hx.self hw0 (T:=T1);refine⟨qc.acall key ?_,qc.acall key ?_⟩
       all_goals
        rintro v ⟨H2,T2⟩ ⟨d2,t,rfl,hxx2,hg2,ht2,hv2⟩;dsimp only at hv2;have hx2:=hx.call hxx2;have cB:=hxx2.loc bB (hk _ (by omega));dsimp only at cB;simp[-getElem?_pos,qM,e2,cB];refine qc.acall (QF c hx2.self ht2) ?_;rintro v ⟨H3,T3⟩ ⟨d3,u,rfl,hxx3,hg3,hu,hv3⟩;dsimp only at hv3;have hx3:=hx2.call hxx3;have cZ:=hxx3.loc (hxx2.loc bZ (hk _ (by omega))) (hk _ (by omega));have hl3:=(qp5.1 cZ).1;dsimp only at cZ hl3;simp[-getElem?_pos,qM];refine qc.call (jd u) (by simp) ?_;have cut1:(qu (u::List.replicate 15 0)).take 16=qu (u::List.replicate 15 0):=qm rfl;have put1:zt (qu zb) 0 (qu (u::List.replicate 15 0))=qu (u::List.replicate 15 0):=zl rfl rfl;have kv:=fin (H4:=H3) (d4:=d3) (V:=u::List.replicate 15 0) (τ:=⟨H3.set (H.length+2) (.cells (qu (u::List.replicate 15 0))),T3⟩) rfl hx3 (hg2.trans hg3) (qa0 hx3.ok hu) (fun b=>by
         rw[Vn hx3.ok,hv3,hv2,vH,hop];simp[opW,unW,zU])
        simp only[List.reduceReplicate]at kv cut1 put1;simp[-getElem?_pos,qM,e4,cZ,qO,put1,hl3,cut1];exact kv
     . simp[-getElem?_pos,e3,e15,e16,bE,hop,h1];rw[qG rfl];simp[-getElem?_pos,qM,e2,e5,bB,bW,hw0l,qm hw0l];refine qc.acall (ZC hx.self hw0) ?_;rintro v ⟨H2,T2⟩ ⟨d2,V,rfl,hxx2,hg2,hV,hv2⟩;dsimp only at hv2;have hVl:=hV.1;have cZ:=hxx2.loc bZ (hk _ (by omega));have hl3:=(qp5.1 cZ).1;dsimp only at cZ hl3;simp[-getElem?_pos,qM,e4,cZ,qO,hVl,zl hVl hZ16,hl3,qm hVl];refine fin rfl (hx.call hxx2) hg2 hV fun b=>?_
       unfold zU;rw[zq (hv2 b),w_inv,hop];rfl
     . have hc0:=yb 0 (by omega);rw[qeO]at hc0;simp only[qrz]at hc0;simp[-getElem?_pos,e3,e15,e16,bE,hop,h1];rw[qG rfl];simp[-getElem?_pos,qM,e2,bB];refine qc.call hc0 (by simp) ?_;simp[-getElem?_pos,qM,e5,bW,hw0l,qm hw0l];refine qc.acall (Zz hx.self (kI hx.ok) hw0) ?_;rintro v ⟨H2,T2⟩ ⟨d2,V,rfl,hxx2,hg2,hV,hv2⟩;dsimp only at hv2;have hVl:=hV.1;have cZ:=hxx2.loc bZ (hk _ (by omega));have hl3:=(qp5.1 cZ).1;dsimp only at cZ hl3;simp[-getElem?_pos,qM,e4,cZ,qO,hVl,zl hVl hZ16,hl3,qm hVl];refine fin rfl (hx.call hxx2) hg2 hV fun b=>?_
       rw[qcE (hv2 b),<- kL,w_sub,kc fun k _=>yV hx.ok b k,hop];simp[opW,unW,zU]
     . simp[-getElem?_pos,e3,e15,e16,bE,hop,h1];rw[qG rfl];simp[-getElem?_pos,qM,e2,e5,bB,bW,hw0l,qm hw0l];refine qc.acall (qoK hx.self hw0) ?_;rintro v ⟨H2,T2⟩ ⟨d2,V,rfl,hxx2,hg2,hV,hv2⟩;dsimp only at hv2;have hVl:=hV.1;have cZ:=hxx2.loc bZ (hk _ (by omega));have hl3:=(qp5.1 cZ).1;dsimp only at cZ hl3;simp[-getElem?_pos,qM,e4,cZ,qO,hVl,zl hVl hZ16,hl3,qm hVl];refine fin rfl (hx.call hxx2) hg2 hV fun b=>?_
       have hr:=qfI d1 b w0;have hwi:=Q2 hr.1 hr.2;unfold zU at hwi ⊢;rw[hv2 b,<- Wy _ 16 (by omega),hop];simp[opW,unW,hwi]
   . -- a choice
     rw[h1]at hWl e5;obtain⟨w0,w1,w2,rfl⟩:∃ w w' w'',Ws=[w,w',w'']:=by
      match Ws,hWl with
      | [a,b,c],_=>exact⟨a,b,c,rfl⟩
     have hw0:=hWs w0 (by simp);have hw0l:=hw0.1;have hw1:=hWs w1 (by simp);have hw1l:=hw1.1;have hw2:=hWs w2 (by simp);have hw2l:=hw2.1;simp only[qqs,qsB,qqP]at bW;have c0:(qu w0++(qu w1++qu w2)).take 16=qu w0:=(by rw[qq3 (by simp[hw0l]),qm hw0l]);have c1:((qu w0++(qu w1++qu w2)).drop 16).take 16=qu w1:=by
      rw[qrK,qqL (by simp[hw0l]),jt,hw0l,qrl,qrB,qqw,qq3 (by simp[hw1l]),qm hw1l]
     have c2:(qu w0++(qu w1++qu w2)).drop 32=qu w2:=by
      rw[qrK,qqL (by simp[hw0l]),jt,hw0l,qqw,qrK,qqL (by simp[hw1l]),jt,hw1l];rfl
     have cl:(qu w0++(qu w1++qu w2)).length=48:=(by simp[hw0l,hw1l,hw2l]);generalize qu w0++(qu w1++qu w2)=F at *;simp[-getElem?_pos,e3,e15,e16,bE,hop,h1];rw[qG rfl];simp[-getElem?_pos,qM,e2,e5,bB,bW,cl,c0]
     -- what is behind the truth
     have rest:∀ {H2:List Blk} {T2:List (Option Nat)} {d2:List Nd} {t N:Nat},BX c H d2 H2->q9 d1 d2->t<d2.length->(∀ b,evD d2 b t=ZG (qn d1 b w0) 16)->(∀ {k:Nat} {x:Blk},H.length<=k->H1[k]?=some x->H2[k]?=some x)->H2[N]?=some (.cells [.int .i64 (t:Int)])->N≠c.B ->
      qg Tryz.prog (XG c) 238 [.agg (qu w1),.agg (qu w2),.fn 239 [] [.ptr H.length 0,.ptr N 0]] ⟨H2,T2⟩ (BQ c d2 H2 fun b k=>if ZG (qn d1 b w0) 16=true then qn d1 b w1 k else qn d1 b w2 k):=by
      intro H2 T2 d2 t N hx2 hg2 ht2 htv up bN hN;have cB:=up (qqf _) bB;have:=JW hx2.self (hw1.grown hg2) (hw2.grown hg2) (T:=T2) (g:=239) (first:=[]) (cap:=[.ptr H.length 0,.ptr N 0]) (F:=fun b p q=>ZG (qn d1 b w0) 16&&p||!ZG (qn d1 b w0) 16&&q) (fun d3 H3 T3 x y hx3 hg3 hxl hyl=>by
       have key:=qjn hx3.self (h1:=H.length) (h2:=N) (t:=t) (x:=x) (y:=y) (T:=T3) (hx3.loc cB (hk _ (qqf _))) (hx3.loc bN hN) (qqn ht2 hg3.len) hxl hyl;have e:(fun b=>evD d3 b t&&evD d3 b x||!evD d3 b t&&evD d3 b y)=fun b=>ZG (qn d1 b w0) 16&&evD d3 b x||!ZG (qn d1 b w0) 16&&evD d3 b y:=by
        funext b;rw[hg3.ev hx2.ok b ht2,htv]
       rw[e]at key;exact key)
      refine this.imp fun v U ⟨d',W,e1,e2,e3,e4,e5⟩=>⟨d',W,e1,e2,e3,e4,fun b k hk=>?_⟩
      rw[e5 b k hk];dsimp only;rw[zI hx.ok hg2 hw1 b hk,zI hx.ok hg2 hw2 b hk];cases ZG (qn d1 b w0) 16<;>simp
     have QS:∀ {H4:List Blk} {T4:List (Option Nat)} {d2 d4:List Nd} {V:List Nat},BX c H d4 H4->q9 d1 d2->q9 d2 d4->qZ d4 V->(∀ b k,k<16->qn d4 b V k=if ZG (qn d1 b w0) 16=true then qn d1 b w1 k else qn d1 b w2 k)->WQ c d H (fun b=>val b e) (.agg (qu V)) ⟨H4.set (H.length+2) (.cells (qu V)),T4⟩:=fun {H4 T4 d2 d4 V} hx4 hg2 hg4 hV hvv=>by
      refine fin rfl hx4 (hg2.trans hg4) hV fun b=>?_
      unfold zU;rw[zq (hvv b),hop,vH];by_cases h:(zo (qn d1 b w0) 16:Int)=0
      . have h':zo (qn d1 b w0) 16=0:=(by omega);simp[opW,h']
      . have h':¬ zo (qn d1 b w0) 16=0:=(by omega);simp[opW,h']
     refine⟨qc.acall (Qd hx.self hw0) ?_,qc.acall (Qd (hx.app _).self hw0) ?_⟩
     . rintro v ⟨H2,T2⟩ ⟨d2,t,rfl,hxx2,hg2,ht2,hv2⟩;dsimp only at hv2;have hx2:=hx.call hxx2;have up:∀ {k:Nat} {x:Blk},H.length<=k->H1[k]?=some x->H2[k]?=some x:=fun {k x} hl hq=>hxx2.loc hq (hk k hl)
       have cW:=up (by omega) bW;simp[-getElem?_pos,qM];rw[qG rfl];simp[-getElem?_pos,qM,e2,e5,qa cW,cl,c1,c2,qm hw2l];have hH2l:H.length<=H2.length:=hx2.kp.1;refine qc.acall (rest (hx2.app [.cells [.int .i64 (t:Int)]]) hg2 ht2 hv2 (fun hl hq=>qa (up hl hq) _) lk0 (hk _ hH2l)) ?_;rintro v ⟨H3,T3⟩ ⟨d3,V,rfl,hxx3,hg3,hV,hv3⟩;have hx3:=(hx2.app [.cells [.int .i64 (t:Int)]]).call hxx3;have hVl:=hV.1;have cZ:=hxx3.loc (qa (up (by omega) bZ) _) (hk _ (by omega));have hl3:=(qp5.1 cZ).1;dsimp only at cZ hl3;simp[-getElem?_pos,qM,e4,cZ,qO,hVl,zl hVl hZ16,hl3,qm hVl];exact QS hx3 hg2 hg3 hV hv3
     . rintro v ⟨H2,T2⟩ ⟨d2,t,rfl,hxx2,hg2,ht2,hv2⟩;dsimp only at hv2;have hx2:=(hx.app _).call hxx2;have up:∀ {k:Nat} {x:Blk},H.length<=k->H1[k]?=some x->H2[k]?=some x:=fun {k x} hl hq=>hxx2.loc (qa hq _) (hk k hl)
       have hH1l:H.length<=H1.length:=hx.kp.1;have bN:=hxx2.loc (lk0 (H:=H1) (p:=Blk.cells [.int .i64 0]) (t:=[])) (hk _ hH1l);have hNl:=(qp5.1 bN).1;have hH13:=(qp5.1 bW).1;have cW:=up (by omega) bW;have up3:∀ {k:Nat} {x:Blk},H.length<=k->H1[k]?=some x->(H2.set H1.length (.cells [.int .i64 (t:Int)]))[k]?=some x:=fun {k x} hl hq=>by
        have:=(qp5.1 hq).1;rw[qp7 (by omega)];exact up hl hq
       have dW:=up3 (by omega) bW;simp[-getElem?_pos,qM,bN];rw[qG rfl];simp[-getElem?_pos,qM,e2,e5,dW,cl,c1,c2,qm hw2l];refine qc.acall (rest (hx2.set hH1l _) hg2 ht2 hv2 up3 (qqa hNl) (hk _ hH1l)) ?_;rintro v ⟨H3,T3⟩ ⟨d3,V,rfl,hxx3,hg3,hV,hv3⟩;have hx3:=(hx2.set hH1l _).call hxx3;have hVl:=hV.1;have cZ:=hxx3.loc (up3 (by omega) bZ) (hk _ (by omega));have hl3:=(qp5.1 cZ).1;dsimp only at cZ hl3;simp[-getElem?_pos,qM,e4,cZ,qO,hVl,zl hVl hZ16,hl3,qm hVl];exact QS hx3 hg2 hg3 hV hv3
   . -- ranges
     obtain⟨w0,Wr,rfl⟩:∃ w r,Ws=w::r:=by
      match Ws,hWl with
      | a::r,_=>exact⟨a,r,rfl⟩
      | [],h=>simp at h;omega
     have hw0:=hWs w0 (by simp);have hw0l:=hw0.1;have hWrl:Wr.length+1=e.args.length:=(by simpa using hWl);rw[<- hWrl]at e5;have hsl:zw (.ms (H.length+3) 0 (Wr.length+1) 16) (some (.int .i64 1)) none none=some (.ms (H.length+3) 16 Wr.length 16):=by
      have h2:(1:Int)<=((Wr.length+1:Nat):Int):=(by omega);show (if (0:Int)<=1/\(1:Int)<=((Wr.length+1:Nat):Int)/\((Wr.length+1:Nat):Int)<=((Wr.length+1:Nat):Int)/\((1:Int)=0\/(1:Int)<((Wr.length+1:Nat):Int)) then _ else _)=_;rw[if_pos ⟨by omega,h2,qty _,.inr (by omega)⟩];simp
     have hpos1:(0:Int)<(Wr.length:Int)+1:=(by omega);have hin:=qir hx.self hw0 (A:=H.length+3) (V:=w0) (Ws:=Wr) hw0l (fun w hw=>hWs w (by simp[hw])) (by simpa using bW) (hk _ (by omega)) (by omega) (T:=T1);simp only[qqs]at bW hflen;have c0:(qu w0++Wr.flatMap qu).take 16=qu w0:=(by rw[qq3 (by simp[hw0l]),qm hw0l]);have cl:16<=(qu w0++Wr.flatMap qu).length:=(by simp[hw0l]);generalize qu w0++Wr.flatMap qu=F at *;simp[-getElem?_pos,e3,e15,e16,bE,hop];rw[qG rfl];simp[-getElem?_pos,qM,e2,e5,bB,bW,cl,c0,hsl,hpos1];refine qc.acall hin ?_;rintro v ⟨H2,T2⟩ ⟨d2,u,rfl,hxx2,hg2,hu,hv2⟩;dsimp only at hv2;have hx2:=hx.call hxx2;have cZ:=hxx2.loc bZ (hk _ (by omega));have hl3:=(qp5.1 cZ).1;dsimp only at cZ hl3;simp[-getElem?_pos,qM];refine qc.call (jd u) (by simp) ?_;have cut1:(qu (u::List.replicate 15 0)).take 16=qu (u::List.replicate 15 0):=qm rfl;have put1:zt (qu zb) 0 (qu (u::List.replicate 15 0))=qu (u::List.replicate 15 0):=zl rfl rfl;have kv:=fin (H4:=H2) (d4:=d2) (V:=u::List.replicate 15 0) (τ:=⟨H2.set (H.length+2) (.cells (qu (u::List.replicate 15 0))),T2⟩) rfl hx2 hg2 (qa0 hx2.ok hu) (fun b=>by
      rw[Vn hx2.ok,hv2,hop];have:(Wr.map (zU d1 b))=(Wr.map fun w=>zo (qn d1 b w) 16).map fun n:Nat=>(n:Int):=by
       rw[qrp];rfl
      simp only[opW,qqk,List.tail_cons,this];have hins:=qis (x:=zo (qn d1 b w0) 16) (Wr.map fun w=>zo (qn d1 b w) 16);show _=b2i (jO (zU d1 b w0) _);rw[<- hins];rfl)
     simp only[List.reduceReplicate]at kv cut1 put1;simp[-getElem?_pos,qM,e4,cZ,qO,put1,hl3,cut1];exact kv
   . -- two operands
     rw[h1]at hWl e5;obtain⟨w0,w1,rfl⟩:∃ w w',Ws=[w,w']:=by
      match Ws,hWl with
      | [a,b],_=>exact⟨a,b,rfl⟩
     have hw0:=hWs w0 (by simp);have hw0l:=hw0.1;have hw1:=hWs w1 (by simp);have hw1l:=hw1.1;have c0:(qu w0++qu w1).take 16=qu w0:=(by rw[qq3 (by simp[hw0l]),qm hw0l]);have c1:(qu w0++qu w1).drop 16=qu w1:=(by rw[qrK,qqL (by simp[hw0l]),jt,hw0l];rfl);have cl:(qu w0++qu w1).length=32:=(by simp[hw0l,hw1l]);simp only[qqs,qsB,qqP]at bW;generalize qu w0++qu w1=F at *;have n1:¬ e.op=1:=(by omega);have n2:¬ e.op=2:=(by omega);have n4:¬ e.op=4:=(by omega);have n5:¬ e.op=5:=(by omega);have n6:¬ e.op=6:=(by omega);have n25:¬ e.op=25:=(by omega);have n23:¬ e.op=23:=(by omega);have n22:¬ e.op=22:=(by omega);simp[-getElem?_pos,e2,e3,e15,e16,bE,h1,n1,n2,n4,n5,n6,n25,n23,n22];rw[qG rfl];simp[-getElem?_pos,qM,e2,e3,e5,bB,bE,bW,cl,c0,c1,qm hw1l];refine qc.acall (qjv hx.self hw0 hw1 hop7 hop21) ?_;rintro v ⟨H2,T2⟩ ⟨d2,V,rfl,hxx2,hg2,hV,hv2⟩;dsimp only at hv2;have hVl:=hV.1;have cZ:=hxx2.loc bZ (hk _ (by omega));have hl3:=(qp5.1 cZ).1;dsimp only at cZ hl3;simp[-getElem?_pos,qM,e4,cZ,qO,hVl,zl hVl hZ16,hl3,qm hVl];refine fin rfl (hx.call hxx2) hg2 hV fun b=>?_
     rw[hv2 b];simp[opW,n22,n23]
theorem qnT {p:Problem}{lv:List Int}(hp:PB p lv c):∀ (e:Ex),qgF p e->∀ d H T,BX c H d H->qg Tryz.prog (XG c) 178 [.ptr c.B 0,.agg (qs e)] ⟨H,T⟩ (WQ c d H fun b=>yo (kE p.vars (ZJ p.vars lv b)) e):=by
 refine Ex.ind fun e ih he d H T h=>?_
 by_cases h0:e.args=[]
 . exact qak h hp e he h0
 . exact qaj h hp e he h0 fun a ha d H T h=>ih a ha (he.arg ha) d H T h
end
end
def qgD (v:Var):Nat:=if v.mode=0 then 0 else v.width.toNat
theorem qdD {l:List Var}(hw:∀ v∈l,0<=v.width/\v.width<=8)(hl:l.length<=1000):∀ k,k<=l.length->yB l (JH l k)=(((l.take k).map qgD).sum:Nat)/\((l.take k).map qgD).sum<=8*k
 | 0,_=>⟨by simp[JH,yB],by simp⟩
 | k+1,hk=>by
  obtain⟨i1,i2⟩:=qdD hw hl k (by omega);obtain⟨v,hv⟩:∃ v,l[k]?=some v:=⟨_,qp8 (by omega)⟩;have hwv:=hw v (qp6 hv);have ht:l.take (k+1)=l.take k++[v]:=by rw[qqE,hv];rfl
  have hr:yq l (k:Int)=(v.mode != 0):=by simp[yq,hv]
  rw[YF,hr,ht,qqY,List.sum_append];by_cases hm:v.mode=0
  . have hb:qgD v=0:=(by simp[qgD,hm]);simp only[hm,bne_self_eq_false,qqq,if_false,qqk,qqF,qss,qtL,hb];exact⟨by simpa using i1,by omega⟩
  . have hb:qgD v=v.width.toNat:=(by simp[qgD,hm]);have hm':(v.mode != 0)=true:=(by simpa using hm);rw[if_pos hm'];have hs:yB l (JH l k++[(k:Int)])=IntKind.i64.wrap (yB l (JH l k)+zK l k):=by
     unfold yB;rw[qrj];simp
    rw[hs,i1];have hwa:zK l k=v.width:=(by simp[zK,hv]);rw[hwa];simp only[qqk,qqF,qss,qtL,hb,qri];rw[wr (by omega) (by omega)];exact⟨by omega,by omega⟩
theorem V7 {p:Problem}(hv:qi p=0)(hl:p.vars.length<=1000):yB p.vars (qz p)=((p.vars.map qgD).sum:Nat)/\(QA p.vars).length=2 ^ (p.vars.map qgD).sum:=by
 have hw:∀ v∈p.vars,0<=v.width/\v.width<=8:=fun v hm=>by have:=qU (zE hv v hm);omega
 have h1:=qdD hw hl p.vars.length (qqf _);rw[qr5]at h1;have hr:qz p=JH p.vars p.vars.length:=by unfold qz;rw[if_neg (by simpa using hv)]
 rw[hr];exact⟨h1.1,qdi p.vars⟩
noncomputable def JD (p:Problem)(l:List Ex):Bool:=decide (qi p=0)&&(l.all (wS p.vars)&&jJ p.vars l)
theorem QK (p:Problem)(l:List Ex)(h:VQ p)(hv20:p.vars.length<=20)(hb:yB p.vars (qz p)<=18)(hfl:Fits l)(hx:∀ e∈l,Wen e/\hgt e<=1000/\(pre e).length<=100000) :
 Pure Tryz.prog GG 87 [.agg (qJ p),.sl 4 (l.map qs) .none] (.bool (JD p l)):=by
 refine Pure.k qe Tryz.func87 rfl (by kernel_rfl) ?_;have h0:0<=yB p.vars (qz p):=by
  by_cases hv:qi p=0
  . rw[(V7 hv (by omega)).1];omega
  . have:qz p=[]:=by unfold qz;rw[if_pos (by simpa using hv)]
    rw[this];simp[yB]
 have ha:=qjB p h hv20 h0 (by omega);have hp:2 ^ (yB p.vars (qz p)).toNat<=2 ^ 18:=qqu (by omega) (by omega);have hf:=qlV p l (2 ^ (yB p.vars (qz p)).toNat) h hfl hx (by omega);have hr:(Jw p l (2 ^ (yB p.vars (qz p)).toNat)).2≠18/\decide ((Jw p l (2 ^ (yB p.vars (qz p)).toNat)).2=0)=JD p l:=by
  unfold Jw;by_cases hg:qeU p l (2 ^ (yB p.vars (qz p)).toNat:Nat)=true
  . rw[if_pos hg];simp only[qeU,qp9,decide_eq_true_eq]at hg;obtain⟨hv,_,_,hk⟩:=hg;have hab:=V7 hv (by omega);have hs:=qlK (vs:=p.vars) (l:=l) (k:=2 ^ (yB p.vars (qz p)).toNat) (by rw[hab.2,hab.1];simp);have hsb:JD p l=jJ p.vars l:=(by simp[JD,hv,hk]);rw[hsb,<- hs.1];generalize qb5 p.vars l _ (qP p.vars)=s at hs;obtain⟨s1,s2⟩:=s
    cases s1 with
    | some a=>simp
    | none=>
     have:=hs.2 rfl;simp only at this;subst this;simp
  . rw[if_neg hg];have hsb:JD p l=false:=by
     apply qrg.2;intro hh;simp only[JD,qp9,decide_eq_true_eq]at hh;apply hg;simp only[qeU,qp9,decide_eq_true_eq];have hp0:0<2 ^ (yB p.vars (qz p)).toNat:=qrw _;generalize 2 ^ (yB p.vars (qz p)).toNat=N at *;exact⟨hh.1,by omega,by omega,hh.2.1⟩
    rw[hsb];simp
 generalize Jw p l (2 ^ (yB p.vars (qz p)).toNat)=fa at *;generalize 2 ^ (yB p.vars (qz p)).toNat=N at *;obtain⟨hr1,hr2⟩:=hr;rw[<- hr2];have hm:Qx (.int .i64 (N:Int)) (.int .i64 262144)=some (.int .i64 N):=by
  simp only[Qx];rw[if_neg (by omega)]
 simp only[qJ]at ha hf;simp[-getElem?_pos];refine qc.call ha (by simp) ?_;simp[-getElem?_pos,hm];refine qc.call hf (by simp) ?_;simp[-getElem?_pos,hr1];rw[qq1];simp
end Go.Proofs.YtoibbcnfhhggnaaGreatDoor
end
