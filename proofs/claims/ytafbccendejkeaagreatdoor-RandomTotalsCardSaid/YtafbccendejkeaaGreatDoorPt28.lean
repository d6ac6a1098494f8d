import Derived.Test.YtafbccendejkeaaGreatDoorPt22
import Derived.Test.YtafbccendejkeaaGreatDoorPt27
import Derived.Test.YtafbccendejkeaaGreatDoorPt19
import Derived.Test.YtafbccendejkeaaGreatDoorPt21
set_option maxHeartbeats 16000000
set_option maxRecDepth 100000
set_option linter.all false
set_option linter.defProp false
namespace Go.Proofs.YtafbccendejkeaaGreatDoor
open Go Go.Abs Tryz
def qnc:List (Nat×Sch×List Nat):=[(9,.step 1 [9,8,7] (.step 2 [9,8,7,5,4,3] (.step 3 [9,8,7,5,4] (.step 4 [9,8,7,5] (.step 6 [9,8,7] (.fork (.cons 0 (.step 5 [9,8,7] (.step 7 [9,8] (.step 8 [9] (.step 9 [] (.done))))) (.cons 5 (.step 0 [9,8,7] (.step 7 [9,8] (.step 8 [9] (.step 9 [] (.done))))) (.nil)))))))),[]),(14,.step 0 [8,7,3,2,1] (.step 1 [8,7,3,2] (.step 2 [8,7,3] (.step 3 [8,7] (.step 4 [8,7] (.step 5 [8,7,6] (.step 6 [8,7] (.step 7 [8] (.step 8 [] (.done))))))))),[])]
noncomputable def qgH(p:Problem)(l:List Ex)(n:Int):Bool:=decide (qk p=0)&&(decide (0<=n)&&(decide (n<=262144)&&l.all (wD p.vars)))
def qs0(p:Problem)(l:List Ex)(n:Nat)(r:AV)(U':St):Prop :=
 if qgH p l n=true then ∃F A t,r=.tup [.ptr F 0,.int .i64 0]/\FndR F A t p l (zz p.vars) false n U'.H/\A<U'.H.length else r=.tup [.nilp,.int .i64 1]
def qoH(p l)(n:Nat)(h:VQ p)(hfl:Fits l)(hx:∀e∈l,Wen e/\hgt e<=1000/\(pre e).length<=100000)(hn:n<4611686018427387904)(H T) :
 qg prog GG 241 [.agg (qt p),.sl 4 (l.map qp) .none,.int .i64 n] ⟨H,T⟩ (qs0 p l n):=by
 refine qEH ⟨false,qnc,[],[]⟩ qe func241 rfl (by kernel_rfl) ?_;have hval:=yW p h;obtain⟨Q,hQ⟩:∃Q,Q=qs0 p l n:=⟨_,rfl⟩;rw[<- hQ];by_cases hv:qk p=0
 case neg=>
  have:Q=fun r _=>r=.tup [.nilp,.int .i64 1]:=by rw[hQ];funext r U;unfold qs0;rw[if_neg (by simp[qgH,hv])]
  simp only[qt]at hval;simp;refine qEJ hval (by simp) ?_;simp[hv,this]
 by_cases hn2:n<=262144
 case neg=>
  have:Q=fun r _=>r=.tup [.nilp,.int .i64 1]:=by rw[hQ];funext r U;unfold qs0;rw[if_neg (by simp[qgH];omega)]
  have hn3:(262144:Int)<n:=by omega
  simp only[qt]at hval;simp;refine qEJ hval (by simp) ?_;simp[hv,hn3,this]
 simp only[qt]at hval;simp;refine qEJ hval (by simp) ?_;simp[hv,show ¬(262144:Int)<n by omega,show ¬(n:Int)<0 by omega];refine qEZ l (fun d ev U=>ev 1=.sl 4 (l.map qp) .none/\ev 2=.int .i64 n/\ev 3=.ptr H.length 0/\ev 24=.sl 4 (l.map qp) .none/\ev 25=.int .i64 l.length/\ev 26=.int .i64 d.length/\(∃H',U=⟨H',T⟩/\H'[H.length]?=some (.cells (qt p)))/\∀e∈d,wD p.vars e=true) ?_ ?_ ?_
 . refine⟨by simp,by simp,by simp,by simp,by simp,by simp,⟨_,rfl,?_⟩,by simp⟩;simp
 . rintro d e rest ev U R hR hd hxe hlt ⟨e1,e2,e3,e24,e25,e26,⟨H',rfl,hP⟩,hall⟩;have hm:=qAn hxe;obtain⟨hwe,hh,hsz⟩:=hx e hm;have hkn:=qnA p e (by have:=h.vars;show p.vars.length<_;omega) hwe (by omega) hsz;have hdw:=wr (n:=(d.length:Int)+1) (by unfold Fits at hfl;omega) (by unfold Fits at hfl;omega);simp only[qt]at hkn hP;simp[-getElem?_pos,e3,e24,e25,e26,hlt,hxe,qd hP,qc e];rw[<- qc e];refine qEJ hkn (by simp) ?_
   cases hk:wD p.vars e with
   | false=>
    have:Q=fun r _=>r=.tup [.nilp,.int .i64 1]:=by
     rw[hQ];funext r U;unfold qs0;have hb:qgH p l n=false:=by
      have:l.all (wD p.vars)=false:=qDq.2 ⟨e,hm,by simp[hk]⟩;simp[qgH,this]
     rw[hb];simp
    simp[this]
   | true=>
    simp[e26,hdw];refine hR _ _ ⟨by simp[e1],by simp[e2],by simp[e3],by simp[e24],by simp[e25],by simp,⟨_,rfl,qd hP _⟩,fun x hx=>?_⟩;rcases qAC.1 hx with hx|hx
    . exact hall x hx
    simp only[qAM,qB0,or_false]at hx;rw[hx];exact hk
 rintro ev U ⟨e1,e2,e3,e24,e25,e26,⟨H',rfl,hP⟩,hall⟩;have hbeg:qgH p l n=true:=by
  have:=qAv.2 hall;simp[qgH,this,hv];omega
 have hQ':Q=fun r U'=>∃F A t,r=.tup [.ptr F 0,.int .i64 0]/\FndR F A t p l (zz p.vars) false n U'.H/\A<U'.H.length:=by
  rw[hQ];funext r U;unfold qs0;rw[if_pos hbeg]
 rw[hQ'];simp only[qt]at hP;by_cases hv0:p.vars=[]
 . rw[hv0]at hP;simp only[qAZ]at hP;simp[e25,e26];rw[qR rfl];simp[ze,e1,e2,e3,hP,qd hP,hv0,qI,zs,zW,qM];refine⟨?_,?_⟩
   all_goals
    refine qEO (fun m ev U=>ev 10=.ptr H'.length 0/\ev 46=.int .i64 0/\ev 47=.int .i64 0/\U=⟨H'++[.cells [.sl 4 [] .none,.sl 4 (p.hard.map qp) .none,.sl 4 (p.soft.map qp) .none,.sl 2 (p.dists.map zl) .none,.sl 1 (p.groups.map qx) .none,.sl 4 (l.map qp) .none,.sl 1 [] (.chain T.length 0),.bool false,.int .i64 n]],T++[some 0]⟩) 0 ⟨by simp,by simp,by simp,rfl⟩ ?_;rintro m ev U R hR ⟨f10,f46,f47,rfl⟩;simp[f10,f46,f47];refine⟨H'.length,⟨T.length,?_,fun h=>absurd rfl h⟩,by simp⟩;simp[hv0,Jd,zz]
 have hpos:=qAI.2 hv0;have hv1:(p.vars.length:Int)<=549755813888:=by have:=h.vars;omega
 simp[e25,e26];rw[qR rfl];simp[ze,e1,e2,e3,hP,qd hP,hv0,hv1,qI,zs,zW,qM];refine⟨?_,?_⟩
 all_goals
  refine qEZ p.vars (fun d ev U=>ev 10=.ptr (H'.length+1) 0/\ev 45=.sl 4 (p.vars.map qJ) .none/\ev 46=.int .i64 p.vars.length/\ev 47=.int .i64 d.length/\∃H3,U=⟨H3,T⟩/\H'.length<H3.length/\FndR (H'.length+1) H'.length T.length p l (zz d++List.replicate (p.vars.length-d.length) 0) false n H3) ?_ ?_ ?_
  . refine⟨by simp,by simp,by simp,by simp,_,rfl,by simp,⟨?_,fun _=>?_⟩⟩
    . have hz:zz []++List.replicate (p.vars.length-([]:List Var).length) (0:Int)≠[]:=fun e=>by
       have:=congrArg List.length e;simp[zz]at this
       first|omega|exact hv0 (by simpa using this)
      have hzl:(zz []++List.replicate (p.vars.length-([]:List Var).length) (0:Int)).length=p.vars.length:=(by simp[zz]);rw[qa0,Jd,if_neg hz,hzl];simp
    . simp[zz,zc]
  . rintro d v rest ev U R hR hd hxv hlt ⟨f10,f45,f46,f47,H3,rfl,hAl,hfr⟩;have hdw:=wr (n:=(d.length:Int)+1) (by omega) (by omega);have hrl:List.replicate (p.vars.length-d.length) (0:Int)=0::List.replicate (p.vars.length-(d.length+1)) 0:=by
     rw[show p.vars.length-d.length=(p.vars.length-(d.length+1))+1 by omega,qCx]
    rw[hrl]at hfr;have hsd:zz (d++[v])=zz d++[if v.mode=0 then v.value else 0]:=(by simp[zz]);have hsl:(zz d).length=d.length:=(by simp[zz]);have hnext:∀x:Int,zz d++x::List.replicate (p.vars.length-(d.length+1)) 0=(zz d++[x])++List.replicate (p.vars.length-(d.length+1)) 0:=fun x=>by simp
    have hzl:∀x:Int,(zz d++x::List.replicate (p.vars.length-(d.length+1)) 0).length=p.vars.length:=fun x=>by simp[hsl];omega
    have hz:∀x:Int,zz d++x::List.replicate (p.vars.length-(d.length+1)) 0≠[]:=fun x=>by simp
    have hF3:=hfr.f;have hA3:=hfr.r (hz 0);have hrow:∀x:Int,Jd H'.length T.length (zz d++x::List.replicate (p.vars.length-(d.length+1)) 0)=.ms H'.length 0 p.vars.length 1:=fun x=>by rw[Jd,if_neg (hz x),hzl]
    rw[qa0,hrow]at hF3;by_cases hm0:v.mode=0
    . rw[if_pos hm0]at hsd;have hset:(zc (zz d++0::List.replicate (p.vars.length-(d.length+1)) 0)).set d.length (.int .i64 v.value)=zc (zz d++v.value::List.replicate (p.vars.length-(d.length+1)) 0):=by
       rw[kD,qBc _ _ (by omega),hsl,qBm];rfl
      simp[-getElem?_pos,f45,f46,f47,hlt,hxv,hm0];rw[qR rfl];simp[-getElem?_pos,ze,f10,f47,qd hF3,qd hA3,hlt,show(zc (zz d++0::List.replicate (p.vars.length-(d.length+1)) 0)).length=p.vars.length by rw[qS,hzl],hset,show d.length+1<=p.vars.length by omega,hdw];refine hR _ _ ⟨by simp[f10],by simp[f45],by simp[f46],by simp,_,rfl,by simp;omega,?_⟩;rw[hsd,qAq,qAQ,<- hnext];refine⟨?_,fun _=>?_⟩
      . rw[qa0,hrow,qAp (by omega)];exact qd hF3 _
      exact qAt (by simp;omega)
    rw[if_neg hm0]at hsd;simp[-getElem?_pos,f45,f46,f47,hlt,hxv,hm0,hdw];refine hR _ _ ⟨by simp[f10],by simp[f45],by simp[f46],by simp,_,rfl,by simp;omega,?_⟩;rw[hsd,qAq,qAQ,<- hnext];exact hfr.look _
  rintro ev U ⟨f10,f45,f46,f47,H3,rfl,hAl,hfr⟩;rw[qBm,qC6,qA6]at hfr;simp[f10,f46,f47];exact⟨H'.length,⟨T.length,hfr⟩,hAl⟩
def z0{p}(h:qk p=0):∀v∈p.vars,jW v=0:=by
 have hv:jd p.vars=0:=by
  unfold qk at h;split at h
  . exact absurd h (by assumption)
  rename_i h1;exact qBt.1 h1
 unfold jd at hv;split at hv
 . cases hv
 split at hv
 . rename_i h1;exact absurd hv h1
 rename_i h1;exact zC.1 (qBt.1 h1)
def jL:∀(a),zc a=a.flatMap qh
 |[]=>rfl
 | x::r=>by
  have:=jL r;rw[qAO,<- this];rfl
noncomputable def J3(p:Problem)(l:List Ex)(n:Nat):List Int×Int :=
 if qgH p l n=true then(match qdB p.vars l n (zz p.vars) with
  |(some a,_)=>(a,0)
  |(none,true)=>([],11)
  |(none,false)=>([],18)) else([],1)
def qn1(p:Problem)(l:List Ex)(n:Nat)(h:VQ p)(hfl:Fits l)(hx:∀e∈l,Wen e/\hgt e<=1000/\(pre e).length<=100000)(hn:n<4611686018427387904) :
 Pure prog GG 166 [.agg (qt p),.sl 4 (l.map qp) .none,.int .i64 n] (.tup [.sl 1 ((J3 p l n).1.map qh) .none,.int .i64 (J3 p l n).2]):=by
 refine qEF o0 true qe func166 rfl (by kernel_rfl) ?_;have hb:=qoH p l n h hfl hx hn [.cells (qt p)] [];simp only[qt]at hb;simp;refine qEM hb ?_;rintro v ⟨H1,T1⟩ hq;unfold qs0 at hq;by_cases hg:qgH p l n=true
 . rw[if_pos hg]at hq;obtain⟨F,A,t,rfl,hfr,hAl⟩:=hq;simp only at hfr hAl;have hv:qk p=0:=by
    simp only[qgH,qAr,decide_eq_true_eq]at hg;exact hg.1
   have hn2:n<=262144:=by
    simp only[qgH,qAr,decide_eq_true_eq]at hg;omega
   have hw:∀v∈p.vars,0<=v.width/\v.width<=28:=fun v hm=>by have:=zd (z0 hv v hm);omega
   have hh:=quQ T1 hfr hAl hn2 h.vars (vZ p.vars) hw hx hfl;have hFA:J3 p l n=(match qdB p.vars l n (zz p.vars) with
    |(some a,_)=>(a,0)
    |(none,true)=>([],11)
    |(none,false)=>([],18)):=if_pos hg
   rw[hFA];generalize qdB p.vars l n (zz p.vars)=s at *;simp;refine qEM hh ?_;rintro v2 ⟨H2,T2⟩ ⟨hk,⟨va,n',hF2⟩,hres⟩;simp only[qa0]at hF2;rcases hres with⟨a,bh,vh,hs,rfl,hrow⟩|⟨hs,rfl⟩
   . obtain⟨s1,s2⟩:=s;simp only at hs;subst hs;simp only at hrow;simp;rcases hrow with⟨rfl,sz,tok,rfl⟩|⟨ha0,rfl,hbc⟩
     . have hc:∀H t k,frz H 7 (.sl sz [] (.chain t k))=.sl sz [] .none:=fun H t k=>by rw[frz];simp[qO]
       cases tok with
       | chain t k=>
        rw[frz,if_neg (by simp[qO,qz])];simp only[qAz,qAZ,hc,Zi,qO,qz,Leq,zn];simp[qZ]
       |none=>rw[qA (by simp)];exact⟨by simp,by simp[Leq,zn]⟩
       |nil=>rw[qA (by simp)];exact⟨by simp,by simp[Leq,zn]⟩
       |tight=>rw[qA (by simp)];exact⟨by simp,by simp[Leq,zn]⟩
     have ho:jx bh 1 qh H2 (.ms bh 0 a.length 1) a:=.inr ⟨ha0,rfl,by
      rw[hbc,jL]⟩
     have f1:=ho.frz (fun x=>by simp) (fun x=>by simp) (fun x=>by simp) 6;have f2:=ho.frzNo (fun x=>by simp) (fun x=>by simp) (fun x=>by simp) 6;rw[frz,if_neg (by simp[qO,qz])];simp only[qAz,qAZ,Zi,qO,qz,Leq,zn,qCo,and_true];exact⟨f2,f1⟩
   obtain⟨s1,s2⟩:=s;simp only at hs hF2;subst hs;cases s2
   . simp[hF2];rw[qA (by simp)];exact⟨by simp,by simp[Leq,zn]⟩
   simp[hF2];rw[qA (by simp)];exact⟨by simp,by simp[Leq,zn]⟩
 rw[if_neg hg]at hq;subst hq;have hFA:J3 p l n=([],1):=if_neg hg;rw[hFA];simp;rw[qA (by simp)];exact⟨by simp,by simp[Leq,zn]⟩
def qls(p)(h:VQ p)(hv20:p.vars.length<=20):Pure prog GG 26 [.agg (qt p)] (.int .i64 (kl p.vars (qK p))):=by
 refine qE9 qe func26 rfl (by kernel_rfl) ?_;have hv:=qjB p h;have hlen:=JV p hv20;have hrg:∀i∈qK p,0<=i/\i<p.vars.length:=fun i hi=>ZJ hi
 simp only[qt]at hv;generalize qK p=R at hv hlen hrg⊢;simp;refine qET hv (by simp) ?_
 try simp
 refine qE6 (fun q env U=>∃i,i<=R.length/\q=R.length-i/\env 1=.ptr 0 0/\env 3=.int .i64 (kl p.vars (R.take i))/\env 7=.sl 1 (R.map qh) .none/\env 8=.int .i64 R.length/\env 9=.int .i64 i/\U=⟨[.cells (qt p)],[]⟩) R.length ⟨0,by simp[kl]⟩ ?_;rintro q env U ⟨i,hi,rfl,h1,h3,h7,h8,h9,rfl⟩
 cases hvi:R[i]? with
 | some v=>
  obtain⟨hc,hv'⟩:=qAm.1 hvi;obtain⟨r1,r2⟩:=hrg v (qAn hvi);obtain⟨j,rfl⟩:=qAH r1;have hj:j<p.vars.length:=by omega
  have hs:=qfn (l:=p.vars) hvi;simp only[qAS]at hs;rw[YQ hj]at hs;simp[h1,h3,h7,h8,h9,hc,hv',hj];exact⟨_,by omega,i+1,by omega,rfl,by rw[hs],wr (by omega) (by omega)⟩
 | none=>
  have hc:¬i<R.length:=(by simp at hvi;omega);rw[show R.take i=R from qAs (by omega)]at h3;simp[h3,h7,h8,h9,hc]
def qlB(p)(h:VQ p)(hv20:p.vars.length<=20)(h0:0<=kl p.vars (qK p))(h28:kl p.vars (qK p)<=28):Pure prog GG 167 [.agg (qt p)] (.int .i64 ((2^(kl p.vars (qK p)).toNat:Nat):Int)):=by
 refine qEG qe func167 rfl (by kernel_rfl) ?_;have hb:=qls p h hv20;have hs:=wB h0 h28;generalize kl p.vars (qK p)=B at *;generalize hN:2^B.toNat=N at *;simp only[qt]at hb;simp;refine qEJ hb (by simp) ?_;simp[show ¬B<0 by omega,IntKind.bits,hs]
def JT(q:Str×AV×Nat):AV×AV×Nat:=(.str q.1,q.2.1,q.2.2)
def Zy{s:Str}:∀(E:List (Str×AV×Nat)) (k:Nat),(jP (.str s) (E.map JT) k=some none/\∀q∈E,q.1≠s)\/∃j q,E[j]?=some q/\q.1=s/\jP (.str s) (E.map JT) k=some (some (k+j,q.2.1))
 |[],k=>.inl ⟨rfl,by simp⟩
 | e::E,k=>by
  by_cases h:s=e.1
  . right;refine⟨0,e,rfl,h.symm,?_⟩;simp[jP,JT,QT,h]
  have h':(s==e.1)=false:=by simpa using h
  rcases Zy (s:=s) E (k+1) with⟨h1,h2⟩|⟨j,q,h1,h2,h3⟩
  . left;refine⟨by simp[jP,JT,QT,h'];simpa[JT] using h1,fun q hq=>?_⟩;rcases qAM.1 hq with rfl|hq
    . exact fun e=>h e.symm
    exact h2 q hq
  right;refine⟨j+1,q,by simpa using h1,h2,?_⟩;simp only[qAz,JT,jP,QT,h'];have:k+(j+1)=k+1+j:=by omega
  rw[this];exact h3
def vN(vs:List Var):List (Str×AV×Nat):=vs.zipIdx.map fun q=>(q.1.name,.int .i64 (q.2:Int),q.2)
def vM(vs:List Var):Blk:=.map ((vN vs).map JT) vs.length
def qfh{vs:List Var}{j:Nat}{q:Str×AV×Nat}(h:(vN vs)[j]?=some q):∃v,vs[j]?=some v/\q=(v.name,.int .i64 (j:Int),j):=by
 unfold vN at h;rw[qAR,qCH]at h
 cases hv:vs[j]? with
 |none=>rw[hv]at h;simp at h
 |some v=>rw[hv]at h;simp at h;exact⟨v,rfl,h.symm⟩
def qfg{vs}(hn:(vs.map (·.name)).Nodup){i v}(hv:vs[i]?=some v)(k):jP (.str v.name) ((vN vs).map JT) k=some (some (k+i,.int .i64 (i:Int))):=by
 rcases Zy (s:=v.name) (vN vs) k with⟨_,h2⟩|⟨j,q,h1,h2,h3⟩
 . exfalso;have hm:(v.name,AV.int .i64 (i:Int),i)∈vN vs:=qAN.2 ⟨(v,i),qAn (i:=i) (by rw[qCH,hv];simp),rfl⟩;exact h2 _ hm rfl
 obtain⟨w,hw,rfl⟩:=qfh h1;have hij:j=i:=by
  obtain⟨hj1,hj2⟩:=qAm.1 hw;obtain⟨hi1,hi2⟩:=qAm.1 hv;have h2:w.name=v.name:=h2;have hp:=qCb.1 hn;rcases Nat.lt_trichotomy j i with h|h|h
  . exact absurd (by rw[qB1,qB1,hj2,hi2,h2]) (hp j i (by simpa using hj1) (by simpa using hi1) h)
  . exact h
  exact absurd (by rw[qB1,qB1,hj2,hi2,h2]) (hp i j (by simpa using hi1) (by simpa using hj1) h)
 subst hij;exact h3
structure PB(p)(lv:List Int)(c:Bc):Prop where
 rest:c.rest=qt p++[.sl 1 (lv.map qh) .none,.map c.M]
 mp:c.mp=vM p.vars
 len:lv.length=p.vars.length
 few:p.vars.length<=1000
 vars:∀v∈p.vars,jW v=0
 nodup:(p.vars.map (·.name)).Nodup
 lev:∀(i:Nat) (v:Var) (l:Int),p.vars[i]?=some v->lv[i]?=some l->v.mode≠0->0<=l/\l+v.width<=20
def qiY(v:Var)(l:Int)(b:Nat->Bool):Int:=if v.mode=0 then v.value else(zr (fun k=>b (l.toNat+v.width.toNat-1-k)) v.width.toNat:Nat)
def V8{v}(h:jW v=0):0<=v.value/\v.value<65536:=by
 unfold jW at h;split at h
 . cases h
 split at h
 . cases h
 rename_i hc;have:(2:Int)^v.width.toNat<=2^8:=by
  have:v.width.toNat<=8:=by omega
  have h2:(2:Nat)^v.width.toNat<=2^8:=qAV (by omega) this;simpa using Int.ofNat_le.2 h2
 omega
def qdP{vs:List Var}{m U}(hm:U.H[m]?=some (vM vs))(hn:(vs.map (·.name)).Nodup){i:Nat}{v:Var}(hv:vs[i]?=some v):zA (Dof prog) U 182 (.map m) (.str v.name) false=some (.int .i64 (i:Int)):=by
 have:=qfg hn hv 0;unfold vM at hm;generalize (vN vs).map JT=E at *;simp[zA,hm,zG,this]
def qhc{w}(f):∀{n:Nat},w<=n->zr (fun j=>decide (j<w)&&f j) n=zr f w:=fun {n} h=>by
 apply qCh;intro i;rw[qX,qX];by_cases h1:i<w
 . have:i<n:=by omega
   simp[h1,this]
 simp[h1]
section
variable {c:Bc}{d:List Nd}{H:List Blk}{T:List (Option Nat)}
def qm9:List (Nat×Sch×List Nat):=[(9,.step 0 [25,24] (.step 1 [25,24,23] (.step 2 [25,24,23,22,21,20,19,5,4,3] (.step 3 [25,24,23,22,21,20,19,5,4] (.step 4 [25,24,23,22,21,20,19,5] (.step 5 [25,24,23,22,21,20,19] (.step 6 [25,24,23,22,21,20,19,18,16,15,12,11,9,8,7] (.step 7 [25,24,23,22,21,20,19,18,16,15,12,11,9,8] (.step 8 [25,24,23,22,21,20,19,18,16,15,12,11,9] (.step 9 [25,24,23,22,21,20,19,18,16,15,12,11] (.step 10 [25,24,23,22,21,20,19,18,16,15,12,11] (.step 11 [25,24,23,22,21,20,19,18,16,15,12] (.step 12 [25,24,23,22,21,20,19,18,16,15] (.step 13 [25,24,23,22,21,20,19,18,16,15,14] (.step 14 [25,24,23,22,21,20,19,18,16,15] (.step 15 [25,24,23,22,21,20,19,18,16] (.step 16 [25,24,23,22,21,20,19,18] (.step 17 [25,24,23,22,21,20,19,18] (.step 18 [25,24,23,22,21,20,19] (.step 19 [25,24,23,22,21,20] (.step 20 [25,24,23] (.step 21 [25,24,23] (.step 22 [25,24,23] (.step 23 [25,24] (.step 24 [25] (.step 25 [] (.done)))))))))))))))))))))))))),[19,23])]
def qdN(h:BX c H d H){p:Problem}{lv:List Int}(hp:PB p lv c){i:Nat}{v:Var}{l:Int}(hv:p.vars[i]?=some v)(hl:lv[i]?=some l) :
 qg prog (XG c) 193 [.ptr c.B 0,.str v.name] ⟨H,T⟩ (WQ c d H fun b=>qiY v l b):=by
 refine qEH ⟨false,qm9,[],[]⟩ qe func193 rfl (by kernel_rfl) ?_;have hk:∀j,H.length<=j->j≠c.B:=fun j hj=>(h.at hj).1
 obtain⟨tok,hb⟩:=h.b;have hm:=h.m;rw[hp.rest]at hb;rw[hp.mp]at hm;have hlook:=fun(u:List Blk) (T:List (Option Nat))=>qdP (U:=⟨H++u,T⟩) (qd hm u) hp.nodup hv
 have hve:=hp.vars v (qAn hv);have hvw:=zd hve;have hvv:=V8 hve;have hil:=(qAm.1 hv).1;have hill:i<lv.length:=by rw[hp.len];exact hil
 simp only[qt,qAL,qAK]at hb;simp[qd hb,hlook,hv,jH];by_cases hm0:v.mode=0
 . have hc:=ym v.value.toNat (by omega);rw[Int.toNat_of_nonneg hvv.1]at hc;have hVl:((List.range 16).map fun k=>if v.value.toNat.testBit k=true then 1 else 0).length=16:=(by simp);have hwo:=Wl h.ok v.value.toNat;have hval:=fun b=>JE h.ok b (n:=v.value.toNat) (by omega)
   generalize ((List.range 16).map fun k=>if v.value.toNat.testBit k=true then 1 else 0)=V at *;simp[hm0];refine qEJ hc (by simp) ?_;simp[hVl,qo hVl,zo hVl (show(qy zf).length=16 from rfl),qT];refine⟨d,V,rfl,h.app _,qFe d,hwo,fun b=>?_⟩;unfold z5 qiY;dsimp only;rw[if_pos hm0,hval b];omega
 have hlev:=hp.lev i v l hv hl hm0;have hwn:v.width=(v.width.toNat:Int):=by omega
 have hln:l=(l.toNat:Int):=by omega
 generalize hwN:v.width.toNat=w at *;generalize hlN:l.toNat=L at *;have hl':lv[i]?=some (L:Int):=by rw[hl,hln]
 simp[hm0,hwn];refine kf w (fun k ev U=>ev 0=.ptr c.B 0/\ev 4=.ptr H.length 0/\ev 5=.int .i64 (i:Int)/\ev 6=.ptr (H.length+1) 0/\ev 7=.ptr (H.length+2) 0/\ev 30=.int .i64 (w:Int)/\ev 31=.int .i64 (k:Int) /\
  ∃ d' W,BX c H d' U.H/\za d d'/\q9 d' W/\U.H[H.length]?=some (.cells (qy zf))/\U.H[H.length+1]?=some (.cells (qJ v))/\U.H[H.length+2]?=some (.cells (qy W)) /\
   ∀b j,j<16->qq d' b W j=(decide (j<k)&&b (L+w-1-j))) ?_ ?_ ?_
 . refine⟨by simp,by simp,by simp,by simp,by simp,by simp,by simp,d,zf,h.app _,qFe d,wh h.ok,lk0,?_,lk2,fun b j hj=>by rw[kE h.ok];simp⟩;have:=lk1 (H:=H) (p:=Blk.cells (qy zf)) (q:=Blk.cells (qJ v)) (t:=[.cells (qy zf)]);simp only[qJ,hwn]at this⊢;exact this
 . rintro k ev ⟨H1,T1⟩ R hR hkw ⟨e0,e4,e5,e6,e7,e30,e31,d1,W,hx,hg,hW,bZ,bV,bW,hbits⟩;obtain⟨t1,hb1⟩:=hx.b;rw[hp.rest]at hb1;simp only[qt,qAL,qAK]at hb1;simp only[qJ,hwn]at bV;have hWl:=hW.1;have hk16:k<16:=(by omega);have hk1:k+1<=16:=hk16;have hwk:=wr (n:=(k:Int)+1) (by omega) (by omega);have hw1:=wr (n:=(L:Int)+w) (by omega) (by omega);have hw2:=wr (n:=(L:Int)+w-1) (by omega) (by omega);have hw3:=wr (n:=(L:Int)+w-1-k) (by omega) (by omega);have hlevel:(L:Int)+w-1-k=((L+w-1-k:Nat):Int):=(by omega);rw[hlevel]at hw3;have hbit:=fun T=>(qvp d1 hx.ok (L+w-1-k) (by omega) H1 T).leq (args:=[.agg [.sl 3 (d1.map qH) t1],.int .i64 ((L+w-1-k:Nat):Int)]) (by simp[zn,Leq,qES])
   generalize hLL:L+w-1-k=LL at *;simp[e30,e31,show(k:Int)<w by omega];rw[qR rfl];simp[ze,e0,e5,e6,hb1,bV,hl',hw1,hw2,hlevel,hw3];refine qEM (hbit T1).glo ?_;rintro v2 ⟨H2,T2⟩ ⟨hk2,rfl|⟨d2,i2,t2,rfl,g2,hd2,hi2,hm2,hs2⟩⟩
   . simp[ze];exact qEM (wR c (Q:=fun _ _=>False) (hx.same hk2).kp0 _ _) fun _ _ h=>h.elim
   simp[ze];refine qEM (Jq c (hx.self.same hk2) hd2 i2 _) ?_;rintro v3 ⟨H3,T3⟩ ⟨rfl,hxx⟩;have hx3:=hx.call hxx;have up:∀{k:Nat} {x:Blk},H.length<=k->H1[k]?=some x->H3[k]?=some x:=fun {k x} hl hq=>hxx.loc hq (hk k hl)
   have cW:=up (by omega) bW;have hl3:=(qAm.1 cW).1;have hkl:k<W.length:=(by omega);simp[ze,e7,e31,cW,hWl,show(k:Int)<16 by omega,hk1,kz,hwk];refine hR _ _ ⟨by simp[e0],by simp[e4],by simp[e5],by simp[e6],by simp[e7],by simp[e30],by simp,d2,W.set k i2,hx3.set (by omega) _,hg.trans g2,(hW.grown g2).set hi2,?_,?_,qAt hl3,fun b j hj=>?_⟩
   . rw[qAp (by omega)];exact up (by omega) bZ
   . rw[qAp (by omega)];have:=up (by omega) bV;simp only[qJ,hwn]at this⊢;exact this
   rw[wU hkl];by_cases hjk:j=k
   . subst hjk;rw[if_pos rfl,hs2 b,hLL]
     cases hbb:b LL with
     |true=>simp[qeM hx.ok]
     |false=>simp[Ym hx.ok]
   rw[if_neg hjk,zJ hx.ok g2 hW b hj,hbits b j hj];by_cases h1:j<k
   . have h2:j<k+1:=(by omega);simp[h1,h2]
   have h2:¬j<k+1:=(by omega);simp[h1,h2]
 rintro ev ⟨H1,T1⟩ ⟨e0,e4,e5,e6,e7,e30,e31,d1,W,hx,hg,hW,bZ,bV,bW,hbits⟩;have hWl:=hW.1;have hHl:=(qAm.1 bZ).1;simp[-getElem?_pos,e4,e7,e30,e31,bW,bZ,hWl,qo hWl,zo hWl (show(qy zf).length=16 from rfl),qT,hHl];refine⟨d1,W,rfl,hx.set (by omega) _,hg,hW,fun b=>?_⟩;unfold z5 qiY;dsimp only;rw[if_neg hm0,hwN,hlN,zt (hbits b),qhc _ (by omega)]
end
def QM(vs:List Var)(lv:List Int)(b:Nat->Bool):List Int:=(vs.zip lv).map fun q=>qiY q.1 q.2 b
def YM{vs lv}(h:lv.length=vs.length)(b):(QM vs lv b).length=vs.length:=by simp[QM,h]
def qe1{vs:List Var}{lv:List Int}{i:Nat}{v:Var}{l:Int}(hv:vs[i]?=some v)(hl:lv[i]?=some l)(b:Nat->Bool):(QM vs lv b)[i]?=some (qiY v l b):=by
 unfold QM;rw[qAR,qB2 (z:=(v,l)) |>.2 ⟨hv,hl⟩];rfl
def Qh:∀{vs:List Var}{a:List Int}{i:Nat}{v:Var}{x:Int},(vs.map (·.name)).Nodup->vs[i]?=some v->a[i]?=some x->jA ((vs.zip a).map fun q=>⟨q.1.name,q.2⟩) v.name=some (qv x)
 |[],_,i,v,x,_,hv,_=>by simp at hv
 |w::vs,[],i,v,x,_,_,hx=>by simp at hx
 | w::vs,y::a,0,v,x,hn,hv,hx=>by
  simp at hv hx;subst hv hx;simp[jA]
 | w::vs,y::a,i+1,v,x,hn,hv,hx=>by
  simp only[qAz,qCi]at hn;have ih:=Qh (vs:=vs) (a:=a) (i:=i) (v:=v) (x:=x) hn.2 (by simpa using hv) (by simpa using hx);have hne:¬w.name=v.name:=fun e=>hn.1 (qAN.2 ⟨v,qAn (i:=i) (by simpa using hv),e.symm⟩)
  have hne':(w.name==v.name)=false:=by simpa using hne
  unfold jA at ih⊢;simp only[qDP,qAz,qCU,hne'];exact ih
def qhd{v}(h:jW v=0)(l b):0<=qiY v l b/\qiY v l b<=65535:=by
 have h1:=V8 h;have h2:=zd h;unfold qiY;split
 . omega
 have:=kK (fun k=>b (l.toNat+v.width.toNat-1-k)) v.width.toNat;have h3:2^v.width.toNat<=2^8:=qAV (by omega) (by omega);omega
def qkR{p:Problem}{lv:List Int}(hl:lv.length=p.vars.length)(hn:(p.vars.map (·.name)).Nodup)(hve:∀v∈p.vars,jW v=0){i:Nat}{v:Var}{l:Int}(hv:p.vars[i]?=some v)(hli:lv[i]?=some l)(b:Nat->Bool) :
 (jA (yg p.vars (QM p.vars lv b)) v.name).getD 0=qiY v l b:=by
 have h1:=Qh hn hv (qe1 hv hli b);unfold yg;rw[if_pos (YM hl b),h1];have h2:=qhd (hve v (qAn hv)) l b;exact Qu h2.1 h2.2
def Ks{V}(hV:V.length=16):∀{Ws:List (List Nat)}{i:Nat},(∀w∈Ws,w.length=16)->i<Ws.length->zx (Ws.flatMap qy) (i*16) (qy V)=(Ws.set i V).flatMap qy
 |[],i,_,h=>by simp at h
 | a::r,0,h,_=>by
  rw[qAO,qCl,qDO,qAO];exact vd _ _ _ (by rw[jG,jG,h a (by simp),hV])
 | a::r,i+1,h,hi=>by
  have hi':i<r.length:=by simpa using hi
  rw[qAO,qDb,qAO,<- Ks hV (Ws:=r) (i:=i) (fun w hw=>h w (by simp[hw])) hi',qCL,qCs];have:=vY (c:=r.flatMap qy) (qy V) (qy a) (i*16)
  rwa[jG,h a (by simp)]at this
def qiz(p:Problem)(e:Ex):Prop:=∀x∈pre e,qs x=0/\x.op≠3/\x.op≠24/\(x.op=2->Qf p.vars x.name=true)/\x.args.length<=1000
def qiz.arg{p e a}(h:qiz p e)(ha:a∈e.args):qiz p a:=fun x hx=>h x (by rw[jB];exact qBT _ (ZP.2 ⟨a,ha,hx⟩))
def qiz.self{p e}(h:qiz p e):qs e=0/\e.op≠3/\e.op≠24/\(e.op=2->Qf p.vars e.name=true)/\e.args.length<=1000:=h e (by rw[jB];simp)
section
variable {c:Bc}{d:List Nd}{H:List Blk}{T:List (Option Nat)}
def qfJ:List (Nat×Sch×List Nat):=[(13,.step 1 [8,7,6,5] (.step 2 [8,7,6,5,4,3] (.step 3 [8,7,6,5,4] (.step 4 [8,7,6,5] (.fork (.cons 0 (.step 5 [8,7,6] (.step 6 [8,7] (.step 7 [8] (.step 8 [] (.done))))) (.cons 5 (.step 0 [8,7,6] (.step 6 [8,7] (.step 7 [8] (.step 8 [] (.done))))) (.nil))))))),[5,6]),(15,.step 0 [5,4] (.step 1 [5,4,3,2] (.step 2 [5,4,3] (.step 3 [5,4] (.step 4 [5] (.step 5 [] (.done)))))),[4]),(17,.step 0 [6,5] (.step 1 [6,5] (.step 2 [6,5,4,3] (.step 3 [6,5,4] (.step 4 [6,5] (.step 5 [6] (.step 6 [] (.done))))))),[5]),(19,.step 0 [5,4] (.step 1 [5,4,3,2] (.step 2 [5,4,3] (.step 3 [5,4] (.step 4 [5] (.step 5 [] (.done)))))),[4]),(21,.step 0 [8,7,6] (.step 1 [8,7,6,3,2] (.step 2 [8,7,6,3] (.step 3 [8,7,6] (.step 4 [8,7,6,5] (.step 5 [8,7,6] (.step 6 [8,7] (.step 7 [8] (.step 8 [] (.done))))))))),[6]),(23,.step 0 [6,4] (.step 1 [6,4,3,2] (.step 2 [6,4,3] (.step 3 [6,4] (.fork (.cons 4 (.step 5 [6] (.step 6 [] (.done))) (.cons 5 (.step 4 [6] (.step 6 [] (.done))) (.nil))))))),[4]),(24,.step 0 [8,7,2,1] (.step 1 [8,7,2] (.step 2 [8,7] (.step 3 [8,7,5,4] (.step 4 [8,7,5] (.step 5 [8,7] (.step 6 [8,7] (.step 7 [8] (.step 8 [] (.done))))))))),[7]),(25,.step 0 [10,9] (.step 1 [10,9,2] (.step 2 [10,9] (.step 3 [10,9,5,4] (.step 4 [10,9,5] (.step 5 [10,9] (.step 6 [10,9,8,7] (.step 7 [10,9,8] (.step 8 [10,9] (.step 9 [10] (.step 10 [] (.done))))))))))),[9])]
def qbw(h:BX c H d H){p lv}(hp:PB p lv c)(e)(he:qiz p e)(h0:e.args=[]) :
 qg prog (XG c) 134 [.ptr c.B 0,.agg (qp e)] ⟨H,T⟩ (WQ c d H fun b=>yf (yg p.vars (QM p.vars lv b)) e):=by
 refine qEH ⟨false,qfJ,[],[]⟩ qe func134 rfl (by kernel_rfl) ?_;obtain⟨hn,h3,h24,h2,_⟩:=he.self;obtain⟨o1,o2,o3,o4,o5,o6,o7,o8⟩:=ji hn;have hop:e.op=1\/e.op=2:=by
  unfold ql at o5;rw[h0]at o5;split at o5
  . simp at o5
  simp only[qBh,qBG,decide_eq_true_eq]at o5;unfold zB at o5
  repeat' split at o5
  all_goals omega
 have hk:∀j,H.length<=j->j≠c.B:=fun j hj=>(h.at hj).1
 have henc:=qc e;rw[h0]at henc;simp only[qAZ]at henc;rw[henc];simp[qI,jH,qT];have hx1:=h.app [.cells [.ptr c.B 0],.cells [.int .i64 e.op,.int .i64 e.n,.str e.name,.sl 4 [] .none],.cells (qy zf)];refine qEO (fun n ev U=>ev 2=.ptr H.length 0/\ev 3=.ptr (H.length+1) 0/\ev 4=.ptr (H.length+2) 0/\ev 15=.int .i64 0/\ev 16=.int .i64 0/\BX c H d U.H/\U.H[H.length]?=some (.cells [.ptr c.B 0])/\U.H[H.length+1]?=some (.cells [.int .i64 e.op,.int .i64 e.n,.str e.name,.sl 4 [] .none])/\U.H[H.length+2]?=some (.cells (qy zf))) 0 ?_ ?_
 . exact⟨by simp,by simp,by simp,by simp,by simp,hx1,lk0,lk1,lk2⟩
 rintro n ev ⟨H1,T1⟩ R hR ⟨e2,e3,e4,e15,e16,hx,bB,bE,bZ⟩;have hZl:=(qAm.1 bZ).1;simp[e2,e3,e15,e16,bE];rcases hop with hop|hop
 . have hnn:=o3 hop;have hc:=ym e.n.toNat (by omega);rw[Int.toNat_of_nonneg hnn.1]at hc;have hVl:((List.range 16).map fun k=>if e.n.toNat.testBit k=true then 1 else 0).length=16:=(by simp);have hwo:=Wl h.ok e.n.toNat;have hval:=fun b=>JE h.ok b (n:=e.n.toNat) (by omega)
   generalize ((List.range 16).map fun k=>if e.n.toNat.testBit k=true then 1 else 0)=V at *;simp[hop,bE];refine qEJ hc (by simp) ?_;simp[-getElem?_pos,e4,bZ,hZl,hVl,qo hVl,zo hVl (show(qy zf).length=16 from rfl),qT];refine⟨d,V,rfl,hx.set (by omega) _,qFe d,hwo,fun b=>?_⟩;dsimp only;rw[yO];unfold z5 vl;rw[if_pos hop,hval b];omega
 have hva:=h2 hop;unfold Qf at hva;rw[qAW]at hva;obtain⟨v,hm,hvn⟩:=hva;have hvn:v.name=e.name:=by simpa using hvn
 obtain⟨i,hi⟩:=qA5 hm;have hil:=(qAm.1 hi).1;obtain⟨l,hl⟩:∃l,lv[i]?=some l:=⟨_,qAo (by rw[hp.len];exact hil)⟩;have hw:=qdN hx.self hp hi hl (T:=T1);rw[hvn]at hw;have ht:¬e.op=1:=by omega
 simp[hop,e3,bE,bB];refine qEM hw ?_;rintro vv ⟨H2,T2⟩ ⟨d2,W,rfl,hxx,hg2,hW,hv2⟩;have cZ:=hxx.loc bZ (hk _ (by omega));have hl2:=(qAm.1 cZ).1;have hWl:=hW.1;simp[-getElem?_pos,e4,cZ,hl2,hWl,qo hWl,zo hWl (show(qy zf).length=16 from rfl),qT];refine⟨d2,W,rfl,(hx.call hxx).set (by omega) _,hg2,hW,fun b=>?_⟩;rw[hv2 b];dsimp only;rw[yO];unfold vl;rw[if_neg ht,if_pos hop,<- hvn,qkR hp.len hp.nodup hp.vars hi hl b]
end
def qn0(n):(List.replicate n (qy zf)).flatten=(List.replicate n zf).flatMap qy:=by rw[qBM,qDe]
def qko{x:Nat}:∀l:List Nat,je (x:Int) (l.map fun n:Nat=>(n:Int))=qpG x l
 |[]=>rfl
 |[_]=>rfl
 | a::b::r=>by
  simp only[qAz,je,qpG,qko r];congr 2
  . rw[qBd,decide_eq_true_iff,decide_eq_true_iff];omega
  rw[qBd,decide_eq_true_iff,decide_eq_true_iff];omega
section
variable {c:Bc}{d:List Nd}{H:List Blk}{T:List (Option Nat)}
def qlk(h:BX c H d H){h1 h2 t x y}(b1:H[h1]?=some (.cells [.ptr c.B 0]))(b2:H[h2]?=some (.cells [.int .i64 (t:Int)]))(ht:t<d.length)(hx:x<d.length)(hy:y<d.length) :
 qg prog (XG c) 201 [.int .i64 x,.int .i64 y,.ptr h1 0,.ptr h2 0] ⟨H,T⟩ (NQ c d H fun b=>evD d b t&&evD d b x||!evD d b t&&evD d b y):=by
 refine qEI qe func201 rfl (by kernel_rfl) ?_;simp[b1,b2];refine qEM (qlj c h ht hx hy) ?_;rintro v ⟨H2,T2⟩ ⟨d2,y,rfl,hxx2,hg2,hy2,hv2⟩;simp;exact⟨d2,y,rfl,hxx2,hg2,hy2,hv2⟩
def qbv(h:BX c H d H){p lv}(hp:PB p lv c)(e)(he:qiz p e)(h0:e.args≠[])
 (ih:∀a∈e.args,∀d H T,BX c H d H->qg prog (XG c) 134 [.ptr c.B 0,.agg (qp a)] ⟨H,T⟩ (WQ c d H fun b=>yf (yg p.vars (QM p.vars lv b)) a)) :
 qg prog (XG c) 134 [.ptr c.B 0,.agg (qp e)] ⟨H,T⟩ (WQ c d H fun b=>yf (yg p.vars (QM p.vars lv b)) e):=by
 obtain⟨val,hvale⟩:∃val:(Nat->Bool)->Ex->Int,∀b e,yf (yg p.vars (QM p.vars lv b)) e=val b e:=⟨_,fun _ _=>rfl⟩;simp only[hvale]at ih⊢;refine qEH ⟨false,qfJ,[],[]⟩ qe func134 rfl (by kernel_rfl) ?_;obtain⟨hn,h3,h24,h2,hal⟩:=he.self;have hk:∀j,H.length<=j->j≠c.B:=fun j hj=>(h.at hj).1
 have hpos:=qAI.2 h0;have hpos':¬(e.args.length:Int)=0:=by omega
 rw[qc e];simp[qI,jH,qT,show(e.args.length:Int)<=549755813888 by omega,h0,qn0];refine qEZ e.args (fun dn ev U=>ev 2=.ptr H.length 0/\ev 3=.ptr (H.length+1) 0/\ev 4=.ptr (H.length+2) 0/\ev 5=.ms (H.length+3) 0 e.args.length 16/\ev 14=.sl 4 (e.args.map qp) .none/\ev 15=.int .i64 e.args.length/\ev 16=.int .i64 dn.length /\
  ∃ (d':List Nd) (Ws:List (List Nat)),BX c H d' U.H/\za d d'/\Ws.length=e.args.length/\(∀w∈Ws,q9 d' w)/\(∀b,(Ws.take dn.length).map (z5 d' b)=dn.map (val b)) /\
   U.H[H.length]?=some (.cells [.ptr c.B 0])/\U.H[H.length+1]?=some (.cells [.int .i64 e.op,.int .i64 e.n,.str e.name,.sl 4 (e.args.map qp) .none])/\U.H[H.length+2]?=some (.cells (qy zf))/\U.H[H.length+3]?=some (.cells (Ws.flatMap qy))) ?_ ?_ ?_
 . refine⟨by simp,by simp,by simp,by simp,by simp,by simp,by simp,d,List.replicate e.args.length zf,?_,qFe d,by simp,fun w hw=>?_,fun b=>by simp,?_,?_,?_,?_⟩
   . exact h.app _
   . rw[qCc]at hw;rw[hw.2];exact wh h.ok
   . exact lk0
   . exact lk1
   . exact lk2
   . exact lk3
 . rintro dn a rest ev ⟨H1,T1⟩ R hR hd hx hlt ⟨e2,e3,e4,e5,e14,e15,e16,d1,Ws,hx1,hg,hWl,hWs,hv,bB,bE,bZ,bW⟩;dsimp only at hx1 bB bE bZ bW;have ham:=qAn hx;have hdw:=wr (n:=(dn.length:Int)+1) (by omega) (by omega);have hlt':(dn.length:Int)<e.args.length:=(by omega);have hH1l:=(qAm.1 bW).1;have hihx:=hx1.self.app [.cells (qp a)];have hih:=fun T=>ih a ham d1 _ T (hx1.app [.cells (qp a)]).self
   have hflen:=K7 (Ws:=Ws) fun w hw=>(hWs w hw).1
   rw[hWl]at hflen;have hput:∀{V:List Nat},V.length=16->zx (Ws.flatMap qy) (dn.length*16) (qy V)=(Ws.set dn.length V).flatMap qy:=fun {V} hV=>Ks hV (fun w hw=>(hWs w hw).1) (by omega)
   rw[qc a]at hih;simp[e2,e5,e14,e15,e16,hlt',hx,qc a,qd bB];refine qEM (hih T1) ?_;rintro v ⟨H2,T2⟩ ⟨d2,V,rfl,hxx2,hg2,hV,hv2⟩;dsimp only at hv2;have hVl:=hV.1;have hx2:=(hx1.app [.cells (qp a)]).call (by rw[qc a];exact hxx2);have up:∀{k:Nat} {x:Blk},H.length<=k->H1[k]?=some x->H2[k]?=some x:=fun {k x} hl hq=>hxx2.loc (qd hq _) (hk k hl)
   have cW:=up (by omega) bW;have hl2:=(qAm.1 cW).1;simp[e16,hlt',cW,hflen,show dn.length*16+16<=e.args.length*16 by omega,hVl,hput hVl,hdw];refine hR _ _ ⟨by simp[e2],by simp[e3],by simp[e4],by simp[e5],by simp[e14],by simp[e15],by simp,d2,Ws.set dn.length V,hx2.set (by omega) _,hg.trans hg2,by simp[hWl],fun w hw=>?_,fun b=>?_,?_,?_,?_,qAt hl2⟩
   . rcases qCr hw with hw|rfl
     . exact(hWs w hw).grown hg2
     . exact hV
   . have h1:(Ws.set dn.length V).take (dn++[a]).length=Ws.take dn.length++[V]:=by
      rw[qAq,qAQ,qAT,qAt (by omega),List.take_set_of_le (qAy _)];rfl
     rw[h1,qBp,qBp,<- hv b];congr 1
     . apply qBv;intro w hw;exact qhI hx1.ok hg2 (hWs w (qBa hw)) b
     simp only[qAz,qAZ];rw[hv2 b]
   . rw[qAp (by omega)];exact up (by omega) bB
   . rw[qAp (by omega)];exact up (by omega) bE
   rw[qAp (by omega)];exact up (by omega) bZ
 rintro ev ⟨H1,T1⟩ ⟨e2,e3,e4,e5,e14,e15,e16,d1,Ws,hx,hg,hWl,hWs,hv,bB,bE,bZ,bW⟩;dsimp only at hx bB bE bZ bW;have hvf:∀b,Ws.map (z5 d1 b)=e.args.map (val b):=fun b=>by
  have:=hv b
  rwa[qAs (by omega)]at this
 have hflen:=K7 (fun w hw=>(hWs w hw).1);have hnode:∀b,val b e=opW e.op (Ws.map (z5 d1 b)):=fun b=>by
  rw[<- hvale,yO];unfold vl;rw[hvf b];have:(List.map (yf (yg p.vars (QM p.vars lv b))) e.args)=e.args.map (val b):=qBv fun a _=>hvale b a
  rw[this];have h1:e.op≠1/\e.op≠2:=by
   obtain⟨o1,o2,o3,o4,o5,o6,o7,o8⟩:=ji hn;unfold ql at o5;constructor
   . intro h;rw[h]at o5;simp[zB]at o5;exact h0 o5
   intro h;rw[h]at o5;simp[zB]at o5;exact h0 o5
  rw[if_neg h1.1,if_neg h1.2,if_neg h3,if_neg h24]
 have fin:∀{H4:List Blk} {d4:List Nd} {V:List Nat} {τ:St},τ.H=H4.set (H.length+2) (.cells (qy V))->BX c H d4 H4->za d1 d4->q9 d4 V->(∀b,z5 d4 b V=opW e.op (Ws.map (z5 d1 b)))->WQ c d H (fun b=>val b e) (.agg (qy V)) τ:=fun {H4 d4 V τ} hτ hx4 hg4 hV hvv=>by
  refine⟨d4,_,rfl,?_,hg.trans hg4,hV,fun b=>by rw[hvv];exact(hnode b).symm⟩;rw[hτ];exact hx4.set (by omega) _
 have hZl:=(qAm.1 bZ).1;obtain⟨o1,o2,o3,o4,o5,o6,o7,o8⟩:=ji hn;have hop:((e.op=4\/e.op=5\/e.op=6\/e.op=25)/\e.args.length=1)\/(e.op=22/\e.args.length=3)\/(e.op=23/\3<=e.args.length)\/(7<=e.op/\e.op<=21/\e.args.length=2):=by
  unfold ql at o5;split at o5
  . simp only[decide_eq_true_eq]at o5;omega
  simp only[decide_eq_true_eq]at o5;unfold zB at o5
  repeat' split at o5
  all_goals omega
 have hZ16:(qy zf).length=16:=rfl;have ht:=hx.ok.two;rcases hop with⟨hop,h1⟩|⟨hop,h1⟩|⟨hop,h1⟩|⟨hop7,hop21,h1⟩
 . -- one operand
   rw[h1]at hWl e5;obtain⟨w0,rfl⟩:=List.length_eq_one_iff.1 hWl;have hw0:=hWs w0 (by simp);have hw0l:=hw0.1;simp only[qAO,qC0,qA6]at bW;rcases hop with hop|hop|hop|hop
   . simp[e3,e15,e16,bE,hop,h1];rw[qR rfl];simp[ze,e2,e5,bB,bW,hw0l,qo hw0l];have key:=Qx hx.self hw0 (T:=T1);refine⟨qEM key ?_,qEM key ?_⟩
     all_goals
      rintro v ⟨H2,T2⟩ ⟨d2,t,rfl,hxx2,hg2,ht2,hv2⟩;dsimp only at hv2;have hx2:=hx.call hxx2;have cB:=hxx2.loc bB (hk _ (by omega));dsimp only at cB;simp[ze,e2,cB];refine qEM (Q4 c hx2.self ht2) ?_;rintro v ⟨H3,T3⟩ ⟨d3,u,rfl,hxx3,hg3,hu,hv3⟩;dsimp only at hv3;have hx3:=hx2.call hxx3;have cZ:=hxx3.loc (hxx2.loc bZ (hk _ (by omega))) (hk _ (by omega));have hl3:=(qAm.1 cZ).1;dsimp only at cZ hl3;simp[ze];refine qEJ (jl u) (by simp) ?_;have cut1:(qy (u::List.replicate 15 0)).take 16=qy (u::List.replicate 15 0):=qo rfl;have put1:zx (qy zf) 0 (qy (u::List.replicate 15 0))=qy (u::List.replicate 15 0):=zo rfl rfl;have ky:=fin (H4:=H3) (d4:=d3) (V:=u::List.replicate 15 0) (τ:=⟨H3.set (H.length+2) (.cells (qy (u::List.replicate 15 0))),T3⟩) rfl hx3 (hg2.trans hg3) (qcm hx3.ok hu) (fun b=>by
       rw[qaw hx3.ok,hv3,hv2,vQ,hop];simp[opW,unW,z5])
      simp only[List.reduceReplicate]at ky cut1 put1;simp[-getElem?_pos,ze,e4,cZ,qT,put1,hl3,cut1];exact ky
   . simp[e3,e15,e16,bE,hop,h1];rw[qR rfl];simp[ze,e2,e5,bB,bW,hw0l,qo hw0l];refine qEM (Z7 hx.self hw0) ?_;rintro v ⟨H2,T2⟩ ⟨d2,V,rfl,hxx2,hg2,hV,hv2⟩;dsimp only at hv2;have hVl:=hV.1;have cZ:=hxx2.loc bZ (hk _ (by omega));have hl3:=(qAm.1 cZ).1;dsimp only at cZ hl3;simp[-getElem?_pos,ze,e4,cZ,qT,hVl,zo hVl hZ16,hl3,qo hVl];refine fin rfl (hx.call hxx2) hg2 hV fun b=>?_
     unfold z5;rw[zt (hv2 b),qxe,hop];rfl
   . have hc0:=ym 0 (by omega);rw[qgB]at hc0;simp only[qBG]at hc0;simp[e3,e15,e16,bE,hop,h1];rw[qR rfl];simp[ze,e2,bB];refine qEJ hc0 (by simp) ?_;simp[ze,e5,bW,hw0l,qo hw0l];refine qEM (Z4 hx.self (wh hx.ok) hw0) ?_;rintro v ⟨H2,T2⟩ ⟨d2,V,rfl,hxx2,hg2,hV,hv2⟩;dsimp only at hv2;have hVl:=hV.1;have cZ:=hxx2.loc bZ (hk _ (by omega));have hl3:=(qAm.1 cZ).1;dsimp only at cZ hl3;simp[-getElem?_pos,ze,e4,cZ,qT,hVl,zo hVl hZ16,hl3,qo hVl];refine fin rfl (hx.call hxx2) hg2 hV fun b=>?_
     rw[qeo (hv2 b),<- wk,qtG,kJ fun k _=>kE hx.ok b k,hop];simp[opW,unW,z5]
   simp[e3,e15,e16,bE,hop,h1];rw[qR rfl];simp[ze,e2,e5,bB,bW,hw0l,qo hw0l];refine qEM (qrw hx.self hw0) ?_;rintro v ⟨H2,T2⟩ ⟨d2,V,rfl,hxx2,hg2,hV,hv2⟩;dsimp only at hv2;have hVl:=hV.1;have cZ:=hxx2.loc bZ (hk _ (by omega));have hl3:=(qAm.1 cZ).1;dsimp only at cZ hl3;simp[-getElem?_pos,ze,e4,cZ,qT,hVl,zo hVl hZ16,hl3,qo hVl];refine fin rfl (hx.call hxx2) hg2 hV fun b=>?_
   have hr:=qhH d1 b w0;have hwi:=Qu hr.1 hr.2;unfold z5 at hwi⊢;rw[hv2 b,<- Vv _ 16 (by omega),hop];simp[opW,unW,hwi]
 . -- a choice
   rw[h1]at hWl e5;obtain⟨w0,w1,w2,rfl⟩:∃w w' w'',Ws=[w,w',w'']:=by
    match Ws,hWl with
    |[a,b,c],_=>exact⟨a,b,c,rfl⟩
   have hw0:=hWs w0 (by simp);have hw0l:=hw0.1;have hw1:=hWs w1 (by simp);have hw1l:=hw1.1;have hw2:=hWs w2 (by simp);have hw2l:=hw2.1;simp only[qAO,qC0,qA6]at bW;have c0:(qy w0++(qy w1++qy w2)).take 16=qy w0:=(by rw[qBx (by simp[hw0l]),qo hw0l]);have c1:((qy w0++(qy w1++qy w2)).drop 16).take 16=qy w1:=by
    rw[qCe,qA3 (by simp[hw0l]),jG,hw0l,qBm,qBz,qAK,qBx (by simp[hw1l]),qo hw1l]
   have c2:(qy w0++(qy w1++qy w2)).drop 32=qy w2:=by
    rw[qCe,qA3 (by simp[hw0l]),jG,hw0l,qAK,qCe,qA3 (by simp[hw1l]),jG,hw1l];rfl
   have cl:(qy w0++(qy w1++qy w2)).length=48:=(by simp[hw0l,hw1l,hw2l]);generalize qy w0++(qy w1++qy w2)=F at *;simp[e3,e15,e16,bE,hop,h1];rw[qR rfl];simp[ze,e2,e5,bB,bW,cl,c0]
   -- what is behind the truth
   have rest:∀{H2:List Blk} {T2:List (Option Nat)} {d2:List Nd} {t N:Nat},BX c H d2 H2->za d1 d2->t<d2.length->(∀b,evD d2 b t=Jc (qq d1 b w0) 16)->(∀{k:Nat} {x:Blk},H.length<=k->H1[k]?=some x->H2[k]?=some x)->H2[N]?=some (.cells [.int .i64 (t:Int)])->N≠c.B ->
    qg prog (XG c) 200 [.agg (qy w1),.agg (qy w2),.fn 201 [] [.ptr H.length 0,.ptr N 0]] ⟨H2,T2⟩ (BQ c d2 H2 fun b k=>if Jc (qq d1 b w0) 16=true then qq d1 b w1 k else qq d1 b w2 k):=by
    intro H2 T2 d2 t N hx2 hg2 ht2 htv up bN hN;have cB:=up (qAy _) bB;have:=Yz hx2.self (hw1.grown hg2) (hw2.grown hg2) (T:=T2) (g:=201) (first:=[]) (cap:=[.ptr H.length 0,.ptr N 0]) (F:=fun b p q=>Jc (qq d1 b w0) 16&&p||!Jc (qq d1 b w0) 16&&q) (fun d3 H3 T3 x y hx3 hg3 hxl hyl=>by
     have key:=qlk hx3.self (h1:=H.length) (h2:=N) (t:=t) (x:=x) (y:=y) (T:=T3) (hx3.loc cB (hk _ (qAy _))) (hx3.loc bN hN) (qAF ht2 hg3.len) hxl hyl;have e:(fun b=>evD d3 b t&&evD d3 b x||!evD d3 b t&&evD d3 b y)=fun b=>Jc (qq d1 b w0) 16&&evD d3 b x||!Jc (qq d1 b w0) 16&&evD d3 b y:=by
      funext b;rw[hg3.ev hx2.ok b ht2,htv]
     rw[e]at key;exact key)
    refine this.imp fun v U ⟨d',W,e1,e2,e3,e4,e5⟩=>⟨d',W,e1,e2,e3,e4,fun b k hk=>?_⟩
    rw[e5 b k hk];dsimp only;rw[zJ hx.ok hg2 hw1 b hk,zJ hx.ok hg2 hw2 b hk];cases Jc (qq d1 b w0) 16<;>simp
   have vG:∀{H4:List Blk} {T4:List (Option Nat)} {d2 d4:List Nd} {V:List Nat},BX c H d4 H4->za d1 d2->za d2 d4->q9 d4 V->(∀b k,k<16->qq d4 b V k=if Jc (qq d1 b w0) 16=true then qq d1 b w1 k else qq d1 b w2 k)->WQ c d H (fun b=>val b e) (.agg (qy V)) ⟨H4.set (H.length+2) (.cells (qy V)),T4⟩:=fun {H4 T4 d2 d4 V} hx4 hg2 hg4 hV hvv=>by
    refine fin rfl hx4 (hg2.trans hg4) hV fun b=>?_
    unfold z5;rw[zt (hvv b),hop,vQ];by_cases h:(zr (qq d1 b w0) 16:Int)=0
    . have h':zr (qq d1 b w0) 16=0:=(by omega);simp[opW,h']
    have h':¬zr (qq d1 b w0) 16=0:=(by omega);simp[opW,h']
   refine⟨qEM (Qx hx.self hw0) ?_,qEM (Qx (hx.app _).self hw0) ?_⟩
   . rintro v ⟨H2,T2⟩ ⟨d2,t,rfl,hxx2,hg2,ht2,hv2⟩;dsimp only at hv2;have hx2:=hx.call hxx2;have up:∀{k:Nat} {x:Blk},H.length<=k->H1[k]?=some x->H2[k]?=some x:=fun {k x} hl hq=>hxx2.loc hq (hk k hl)
     have cW:=up (by omega) bW;simp[ze];rw[qR rfl];simp[ze,e2,e5,qd cW,cl,c1,c2,qo hw2l];refine qEM (rest (hx2.app [.cells [.int .i64 (t:Int)]]) hg2 ht2 hv2 (fun hl hq=>qd (up hl hq) _) lk0 (hk _ (hx2.kp.1))) ?_;rintro v ⟨H3,T3⟩ ⟨d3,V,rfl,hxx3,hg3,hV,hv3⟩;have hx3:=(hx2.app [.cells [.int .i64 (t:Int)]]).call hxx3;have hVl:=hV.1;have cZ:=hxx3.loc (qd (up (by omega) bZ) _) (hk _ (by omega));have hl3:=(qAm.1 cZ).1;dsimp only at cZ hl3;simp[-getElem?_pos,ze,e4,cZ,qT,hVl,zo hVl hZ16,hl3,qo hVl];exact vG hx3 hg2 hg3 hV hv3
   rintro v ⟨H2,T2⟩ ⟨d2,t,rfl,hxx2,hg2,ht2,hv2⟩;dsimp only at hv2;have hx2:=(hx.app _).call hxx2;have up:∀{k:Nat} {x:Blk},H.length<=k->H1[k]?=some x->H2[k]?=some x:=fun {k x} hl hq=>hxx2.loc (qd hq _) (hk k hl)
   have hH1l:=hx.kp.1;have bN:=hxx2.loc (lk0 (H:=H1) (p:=Blk.cells [.int .i64 0]) (t:=[])) (hk _ hH1l);have hNl:=(qAm.1 bN).1;have hH13:=(qAm.1 bW).1;have cW:=up (by omega) bW;have up3:∀{k:Nat} {x:Blk},H.length<=k->H1[k]?=some x->(H2.set H1.length (.cells [.int .i64 (t:Int)]))[k]?=some x:=fun {k x} hl hq=>by
    have:=(qAm.1 hq).1;rw[qAp (by omega)];exact up hl hq
   have dW:=up3 (by omega) bW;simp[ze,bN];rw[qR rfl];simp[ze,e2,e5,dW,cl,c1,c2,qo hw2l];refine qEM (rest (hx2.set hH1l _) hg2 ht2 hv2 up3 (qAt hNl) (hk _ hH1l)) ?_;rintro v ⟨H3,T3⟩ ⟨d3,V,rfl,hxx3,hg3,hV,hv3⟩;have hx3:=(hx2.set hH1l _).call hxx3;have hVl:=hV.1;have cZ:=hxx3.loc (up3 (by omega) bZ) (hk _ (by omega));have hl3:=(qAm.1 cZ).1;dsimp only at cZ hl3;simp[-getElem?_pos,ze,e4,cZ,qT,hVl,zo hVl hZ16,hl3,qo hVl];exact vG hx3 hg2 hg3 hV hv3
 . -- ranges
   obtain⟨w0,Wr,rfl⟩:∃w r,Ws=w::r:=by
    match Ws,hWl with
    |a::r,_=>exact⟨a,r,rfl⟩
    |[],h=>simp at h;omega
   have hw0:=hWs w0 (by simp);have hw0l:=hw0.1;have hWrl:Wr.length+1=e.args.length:=(by simpa using hWl);rw[<- hWrl]at e5;have hsl:zj (.ms (H.length+3) 0 (Wr.length+1) 16) (some (.int .i64 1)) none none=some (.ms (H.length+3) 16 Wr.length 16):=by
    have h2:(1:Int)<=((Wr.length+1:Nat):Int):=(by omega);show(if(0:Int)<=1/\(1:Int)<=((Wr.length+1:Nat):Int)/\((Wr.length+1:Nat):Int)<=((Wr.length+1:Nat):Int)/\((1:Int)=0\/(1:Int)<((Wr.length+1:Nat):Int)) then _ else _)=_;rw[if_pos ⟨by omega,h2,qDI _,.inr (by omega)⟩];simp
   have hpos1:(0:Int)<(Wr.length:Int)+1:=(by omega);have hin:=qkm hx.self hw0 (A:=H.length+3) (V:=w0) (Ws:=Wr) hw0l (fun w hw=>hWs w (by simp[hw])) (by simpa using bW) (hk _ (by omega)) (by omega) (T:=T1);simp only[qAO]at bW hflen;have c0:(qy w0++Wr.flatMap qy).take 16=qy w0:=(by rw[qBx (by simp[hw0l]),qo hw0l]);have cl:16<=(qy w0++Wr.flatMap qy).length:=(by simp[hw0l]);generalize qy w0++Wr.flatMap qy=F at *;simp[e3,e15,e16,bE,hop];rw[qR rfl];simp[ze,e2,e5,bB,bW,cl,c0,hsl,hpos1];refine qEM hin ?_;rintro v ⟨H2,T2⟩ ⟨d2,u,rfl,hxx2,hg2,hu,hv2⟩;dsimp only at hv2;have hx2:=hx.call hxx2;have cZ:=hxx2.loc bZ (hk _ (by omega));have hl3:=(qAm.1 cZ).1;dsimp only at cZ hl3;simp[ze];refine qEJ (jl u) (by simp) ?_;have cut1:(qy (u::List.replicate 15 0)).take 16=qy (u::List.replicate 15 0):=qo rfl;have put1:zx (qy zf) 0 (qy (u::List.replicate 15 0))=qy (u::List.replicate 15 0):=zo rfl rfl;have ky:=fin (H4:=H2) (d4:=d2) (V:=u::List.replicate 15 0) (τ:=⟨H2.set (H.length+2) (.cells (qy (u::List.replicate 15 0))),T2⟩) rfl hx2 hg2 (qcm hx2.ok hu) (fun b=>by
    rw[qaw hx2.ok,hv2,hop];have:(Wr.map (z5 d1 b))=(Wr.map fun w=>zr (qq d1 b w) 16).map fun n:Nat=>(n:Int):=by
     rw[qBR];rfl
    simp only[opW,qAz,List.tail_cons,this];have hins:=qko (x:=zr (qq d1 b w0) 16) (Wr.map fun w=>zr (qq d1 b w) 16);show _=b2i (je (z5 d1 b w0) _);rw[<- hins];rfl)
   simp only[List.reduceReplicate]at ky cut1 put1;simp[-getElem?_pos,ze,e4,cZ,qT,put1,hl3,cut1];exact ky
 -- two operands
 rw[h1]at hWl e5;obtain⟨w0,w1,rfl⟩:∃w w',Ws=[w,w']:=by
  match Ws,hWl with
  |[a,b],_=>exact⟨a,b,rfl⟩
 have hw0:=hWs w0 (by simp);have hw0l:=hw0.1;have hw1:=hWs w1 (by simp);have hw1l:=hw1.1;have c0:(qy w0++qy w1).take 16=qy w0:=by rw[qBx (by simp[hw0l]),qo hw0l]
 have c1:(qy w0++qy w1).drop 16=qy w1:=by rw[qCe,qA3 (by simp[hw0l]),jG,hw0l];rfl
 have cl:(qy w0++qy w1).length=32:=by simp[hw0l,hw1l]
 simp only[qAO,qC0,qA6]at bW;generalize qy w0++qy w1=F at *;have n23:¬e.op=23:=by omega
 have n22:¬e.op=22:=by omega
 simp[-getElem?_pos,e2,e3,e15,e16,bE,h1,show ¬e.op=1 by omega,show ¬e.op=2 by omega,show ¬e.op=4 by omega,show ¬e.op=5 by omega,show ¬e.op=6 by omega,show ¬e.op=25 by omega,n23,n22];rw[qR rfl];simp[-getElem?_pos,ze,e2,e3,e5,bB,bE,bW,cl,c0,c1,qo hw1l];refine qEM (qlu hx.self hw0 hw1 hop7 hop21) ?_;rintro v ⟨H2,T2⟩ ⟨d2,V,rfl,hxx2,hg2,hV,hv2⟩;dsimp only at hv2;have hVl:=hV.1;have cZ:=hxx2.loc bZ (hk _ (by omega));have hl3:=(qAm.1 cZ).1;dsimp only at cZ hl3;simp[-getElem?_pos,ze,e4,cZ,qT,hVl,zo hVl hZ16,hl3,qo hVl];refine fin rfl (hx.call hxx2) hg2 hV fun b=>?_
 rw[hv2 b];simp[opW,n22,n23]
def qqo{p lv}(hp:PB p lv c):∀(e),qiz p e->∀d H T,BX c H d H->qg prog (XG c) 134 [.ptr c.B 0,.agg (qp e)] ⟨H,T⟩ (WQ c d H fun b=>yf (yg p.vars (QM p.vars lv b)) e):=by
 refine qE7 fun e ih he d H T h=>?_
 by_cases h0:e.args=[]
 . exact qbw h hp e he h0
 exact qbv h hp e he h0 fun a ha d H T h=>ih a ha (he.arg ha) d H T h
end
def Ky(n):Pure prog GG 303 [.int .i64 n] (.agg (qp (jD n))):=by
 refine qEG qe func303 rfl (by kernel_rfl) ?_;simp[jD,qc,zs,zW,qM]
def qub{L:List Rg}{r:Rg}{n}:((L++[r]).flatMap ki).set (L.length*2+1) (.int .i64 n)=(L++[(r.1,n)]).flatMap ki:=by
 rw[List.flatMap_append,List.flatMap_append,qBc _ _ (by rw[jq (sz:=2) (fun x=>by simp)];omega),jq (sz:=2) (fun x=>by simp)];have:L.length*2+1-L.length*2=1:=by omega
 rw[this];simp
def qoR(out:List Rg)(n):(vB out n).length<=out.length+1:=by
 unfold vB
 cases h:out.getLast? with
 |none=>simp
 | some r=>
  simp only;split<;>simp
def qcW:∀(l:List Int) (out:List Rg),(l.foldl vB out).length<=out.length+l.length
 |[],out=>by simp
 | n::l,out=>by
  rw[qA1];have:=qcW l (vB out n);have:=qoR out n;simp;omega
def qjz(l)(hl:l.length<=1000)(hn:∀n∈l,0<=n/\n<=65535):Pure prog GG 247 [.sl 1 (l.map qh) .none] (.sl 2 ((Qz l).map ki) .none):=by
 refine qEF ⟨true,[],[],[]⟩ true qe func247 rfl (by kernel_rfl) ?_;have hr:Qz l=l.foldl vB []:=rfl;generalize Qz l=O at hr;simp;refine qEZ l (fun d ev U=>ev 7=.sl 1 (l.map qh) .none/\ev 8=.int .i64 l.length/\ev 9=.int .i64 d.length/\∃H b,U=⟨H,[]⟩/\jx b 2 ki H (ev 3) (d.foldl vB [])) ?_ ?_ ?_
 . exact⟨by simp,by simp,by simp,[],0,by simp,.inl ⟨rfl,by simp⟩⟩
 . rintro d n rest ev U R hR hd hx hlt ⟨e7,e8,e9,H,b,rfl,ho⟩;have hw:=wr (n:=(d.length:Int)+1) (by omega) (by omega);have hlen:(d.foldl vB []).length<=d.length:=(by have:=qcW d [];simpa using this);have hnn:=hn n (qAn hx);have hwn:=wr (n:=n-1) (by omega) (by omega);have hnext:(d++[n]).foldl vB []=vB (d.foldl vB []) n:=(by simp);generalize d.foldl vB []=L at *;have hgo:∀(ev':Env) H' b',ev' 7=.sl 1 (l.map qh) .none->ev' 8=.int .i64 l.length->ev' 9=.int .i64 (d.length+1:Nat)->jx b' 2 ki H' (ev' 3) (vB L n)->R ev' ⟨H',[]⟩:=fun ev' H' b' a1 a2 a3 a4=>
    hR _ _ ⟨a1,a2,by simpa using a3,H',b',rfl,by rw[hnext];exact a4⟩
   generalize hv3:ev 3=v3 at *
   cases hg:L.getLast? with
   | none=>
    have hL:=qCJ.1 hg;have hadd:vB L n=[(n,n)]:=(by subst hL;rfl);obtain⟨v',b',H2,hY,ho2,_,_,_⟩:=ho.appendK (P:=prog) (G:=zk GG) (o:=⟨true,[],[],[]⟩) (T:=[]) (m:=[(n,n)]) (tok:=.tight) qzh rfl qzg rfl (by omega) rfl (by decide) (fun x=>by simp) (by simp;omega);subst hL;rcases ho with⟨_,rfl⟩|⟨h,_⟩
    case inr=>exact absurd rfl h
    simp only[qAz,qAZ,ki]at hY;simp[-getElem?_pos,hv3,hY,e7,e8,e9,hlt,hx,hw,show IntKind.i64.wrap (-1) = -1 by decide,zs,zW,qM,qf,qm];exact hgo _ _ _ (by simp[e7]) (by simp[e8]) (by simp) (by rw[hadd];simpa using ho2)
   | some r=>
    obtain⟨L',rfl⟩:=qCK.1 hg;have hLne:L'++[r]≠[]:=(by simp);obtain⟨hv,hb⟩:=ho.at hLne;have hll:(L'++[r]).length=L'.length+1:=(by simp);have hlw:=wr (n:=(L'.length:Int)) (by omega) (by omega);have hf0:(L'.flatMap ki).length=L'.length*2:=jq (sz:=2) (fun x=>by simp) L';have hfe:(L'++[r]).flatMap ki=L'.flatMap ki++[.int .i64 r.1,.int .i64 r.2]:=(by rw[List.flatMap_append];simp);have hfl:((L'++[r]).flatMap ki).drop (L'.length*2+1)=[.int .i64 r.2]:=by
     rw[hfe,qCe,hf0,qA3 (by omega),show L'.length*2+1-L'.length*2=1 by omega];rfl
    have hln:((L'++[r]).flatMap ki).length=L'.length*2+2:=(by rw[hfe,qAq,hf0];rfl);have hsetl:=qub (L:=L') (r:=r) (n:=n);have hbl:=(qAm.1 hb).1;rw[hll]at hv;subst hv;have hlt2:(L'.length:Int)<L'.length+1:=(by omega);by_cases hr2:r.2=n-1
    . have hadd:vB (L'++[r]) n=L'++[(r.1,n)]:=(by unfold vB;rw[hg];simp[hr2]);generalize (L'++[r]).flatMap ki=fl at *;simp[-getElem?_pos,hv3,hb,hlt2,hfl,hln,hsetl,hlw,hwn,hr2,hw,e7,e8,e9,hlt,hx];exact hgo _ _ b (by simp[e7]) (by simp[e8]) (by simp) (by
       rw[hadd];exact .inr ⟨by simp,by simp[hv3],by rw[qAt hbl];simp⟩)
    have hadd:vB (L'++[r]) n=L'++[r]++[(n,n)]:=(by unfold vB;rw[hg];simp[hr2]);obtain⟨v',b',H2,hY,ho2,_,_,_⟩:=ho.appendK (P:=prog) (G:=zk GG) (o:=⟨true,[],[],[]⟩) (T:=[]) (m:=[(n,n)]) (tok:=.tight) qzh rfl qzg rfl (by omega) rfl (by decide) (fun x=>by simp) (by simp at hlen⊢;omega);simp only[qAz,qAZ,ki]at hY;generalize (L'++[r]).flatMap ki=fl at *;simp[-getElem?_pos,hv3,hb,hlt2,hfl,hln,hsetl,hlw,hwn,hr2,hw,e7,e8,e9,hlt,hx,hY,zs,zW,qM,qf,qm];exact hgo _ _ b' (by simp[e7]) (by simp[e8]) (by simp) (by rw[hadd];simpa using ho2)
 rintro ev U ⟨e7,e8,e9,H,b,rfl,ho⟩;rw[<- hr]at ho;simp[e8,e9];exact⟨ho.frzNo (fun x=>by simp) (fun x=>by simp) (fun x=>by simp) 7,ho.frz (fun x=>by simp) (fun x=>by simp) (fun x=>by simp) 7⟩
def qmR(s:Str):List AV:=[.int .i64 2,.int .i64 0,.str s,.sl 0 [] .nil]
def ka(d:List Rg):List Ex:=d.flatMap fun r=>[jD r.1,jD r.2]
def qdl(s:Str)(d:List Rg):AV:=match d with
 |[]=>.sl 4 [qmR s] .tight
 |r::q=>.sl 4 (qmR s::(ka (r::q)).map qp) (.chain 0 (2*(q.length+1)))
def qlG(d:List Rg):List (Option Nat):=match d with
 |[]=>[]
 |_::q=>[some (2*(q.length+1))]
def qoM(s)(d:List Rg)(r:Rg)(hl:d.length<=1000)(H):qr (Dof prog) ⟨H,qlG d⟩ 23 (qdl s d) (.sl 4 [qp (jD r.1),qp (jD r.2)] .tight)=some (qdl s (d++[r]),⟨H,qlG (d++[r])⟩):=by
 cases d with
 |nil=>simp[qr,qdl,qlG,qY,ka]
 | cons a q=>
  have h2:((ka (a::q)).map qp).length+1+2<=549755813888:=by rw[show((ka (a::q)).map qp).length=2*(q.length+1) by rw[qAY,ka,qay];simp];simp at hl;omega
  show qr (Dof prog) ⟨H,[some (2*(q.length+1))]⟩ 23 (.sl 4 (qmR s::(ka (a::q)).map qp) (.chain 0 (2*(q.length+1)))) _=some (.sl 4 (qmR s::(ka (a::q++[r])).map qp) (.chain 0 (2*((q++[r]).length+1))),⟨H,[some (2*((q++[r]).length+1))]⟩);rw[show ka (a::q++[r])=ka (a::q)++[jD r.1,jD r.2] by simp[ka],<- show 2*(q.length+1)+2=2*((q++[r]).length+1) by simp;omega];generalize (ka (a::q))=N at h2⊢;simp only[qAY]at h2;simp[qr,qY,h2]
def WC:∀L:List (List AV),yh L L
 |[]=>by simp
 |a::r=>by simp
def qcJ(s:Str)(l:List Rg)(hl:l.length<=1000):Pure prog GG 304 [.str s,.sl 2 (l.map ki) .none] (.agg (qp (Qd s l))):=by
 refine qEG qe func304 rfl (by kernel_rfl) ?_;simp[zs,zW,qM,qf,qm];refine qEN l (fun d ev U=>ev 4=.ptr 0 0/\ev 5=qdl s d/\ev 11=.sl 2 (l.map ki) .none/\ev 12=.int .i64 l.length/\ev 13=.int .i64 d.length/\∃t,U=⟨.cells [.int .i64 0,.int .i64 0,.str [],.sl 0 [] .nil]::t,qlG d⟩) ?_ ?_ ?_
 . exact⟨by simp,by simp[qdl,qmR],by simp,by simp,by simp,[],by simp[qlG]⟩
 . rintro d r rest ev U hd hx hlt ⟨e4,e5,e11,e12,e13,t,rfl⟩;have hw:=wr (n:=(d.length:Int)+1) (by omega) (by omega);have happ:=fun H=>qoM s d r (by omega) H
   generalize qdl s d=v5 at *;generalize qdl s (d++[r])=v6 at *;have hn:∀n,qp (jD n)=[.int .i64 1,.int .i64 n,.str [],.sl 4 [] .none]:=fun n=>by simp[qc,jD]
   simp only[hn]at happ;have h1:=Ky r.1;have h2:=Ky r.2;simp only[hn]at h1 h2;simp[-getElem?_pos,e5,e11,e12,e13,hlt,hx];refine qEJ h1 (by simp) ?_;simp;refine qEJ h2 (by simp) ?_;simp[qf,qm,happ,hw,e4,e11,e12,e13]
 rintro ev U ⟨e4,e5,e11,e12,e13,t,rfl⟩;obtain⟨R,tok,hv,hR,hnr⟩:∃R tok,qdl s l=.sl 4 R tok/\yh R ((wG s::ka l).map qp)/\qZ R=true:=by
  have hx:zn (qmR s) (qp (wG s)):=by rw[qc];simp[qmR,wG,zn,Leq]
  have ha:(qp (wG s)).all AV.atom=true:=by rw[qc];simp[AV.atom]
  cases l with
  |nil=>exact⟨_,_,rfl,by simp only[ka,yh,qAz,qC0,qAZ];exact⟨.inr ⟨hx,ha⟩,trivial⟩,by simp[qmR]⟩
  | cons a q=>
   refine⟨_,_,rfl,by simp only[yh,qAz];exact⟨.inr ⟨hx,ha⟩,WC _⟩,?_⟩;have:=quu (ka (a::q));simp only[qZ,qAr];exact⟨by simp[qmR],this⟩
 rw[hv]at e5;rw[show qp (Qd s l)=[.int .i64 23,.int .i64 0,.str [],.sl 4 ((wG s::ka l).map qp) .none] by rw[qc];rfl];generalize (wG s::ka l).map qp=R' at hR;simp[e4,e5,e12,e13,zs,zW,qM];cases tok<;>exact⟨by simpa using hnr,by simp[Leq,hR]⟩
def qna:List (Nat×Sch×List Nat):=[(9,.step 0 [8,7,6] (.step 1 [8,7,6,5] (.step 2 [8,7,6,5,4] (.step 3 [8,7,6,5,4] (.step 4 [8,7,6,5] (.step 5 [8,7,6] (.step 6 [8,7] (.step 7 [8] (.step 8 [] (.done))))))))),[])]
def quA(k:Nat):wQ (.int .i64 16) (.int .i64 (k:Int))=some (.int .i64 ((min 16 k:Nat):Int)):=by
 simp only[wQ];congr 2;split<;>omega
@[simp]def qzM(l:List Rg):qZ (l.map ki)=true:=zp (fun x=>by simp) l
def qt1{r:List Rg}{M}(h:M<=r.length):zj (.sl 2 (r.map ki) .none) none (some (.int .i64 M)) none=some (.sl 2 ((r.take M).map ki) .none):=by
 simp[zj,zS,y8,zU,h]
def qt2{r:List Rg}{M}(h:M<=r.length):zj (.sl 2 (r.map ki) .none) (some (.int .i64 M)) none none=some (.sl 2 ((r.drop M).map ki) .none):=by
 simp[zj,zS,y8,zU,h,show(r.map ki).take r.length=r.map ki from qAs (by simp)]
def qom{r:List Rg}:r.take (min 16 r.length)=r.take 16/\r.drop (min 16 r.length)=r.drop 16:=by
 by_cases h:16<=r.length
 . rw[qBL h];exact⟨rfl,rfl⟩
 rw[qDv (by omega),qAs (by omega),qAs (by omega),qA3 (by omega),qA3 (by omega)];exact⟨rfl,rfl⟩
def qmq(s:Str)(l:List Rg)(hl:l.length<=1000):Pure prog GG 246 [.str s,.sl 2 (l.map ki) .none] (.agg (qp (yZ s l))):=by
 refine qEF ⟨false,qna,[],[]⟩ false qe func246 rfl (by kernel_rfl) ?_;by_cases h0:l=[]
 . subst h0;have hu:yZ s []=jD 0:=rfl;have hn:=Ky 0;rw[hu];simp only[jD,qc,qEC,Ex.n_mk,qED,qEE,qAZ]at hn⊢;simp;refine qEJ hn (by simp) ?_;simp
 have hpos:=qAI.2 h0;have hm16:=quA l.length;have hml:min 16 l.length<=l.length:=qCB _ _;have hl1:=qt1 (r:=l) hml;have hl2:=qt2 (r:=l) hml;rw[qom.1]at hl1;rw[qom.2]at hl2;have hi:=qcJ s (l.take 16) (by simp;omega);have hu:yZ s l=Qq s (Qd s (l.take 16)) (z4 16 l.length (l.drop 16)):=if_neg h0;rw[hu];generalize hM:min 16 l.length=M at *;have hQl:(l.drop 16).length<=l.length:=by simp
 have hQ16:(l.drop 16).length<=1000:=by omega
 have near0:=qns (Qd s (l.take 16));generalize Qd s (l.take 16)=E0 at *;generalize l.take 16=P at *;generalize l.drop 16=Q0 at *;generalize hR:Qq s E0 (z4 16 l.length Q0)=R0 at *;have hE0:=qc E0;simp only[hE0]at hi near0;simp[h0,hm16,hl1];refine qEJ hi (by simp) ?_;simp[hl2];refine qEO (fun n ev U=>∃(Q:List Rg) (k:Nat) (c:List AV) (out:Ex) (t:List Blk),n=Q.length/\Q.length<=k/\Q.length<=1000/\ev 0=.str s/\ev 1=.sl 2 (Q.map ki) .none/\ev 4=.ptr 0 0/\ev 6=.ptr 1 0 /\
  U=⟨.cells [.int .i64 0,.int .i64 0,.str [],.sl 0 [] .nil]::.cells c::t,[]⟩/\Near c out/\R0=Qq s out (z4 16 k Q)) Q0.length ?_ ?_
 . exact⟨Q0,l.length,_,E0,[],rfl,hQl,hQ16,by simp,by simp,by simp,by simp,by simp,near0,hR.symm⟩
 rintro n ev U R hRR ⟨Q,k,c,out,t,rfl,hk,hq,e0,e1,e4,e6,rfl,hnear,hres⟩;obtain⟨c0,c1,c2,c3,rfl⟩:=hnear.four;have hac:=qlQ hnear.atoms;have f0:=fun H=>(hnear.fin H).1
 have f1:=fun H=>(hnear.fin H).2.1
 have f2:=fun H=>(hnear.fin H).2.2.1
 have f3:=fun H=>(hnear.fin H).2.2.2
 have hnr:=hnear.nr;have hleq:=hnear.leq;by_cases hQ:Q=[]
 . subst hQ;rw[show z4 16 k ([]:List Rg)=[] by cases k<;>simp[z4]]at hres;have hres:=hres;rw[hres];simp[-qV,-fin,-ky,-vG,hac,f0,f1,f2,f3,e1,e4,e6];simp only[qz,qAr,and_true]at hnr;exact⟨hnr,hleq⟩
 have hQp:=qAI.2 hQ;have hm16:=quA Q.length;have hml:min 16 Q.length<=Q.length:=qCB _ _;have hl1:=qt1 (r:=Q) hml;have hl2:=qt2 (r:=Q) hml;rw[qom.1]at hl1;rw[qom.2]at hl2;have hi:=qcJ s (Q.take 16) (by simp;omega);generalize min 16 Q.length=M at *;obtain⟨k,rfl⟩:∃k',k=k'+1:=⟨k-1,by omega⟩;rw[z4,if_neg hQ]at hres;have hres:R0=Qq s (orE out (Qd s (Q.take 16))) (z4 16 k (Q.drop 16)):=hres;have hdl:(Q.drop 16).length=Q.length-16:=by simp
 generalize Q.take 16=P at *;generalize Q.drop 16=Q' at *;simp[e1,e4,e6,hQ,hm16];rw[qR rfl];simp[-qV,ze,e0,e1,e6,hl1];intro _;have ha2:=yF (Qd s P);have hnr2:=nrE (Qd s P);have hl4:=zh (Qd s P);have nn:Near [.int .i64 20,.int .i64 0,.str [],.sl 4 [[c0,c1,c2,c3],qp (Qd s P)] .tight] (orE out (Qd s P)) :=
  qrJ (v9 hnear.row (v9 (.inl rfl) qga)) (by simp only[qZ,qCo,qAr];exact⟨hnear.nr,hnr2⟩)
 generalize qp (Qd s P)=W at *;generalize orE out (Qd s P)=O2 at *;refine qEJ hi (by simp) ?_;simp[-qV,hac,ha2,hl4,ze,e1,e6,hl2,zs,zW,qM,zx,qf,qm];exact hRR Q'.length _ _ (by omega) ⟨Q',k,_,O2,t,rfl,by omega,by omega,by simp[e0],by simp,by simp[e4],by simp[e6],rfl,nn,hres⟩
def qc3{α}(p):∀(l:List α) (i:Nat),(zm p l i = -1/\l.find? p=none)\/∃k w,zm p l i=((i+k:Nat):Int)/\l[k]?=some w/\l.find? p=some w
 |[],i=>.inl ⟨rfl,rfl⟩
 | a::r,i=>by
  by_cases h:p a=true
  . exact .inr ⟨0,a,by simp[zm,h],by simp,by simp[h]⟩
  have ih:=qc3 p r (i+1);have e:zm p (a::r) i=zm p r ((i+1:Nat):Int):=by simp[zm,h]
  rw[e];rcases ih with⟨h1,h2⟩|⟨k,w,h1,h2,h3⟩
  . exact .inl ⟨h1,by simp[h,h2]⟩
  exact .inr ⟨k+1,w,by rw[h1];congr 1;omega,by simpa using h2,by simp[h,h3]⟩
def qyd(w n):Pure prog GG 245 [.agg (qw w),.rptr [.int .i64 n]] (.bool (inW n w)):=by
 refine qEG qe func245 rfl (by kernel_rfl) ?_;unfold inW;by_cases h:w.lo<=n<;>simp[-getElem?_pos,h]
def qp4(H s n)(hs:s.length<2^30):qr (Dof prog) ⟨H,yI [] s⟩ 28 (QS 1 qh 0 s) (.sl 1 [[.int .i64 n]] .tight)=some (QS 1 qh 0 (s++[n]),⟨H,yI [] (s++[n])⟩) :=
 yU (D:=Dof prog) (sz:=1) (T:=[]) (H:=H) (m:=[n]) (en:=qh) D28 rfl D3 rfl (by decide) rfl (by decide) (by simp only[qAQ];omega) 1 (.inl rfl)
def qnh:List (Nat×Sch×List Nat):=[(10,.step 0 [5,4,1] (.step 1 [5,4] (.step 2 [5,4,3] (.step 3 [5,4] (.step 4 [5] (.step 5 [] (.done)))))),[])]
def qhi(p:Problem)(d:Dist)(v:Var)(i:Nat)(hi:d.var=i)(hv:p.vars[i]?=some v)(hvl:p.vars.length<=1000)(hw0:0<=v.width)(hw8:v.width<=8)(hf:Fits d.weights) :
 Pure prog GG 169 [.agg (qt p),.agg (zl d)] (.agg (qp (vE p.vars d))):=by
 refine qEF ⟨false,qnh,[],[]⟩ false qe func169 rfl (by kernel_rfl) ?_;have hs:=wB (w:=v.width) hw0 (by omega);have hsz:=Yw hw8;have hok:=qag v d.weights;have hrk:=qd9 (N:=(zP v:Nat)) hok.1 (fun x hx=>by have:=hok.2 x hx;omega) (by omega);have hsl:(Zv v d.weights).length<=1000:=by
  have:(Zv v d.weights).length<=zP v:=by unfold Zv;exact qBf (qCq _ _) (by simp)
  omega
 have hrg:=qjz (Zv v d.weights) hsl (fun n hn=>by have:=hok.2 n hn;omega);have hun:=qmq v.name (Qz (Zv v d.weights)) (by omega);have hsn:Zv v d.weights=(qcn v.width).filter (vI d.weights):=rfl;rw[show vE p.vars d=yZ v.name (Qz (Zv v d.weights)) by unfold vE;rw[hi,qAS,hv]];generalize yZ v.name (Qz (Zv v d.weights))=U_ at *;generalize Qz (Zv v d.weights)=RG at *;rw[hsn]at hrg;have hlen:=qjR v.width;have hget:∀{d r:List Int} {x:Int},qcn v.width=d++x::r->x=d.length:=qjS;have hil:=(qAm.1 hv).1;have hszd:zP v=2^v.width.toNat:=rfl;rw[<- hszd]at hs hlen;generalize hN:zP v=N at *;generalize qcn v.width=nums at *;have hE:=qc U_;simp only[hE]at hun⊢;simp[-getElem?_pos,hi,hv,show ¬v.width<0 by omega,IntKind.bits,hs];refine qEZ nums (fun dd ev U=>ev 3=.ptr 1 0/\ev 4=.ptr 2 0/\ev 5=.ptr 3 0/\ev 6=QS 1 qh 0 (dd.filter (vI d.weights))/\ev 17=.int .i64 N/\ev 18=.int .i64 dd.length/\∃H,U=⟨H,yI [] (dd.filter (vI d.weights))⟩ /\
  H[1]?=some (.cells [.int .i64 i,.sl 4 (d.weights.map qw) .none])/\H[2]?=some (.cells [.int .i64 0,.int .i64 0,.str [],.sl 0 [] .nil])/\H[3]?=some (.cells (qJ v))/\qz [AV.int .i64 0]=true) ?_ ?_ ?_
 . exact⟨by simp,by simp,by simp,by simp,by simp,by simp,_,by simp;rfl,by simp,by simp,by simp,rfl⟩
 . rintro dd n rest ev U R hR hd hx hlt ⟨e3,e4,e5,e6,e17,e18,H,rfl,H1,H2,H3,_⟩;have hnd:=hget hd;subst hnd;have hw:=wr (n:=(dd.length:Int)+1) (by omega) (by omega);have hfs:=qeH (vI d.weights) dd (dd.length:Int);have hfl:(dd.filter (vI d.weights)).length<2^30:=qBZ (qCq _ _) (by omega);have hgo:∀(ev':Env) H' (L:List Int),L=(dd++[(dd.length:Int)]).filter (vI d.weights)->ev' 3=.ptr 1 0->ev' 4=.ptr 2 0->ev' 5=.ptr 3 0->ev' 6=QS 1 qh 0 L->ev' 17=.int .i64 N->ev' 18=.int .i64 (dd.length+1:Nat)->(∃u,H'=H++u)->R ev' ⟨H',yI [] L⟩:=by
    rintro ev' H' L rfl a3 a4 a5 a6 a17 a18 ⟨u,rfl⟩;exact hR _ _ ⟨a3,a4,a5,a6,a17,by simpa using a18,_,rfl,qd H1 u,qd H2 u,qd H3 u,rfl⟩
   simp[-getElem?_pos,e3,e17,e18,show dd.length<N by omega,qd H1,qd H3];refine qEL (Qe GG d.weights (inW dd.length) 245 [] [.rptr [.int .i64 dd.length]] hf rfl (by simp) fun w _=>qyd w dd.length) rfl ?_ ?_
   . simp[frz]
   have hff:=qc3 (inW dd.length) d.weights 0;simp only[qBQ]at hff;rcases hff with⟨k1,k2⟩|⟨k,w,k1,k2,k3⟩
   . have hp:vI d.weights dd.length=false:=(by unfold vI;rw[k2]);have k1:zm (inW dd.length) d.weights 0 = -1:=k1;rw[k1];rw[hp]at hfs;simp only[qAP,if_false]at hfs;simp[-getElem?_pos,e18,hw];exact hgo _ _ _ hfs.symm (by simp[e3]) (by simp[e4]) (by simp[e5]) (by simp[e6]) (by simp[e17]) (by simp) ⟨_,rfl⟩
   have k1:zm (inW dd.length) d.weights 0=(k:Nat):=k1;have hkl:=(qAm.1 k2).1;rw[k1];by_cases hp0:0<w.weight
   . have hp:vI d.weights dd.length=true:=(by unfold vI;rw[k3];simpa using hp0);rw[if_pos hp]at hfs;simp[-getElem?_pos,e3,e6,e18,hw,qd H1,k2,hp0,qp4 _ _ _ hfl];exact hgo _ _ _ hfs.symm (by simp[e3]) (by simp[e4]) (by simp[e5]) (by simp) (by simp[e17]) (by simp) ⟨_,rfl⟩
   have hp:vI d.weights dd.length=false:=(by unfold vI;rw[k3];simpa using hp0);rw[hp]at hfs;simp only[qAP,if_false]at hfs;simp[-getElem?_pos,e3,e18,hw,qd H1,k2,hp0];exact hgo _ _ _ hfs.symm (by simp[e3]) (by simp[e4]) (by simp[e5]) (by simp[e6]) (by simp[e17]) (by simp) ⟨_,rfl⟩
 rintro ev U ⟨e3,e4,e5,e6,e17,e18,H,rfl,H1,H2,H3,_⟩;rw[hlen]at e18;have H2l:=(qAm.1 H2).1;simp[-getElem?_pos,e17,e18];rw[qR rfl];simp[-getElem?_pos,ze,e5,e6,H3];refine qEK hrg (by simp only[qAz,qAZ,Vm,qz,qCo];exact qhK (fun x=>by simp)) (by simp only[qAz,qAZ,Vm,zn,and_true];exact qf9) ?_;simp[-getElem?_pos,ze,H3];refine qEJ hun (by simp) ?_;simp[-getElem?_pos,ze,e4,H2,H2l]
def qlt(v:Var):Nat:=if v.mode=0 then 0 else v.width.toNat
def qfo{l}(hw:∀v∈l,0<=v.width/\v.width<=8)(hl:l.length<=1000):∀k,k<=l.length->kl l (Yi l k)=(((l.take k).map qlt).sum:Nat)/\((l.take k).map qlt).sum<=8*k
 |0,_=>⟨by simp[Yi,kl],by simp⟩
 | k+1,hk=>by
  obtain⟨i1,i2⟩:=qfo hw hl k (by omega);obtain⟨v,hv⟩:∃v,l[k]?=some v:=⟨_,qAo (by omega)⟩;have hwv:=hw v (qAn hv);have ht:l.take (k+1)=l.take k++[v]:=by rw[qAT,hv];rfl
  have hr:yG l (k:Int)=(v.mode != 0):=by simp[yG,hv]
  rw[Kl,hr,ht,qBp,qEa];by_cases hm:v.mode=0
  . have hb:qlt v=0:=(by simp[qlt,hm]);simp only[hm,bne_self_eq_false,qAP,if_false,qAz,qAZ,qCp,qEw,hb];exact⟨by simpa using i1,by omega⟩
  have hb:qlt v=v.width.toNat:=by simp[qlt,hm]
  have hm':(v.mode != 0)=true:=by simpa using hm
  rw[if_pos hm'];have hs:kl l (Yi l k++[(k:Int)])=IntKind.i64.wrap (kl l (Yi l k)+zM l k):=by
   unfold kl;rw[qBj];simp
  rw[hs,i1];have hwa:zM l k=v.width:=by simp[zM,hv]
  rw[hwa];simp only[qAz,qAZ,qCp,qEw,hb,qBP];rw[wr (by omega) (by omega)];exact⟨by omega,by omega⟩
def YN{p}(hv:qk p=0)(hl:p.vars.length<=1000):kl p.vars (qK p)=((p.vars.map qlt).sum:Nat)/\(jV p.vars).length=2^(p.vars.map qlt).sum:=by
 have hw:∀v∈p.vars,0<=v.width/\v.width<=8:=fun v hm=>by have:=zd (z0 hv v hm);omega
 have h1:=qfo hw hl p.vars.length (qAy _);rw[qB7]at h1;rw[show qK p=Yi p.vars p.vars.length by unfold qK;rw[if_neg (by simpa using hv)]];exact⟨h1.1,Zq p.vars⟩
noncomputable def Ye(p:Problem)(l:List Ex):Bool:=decide (qk p=0)&&(l.all (wD p.vars)&&jO p.vars l)
def Q9(p l)(h:VQ p)(hv20:p.vars.length<=20)(hb:kl p.vars (qK p)<=18)(hfl:Fits l)(hx:∀e∈l,Wen e/\hgt e<=1000/\(pre e).length<=100000) :
 Pure prog GG 117 [.agg (qt p),.sl 4 (l.map qp) .none] (.bool (Ye p l)):=by
 refine qEG qe func117 rfl (by kernel_rfl) ?_;have h0:0<=kl p.vars (qK p):=by
  by_cases hv:qk p=0
  . rw[(YN hv (by omega)).1];omega
  have:qK p=[]:=by unfold qK;rw[if_pos (by simpa using hv)]
  rw[this];simp[kl]
 have ha:=qlB p h hv20 h0 (by omega);have hp:2^(kl p.vars (qK p)).toNat<=2^18:=qAV (by omega) (by omega);have hf:=qn1 p l (2^(kl p.vars (qK p)).toNat) h hfl hx (by omega);have hr:(J3 p l (2^(kl p.vars (qK p)).toNat)).2≠18/\decide ((J3 p l (2^(kl p.vars (qK p)).toNat)).2=0)=Ye p l:=by
  unfold J3;by_cases hg:qgH p l (2^(kl p.vars (qK p)).toNat:Nat)=true
  . rw[if_pos hg];simp only[qgH,qAr,decide_eq_true_eq]at hg;obtain⟨hv,_,_,hk⟩:=hg;have hab:=YN hv (by omega);have hs:=qnT (vs:=p.vars) (l:=l) (k:=2^(kl p.vars (qK p)).toNat) (by rw[hab.2,hab.1];simp);have hsb:Ye p l=jO p.vars l:=(by simp[Ye,hv,hk]);rw[hsb,<- hs.1];generalize qdB p.vars l _ (zz p.vars)=s at hs;obtain⟨s1,s2⟩:=s
    cases s1 with
    |some a=>simp
    | none=>
     have:=hs.2 rfl;simp only at this;subst this;simp
  rw[if_neg hg];have hsb:Ye p l=false:=by
   apply qBD.2;intro hh;simp only[Ye,qAr,decide_eq_true_eq]at hh;apply hg;simp only[qgH,qAr,decide_eq_true_eq];have hp0:0<2^(kl p.vars (qK p)).toNat:=qDa _;generalize 2^(kl p.vars (qK p)).toNat=N at *;exact⟨hh.1,by omega,by omega,hh.2.1⟩
  rw[hsb];simp
 generalize J3 p l (2^(kl p.vars (qK p)).toNat)=fa at *;generalize 2^(kl p.vars (qK p)).toNat=N at *;obtain⟨hr1,hr2⟩:=hr;rw[<- hr2];have hm:wQ (.int .i64 (N:Int)) (.int .i64 262144)=some (.int .i64 N):=by
  simp only[wQ];rw[if_neg (by omega)]
 simp only[qt]at ha hf;simp;refine qEJ ha (by simp) ?_;simp[hm];refine qEJ hf (by simp) ?_;simp[hr1];rw[qBd];simp
def qdQ{p}(h:qk p=0):∀d∈p.dists,∃(i:Nat) (v:Var),d.var=i/\p.vars[i]?=some v:=by
 have hd:yr p.vars p.dists=0:=by
  unfold qk at h;split at h
  . exact absurd h (by assumption)
  split at h
  . rename_i h1;exact absurd h h1
  split at h
  . rename_i h1;exact absurd h h1
  rename_i h1;exact qBt.1 h1
 intro d hm;obtain⟨k,hk⟩:=qA5 hm;have hkl:=(qAm.1 hk).1;unfold yr at hd;have:=zC.1 hd k (by simp;omega);unfold jQ at this;rw[hk]at this;simp only at this;split at this
 . cases this
 rename_i hr;have hr:yG p.vars d.var=true:=by simpa using hr
 simp only[yG,qAr,decide_eq_true_eq]at hr;obtain⟨j,hj⟩:=qAH hr.1;rw[hj]at hr;simp only[qAS]at hr
 cases hv:p.vars[j]? with
 |none=>rw[hv]at hr;simp at hr
 |some v=>exact⟨j,v,hj,hv⟩
noncomputable def jF(p:Problem):List Ex:=if qk p=0 then wa p else []
def JL(p)(h:VQ p)(hd:p.dists.length<=10000):Pure prog GG 118 [.agg (qt p)] (.sl 4 ((jF p).map qp) .none):=by
 refine qEG qe func118 rfl (by kernel_rfl) ?_;have hval:=yW p h;simp only[qt]at hval;by_cases hv:qk p=0
 case neg=>
  have:jF p=[]:=if_neg hv;rw[this];simp;refine qEJ hval (by simp) ?_;simp[hv,Leq]
 have hs:jF p=p.dists.map (vE p.vars):=if_pos hv;rw[hs];simp;refine qEJ hval (by simp) ?_;simp[hv,qI,show(p.dists.length:Int)<=549755813888 by omega];have hvd:=qdQ hv;refine qEZ p.dists (fun d ev U=>ev 1=.ptr 0 0/\ev 3=.sl 4 ((d.map (vE p.vars)).map qp) (.chain 0 d.length)/\ev 14=.sl 2 (p.dists.map zl) .none/\ev 15=.int .i64 p.dists.length/\ev 16=.int .i64 d.length/\∃t,U=⟨.cells (qt p)::t,[some d.length]⟩) ?_ ?_ ?_
 . exact⟨by simp,by simp,by simp,by simp,by simp,[],by simp⟩
 . rintro d x rest ev U R hR hd2 hx hlt ⟨e1,e3,e14,e15,e16,t,rfl⟩;have hdw:=wr (n:=(d.length:Int)+1) (by omega) (by omega);have hm:=qAn hx;obtain⟨i,v,hi,hvi⟩:=hvd x hm;have hvw:=zd (z0 hv v (qAn hvi));have hsup:=qhi p x v i hi hvi h.vars (by omega) (by omega) (h.weights x hm);have hsn:(d++[x]).map (vE p.vars)=d.map (vE p.vars)++[vE p.vars x]:=(by simp);have hml:(d.map (vE p.vars)).length=d.length:=(by simp);have ha:=yF (vE p.vars x);have hl4:=zh (vE p.vars x);generalize vE p.vars x=X at *;generalize d.map (vE p.vars)=D at *;have happ:∀H,qr (Dof prog) ⟨H,[some d.length]⟩ 23 (.sl 4 (D.map qp) (.chain 0 d.length)) (.sl 4 [qp X] .tight)=some (.sl 4 ((D++[X]).map qp) (.chain 0 (d.length+1)),⟨H,[some (d.length+1)]⟩):=fun H=>by
    simp[qr,qY,show D.length+1<=549755813888 by omega]
   simp only[qt]at hsup;simp[-getElem?_pos,-qV,e1,e3,e14,e15,e16,hlt,hx];refine qEJ hsup (by simp) ?_;simp[-qV,ha,hl4,e16,hdw,qf,qm,happ];refine hR _ _ ⟨by simp[e1],by rw[hsn];simp,by simp[e14],by simp[e15],by simp,t++[.cells (zl x)],?_⟩;simp
 rintro ev U ⟨e1,e3,e14,e15,e16,t,rfl⟩;have hn:=quu (p.dists.map (vE p.vars));rw[qBR]at hn;simp[e3,e15,e16,hn]
def Kr:∀(new c) (off),(zx c off new).length=c.length
 |[],c,off=>rfl
 |v::r,c,off=>by rw[zx,Kr r];simp
def qcc(A B Z)(h:Z.length=A.length+B.length):zx (zx Z 0 A) A.length B=A++B:=by
 obtain⟨Z1,Z2,rfl,h1⟩:∃Z1 Z2,Z=Z1++Z2/\Z1.length=A.length:=⟨Z.take A.length,Z.drop A.length,(qA9 _ _).symm,by rw[qA8];omega⟩;rw[vd A Z1 Z2 h1];have:=vY (c:=Z2) B A 0;rw[qBP]at this;rw[this,putAt_all Z2 B (by simp at h;omega)]
def qxu(N k)(h:k<N):zj (.ms 1 0 N 4) (some (.int .i64 (k:Int))) none none=some (.ms 1 (k*4) (N-k) 4):=by
 show(if(0:Int)<=k/\(k:Int)<=N/\(N:Int)<=N/\((k:Int)=0\/(k:Int)<N) then some (AV.ms 1 (0+(k:Int).toNat*4) ((N:Int).toNat-(k:Int).toNat) 4) else if(k:Int)=N/\(N:Int)=N then some (.sl 4 [] .none) else none)=_;rw[if_pos ⟨by omega,by omega,by omega,by omega⟩];simp
def qtY(N)(h:0<N):zj (.ms 1 0 N 4) (some (.int .i64 (N:Int))) none none=some (.sl 4 [] .none):=by
 show(if(0:Int)<=N/\(N:Int)<=N/\(N:Int)<=N/\((N:Int)=0\/(N:Int)<N) then some (AV.ms 1 (0+(N:Int).toNat*4) ((N:Int).toNat-(N:Int).toNat) 4) else if(N:Int)=N/\(N:Int)=N then some (.sl 4 [] .none) else none)=_;rw[if_neg (by omega),if_pos ⟨rfl,rfl⟩]
noncomputable def zu(p:Problem):List Ex:=p.hard++jF p
def KD(p)(h:VQ p)(hd:p.dists.length<=10000):Pure prog GG 72 [.agg (qt p)] (.sl 4 ((zu p).map qp) .none):=by
 refine qEF o0 true qe func72 rfl (by kernel_rfl) ?_;have hs:=JL p h hd;have hh:=h.hard;have hsl:(jF p).length<=10000:=by
  unfold jF;split
  . simp[wa,hd]
  simp
 have hn:zu p=p.hard++jF p:=rfl;rw[hn];generalize jF p=S at *;simp only[qt]at hs;have hw:=wr (n:=(p.hard.length:Int)+S.length) (by omega) (by omega);by_cases h0:p.hard=[]/\S=[]
 . obtain⟨h1,h2⟩:=h0;subst h2;rw[h1]at hs hw⊢;simp[h1];refine qEJ hs (by simp) ?_;simp[show IntKind.i64.wrap 0=0 by decide,qI,kj,qbq,zj,zS,y8,zU];have hfc:∀H,frz H 8 (.sl 4 [] (.chain 0 0))=.sl 4 [] .none:=fun H=>by rw[frz];simp[qO]
   rw[hfc];exact⟨by simp,qEQ _⟩
 have hpos:0<p.hard.length+S.length:=by
  rcases qBJ (p.hard.length+S.length) with h|h
  . exact absurd ⟨qAA (by omega),qAA (by omega)⟩ h0
  exact h
 have hnz:¬(p.hard.length:Int)+S.length=0:=by omega
 have hle:(p.hard.length:Int)+S.length<=549755813888:=by omega
 have hge:(0:Int)<=(p.hard.length:Int)+S.length:=by omega
 have htn:((p.hard.length:Int)+S.length).toNat=p.hard.length+S.length:=by omega
 obtain⟨Z,hZ⟩:∃Z,Z=(List.replicate (p.hard.length+S.length) [AV.int .i64 0,.int .i64 0,.str [],.sl 0 [] .nil]).flatten:=⟨_,rfl⟩;have hZl:Z.length=(p.hard.length+S.length)*4:=by rw[hZ];simp
 have hAl:=Go.Abs.jq (sz:=4) zh p.hard;have h2:=qcc (p.hard.flatMap qp) (S.flatMap qp) Z (by rw[hZl,hAl,Go.Abs.jq (sz:=4) zh S,qBs]);rw[hAl,<- List.flatMap_append]at h2;have hc1:∀B0:Blk,kj (Dof prog) ⟨[B0,.cells Z],[]⟩ 23 (.ms 1 0 (p.hard.length+S.length) 4) (.sl 4 (p.hard.map qp) .none)=some (.int .i64 p.hard.length,⟨[B0,.cells (zx Z 0 (p.hard.flatMap qp))],[]⟩):=fun B0=>by
  by_cases hh0:p.hard=[]
  . simp[kj,qbq,hh0,zx]
  have hm:min p.hard.length (p.hard.length+S.length)=p.hard.length:=by omega
  have hl:p.hard.length*4<=(p.hard.length+S.length)*4:=by omega
  simp[kj,qbq,qpj,hm,hh0,show(p.hard.map qp).take p.hard.length=p.hard.map qp from qAs (by simp),show(p.hard.map qp).flatten=p.hard.flatMap qp by rw[qBM],hZl,hl]
 by_cases hS0:S=[]
 . subst hS0;have hhp:0<p.hard.length:=(by simpa using hpos);have hsl2:=qtY p.hard.length hhp;have ho:∀B0:Blk,jx 1 4 qp [B0,.cells (p.hard.flatMap qp)] (.ms 1 0 p.hard.length 4) p.hard:=fun B0=>.inr ⟨qAI.1 hhp,rfl,rfl⟩
   have hpa:zx Z 0 (p.hard.flatMap qp)=p.hard.flatMap qp:=putAt_all _ _ (by rw[hZl,hAl];simp);rw[hpa]at hc1;simp only[qBh,qBP,qBG,Int.add_zero]at hw hnz hle hge htn hZ hc1;simp only[qAZ]at hs;generalize p.hard.flatMap qp=FE at *;simp;refine qEJ hs (by simp) ?_;simp[hw,hle,hge,qAI.1 hhp,qI,<- hZ,hc1,hsl2,show ∀U:St,kj (Dof prog) U 23 (.sl 4 [] .none) (.sl 4 [] .none)=some (.int .i64 0,U) from fun U=>by simp[kj,qbq]];exact⟨(ho (.cells (qt p))).frzNo zh (fun x=>nrE x) jr 7,(ho (.cells (qt p))).frz zh (fun x=>nrE x) jr 7⟩
 have hSp:=qAI.2 hS0;have hsl2:zj (.ms 1 0 (p.hard.length+S.length) 4) (some (.int .i64 p.hard.length)) none none=some (.ms 1 (p.hard.length*4) S.length 4):=by
  rw[qxu _ _ (by omega),show p.hard.length+S.length-p.hard.length=S.length by omega]
 have hc2:∀B0:Blk,kj (Dof prog) ⟨[B0,.cells (zx Z 0 (p.hard.flatMap qp))],[]⟩ 23 (.ms 1 (p.hard.length*4) S.length 4) (.sl 4 (S.map qp) .none)=some (.int .i64 S.length,⟨[B0,.cells ((p.hard++S).flatMap qp)],[]⟩):=fun B0=>by
  simp[kj,qbq,qpj,hS0,show(S.map qp).take S.length=S.map qp from qAs (by simp),show(S.map qp).flatten=S.flatMap qp by rw[qBM],show(zx Z 0 (p.hard.flatMap qp)).length=(p.hard.length+S.length)*4 by rw[Kr,hZl],show p.hard.length*4+S.length*4<=(p.hard.length+S.length)*4 by omega,-List.flatMap_append,h2]
 have ho:∀B0:Blk,jx 1 4 qp [B0,.cells ((p.hard++S).flatMap qp)] (.ms 1 0 (p.hard.length+S.length) 4) (p.hard++S):=fun B0=>.inr ⟨by simp[hS0],by simp,rfl⟩
 generalize (p.hard++S).flatMap qp=FE at *;generalize zx Z 0 (p.hard.flatMap qp)=Z1 at *;simp;refine qEJ hs (by simp) ?_;simp[hw,hnz,hle,hge,qI,htn,<- hZ,hc1,hsl2,hc2];have f1:=(ho (.cells (qt p))).frz zh (fun x=>nrE x) jr 7;have f2:=(ho (.cells (qt p))).frzNo zh (fun x=>nrE x) jr 7;rw[qBp]at f1;exact⟨f2,f1⟩
def Jf(e:Ex):Prop:=Wen e/\hgt e<=1000/\(pre e).length<=100000
def qrj:∀(e x),x∈pre e->(pre x).length<=(pre e).length:=by
 refine qE7 fun e ih x hx=>?_
 rw[jB]at hx;rcases qAM.1 hx with rfl|hx
 . exact qAy _
 obtain⟨a,ha,hxa⟩:=ZP.1 hx;exact qBf (ih a ha x hxa) (qfI ha)
def EOk.tame{s e h m}(ho:EOk s h m e)(hs:Fits s)(hh:h<=1000)(hm:m<=100000):Jf e:=by
 refine⟨fun x hx=>?_,qBf ho.hgt hh,qBf ho.size hm⟩;have h1:=qrj e x hx;have h2:=qgK x;have h3:=ho.size;obtain⟨n1,n2,n3,n4⟩:=ho.nodes x hx;refine⟨by show x.args.length<_;omega,?_⟩;by_cases h:x.op=2
 . rw[n4 h];exact hs
 have:=(ji n1).2.2.2.2.2.2.2 (by rintro(h'|h'|h');exact h h';exact n2 h';exact n3 h');rw[this];simp[Fits]
def qcp(n):Jf (jD n):=by
 refine⟨fun x hx=>?_,by simp[wv,jD],by rw[ZK];simp⟩;rw[ZK]at hx;simp only[qAM,qB0,or_false]at hx;subst hx;exact⟨by simp[jD,Fits,Ex.args],by simp[jD,Fits,Ex.name]⟩
def qdS{s}(hs:k0 s=true)(hf:Fits s){l:List Rg}(hl:l.length<=128)(hr:∀r∈l,ql4 r):Jf (yZ s l):=by
 unfold yZ;split
 . exact qcp 0
 rename_i h0;have hpos:=qAI.2 h0;have h1:=EOk.ins hs (l:=l.take 16) (qAI.1 (by rw[qA8];omega)) (by rw[qA8];omega) (fun r h=>hr r (qBa h));have h2:=EOk.chain hs (z4 16 l.length (l.drop 16)) (h:=0) h1 (fun c hc=>by
  obtain⟨a,b,c'⟩:=Kv (by omega) _ _ c hc;exact⟨a,b,fun r h=>hr r (qBS (c' r h))⟩)
 have h3:=Kw (n:=16) (by omega) l.length (l.drop 16) 7 (by rw[qCd];omega);exact h2.tame hf (by omega) (by omega)
def qi1{vs}(hv:∀v∈vs,jW v=0)(hf:∀v∈vs,Fits v.name)(d):Jf (vE vs d):=by
 unfold vE;split
 . rename_i v h;have hm:=qAn h;have h1:=zd (hv v hm);have h2:=qag v d.weights;have h3:=Yw h1.2.2;have h4:=qd9 (N:=(zP v:Nat)) h2.1 (fun x hx=>by have:=h2.2 x hx;omega) (by omega);exact qdS h1.1 (hf v hm) (by omega) h4.1
 exact qcp 0
def v7{p}(h:VQ p)(hv:qk p=0):∀e∈zu p++p.soft,wD p.vars e=true/\Jf e:=by
 have hx:∀e∈p.hard++p.soft,zy p.vars e=0:=by
  have:qU (zy p.vars) (p.hard++p.soft)=0:=by
   unfold qk at hv;split at hv
   . exact absurd hv (by assumption)
   split at hv
   . rename_i h1;exact absurd hv h1
   rename_i h1;exact qBt.1 h1
  exact zC.1 this
 intro e he;have hs:jF p=wa p:=if_pos hv;rw[zu,hs]at he;rcases qAC.1 he with he|he
 . rcases qAC.1 he with he|he
   . exact⟨decide_eq_true (hx e (qA7 _ he)),h.exprs e (qA7 _ he)⟩
   . obtain⟨d,hd,rfl⟩:=qAN.1 he;exact⟨decide_eq_true (qhj (z0 hv) d),qi1 (z0 hv) h.names d⟩
 exact⟨decide_eq_true (hx e (qBA _ he)),h.exprs e (qBA _ he)⟩
def qyB(H:List Blk)(T:List (Option Nat))(r:AV)(U':St):Prop:=r=.sl 4 [] (.chain T.length 0)/\U'.T=T++[some 0]/\∃u,U'.H=H++u
def qhO(p)(h:VQ p)(hd:p.dists.length<=10000)(h1:p.hard=[])(h2:jF p=[])(H T):qg prog GG 72 [.agg (qt p)] ⟨H,T⟩ (qyB H T):=by
 refine qEI qe func72 rfl (by kernel_rfl) ?_;have hs:=JL p h hd;rw[h2]at hs;have h00:IntKind.i64.wrap 0=0:=by decide
 simp only[qt,h1]at hs;simp[-getElem?_pos,h1];refine qEJ hs (by simp) ?_;simp[-getElem?_pos,h00,qI,kj,qbq,zj,zS,y8,zU];exact⟨rfl,rfl,_,rfl⟩
noncomputable def yK(p:Problem):List Int×Int :=
 if qk p=0 then(if jO p.vars (zu p)=true then((yl p.vars (zu p) (Zg p.soft)).reverse.map (·.1),0) else([],11)) else([],1)
def qnC(p)(h:VQ p)(hv:qk p≠0):Pure prog GG 71 [.agg (qt p)] (.tup [.sl 1 ((yK p).1.map qh) .none,.int .i64 (yK p).2]):=by
 have hr:yK p=([],1):=if_neg hv;rw[hr];refine qEF o0 true qe func71 rfl (by kernel_rfl) ?_;have hval:=yW p h;simp only[qt]at hval;simp[-getElem?_pos];refine qEJ hval (by simp) ?_;simp[-getElem?_pos,hv];rw[qA (by simp)];exact⟨by simp,by simp[Leq,zn]⟩
def qhY(p)(h:VQ p)(hv:qk p=0)(hv20:p.vars.length<=20)(hb:kl p.vars (qK p)<=18)(hd:p.dists.length<=10000)(hs:jO p.vars (zu p)=false):Pure prog GG 71 [.agg (qt p)] (.tup [.sl 1 ((yK p).1.map qh) .none,.int .i64 (yK p).2]):=by
 have hr:yK p=([],11):=by unfold yK;rw[if_pos hv,hs,if_neg (by simp)]
 rw[hr];refine qEF o0 true qe func71 rfl (by kernel_rfl) ?_;have hval:=yW p h;have hn:=KD p h hd;have hk:=v7 h hv;have hfn:Fits (zu p):=by
  have h1:=h.hard;have h2:(jF p).length<=10000:=by
   have:jF p=wa p:=if_pos hv;rw[this,wa,qAY];exact hd
  show(zu p).length<_;rw[zu,qAq];omega
 have hso:=Q9 p (zu p) h hv20 hb hfn (fun e he=>(hk e (qA7 _ he)).2);have hsb:Ye p (zu p)=false:=by
  unfold Ye;rw[hs];simp
 rw[hsb]at hso;generalize zu p=N at *;simp only[qt]at hval hn hso;simp[-getElem?_pos];refine qEJ hval (by simp) ?_;simp[-getElem?_pos,hv];refine qEJ hn (by simp) ?_;simp[-getElem?_pos];refine qEJ hso (by simp) ?_;simp[-getElem?_pos];rw[qA (by simp)];exact⟨by simp,by simp[Leq,zn]⟩
def qhw(n):Pure prog GG 156 [.int .i64 n] (.agg (qp (jD n))):=by
 refine qEG qe func156 rfl (by kernel_rfl) ?_;simp[-getElem?_pos,jD,qc,zs,zW,qM]
def qcf{d r n}(h:∀w∈d,inW n w=false):vI (d++r) n=vI r n:=by
 unfold vI;have:(d++r).find? (inW n)=r.find? (inW n):=by
  rw[qDU,qCV.2 (fun w hw=>by simp[h w hw])];rfl
 rw[this]
def qeh(l n)(hf:Fits l):Pure prog GG 155 [.sl 4 (l.map qw) .none,.int .i64 n] (.bool (vI l n)):=by
 refine qEG qe func155 rfl (by kernel_rfl) ?_;obtain⟨r,hr⟩:∃r,r=vI l n:=⟨_,rfl⟩;rw[<- hr];simp[-getElem?_pos];refine qEN l (fun d ev U=>ev 0=.sl 4 (l.map qw) .none/\ev 1=.int .i64 n/\ev 5=.int .i64 d.length/\U=⟨[],[]⟩/\∀w∈d,inW n w=false) ?_ ?_ ?_
 . simp
 . rintro d w rest ev U hd hx hlt ⟨e0,e1,e5,rfl,hall⟩;have hdw:=wr (n:=(d.length:Int)+1) (by unfold Fits at hf;omega) (by unfold Fits at hf;omega);have hres:r=vI (w::rest) n:=(by rw[hr,hd,qcf hall])
   cases hi:inW n w with
   | true=>
    have hp:r=decide (0<w.weight):=(by rw[hres];unfold vI;simp[hi]);have hi':=hi;simp only[inW,qAr,decide_eq_true_eq]at hi';simp[-getElem?_pos,e0,e1,e5,hlt,hx,hi'.1,hi'.2,hp]
   | false=>
    have hnext:∀x,(x∈d\/x=w)->inW n x=false:=fun x hx=>by
     rcases hx with h|rfl
     . exact hall x h
     exact hi
    by_cases h1:w.lo<=n
    . have h2:¬n<=w.hi:=fun h=>by simp[inW,h1,h]at hi
      simp[-getElem?_pos,e0,e1,e5,hlt,hx,h1,h2,hdw];exact hnext
    simp[-getElem?_pos,e0,e1,e5,hlt,hx,h1,hdw];exact hnext
 rintro ev U ⟨e0,e1,e5,rfl,hall⟩;have:r=false:=by
  have:=qcf (r:=[]) hall;rw[qA6]at this;rw[hr,this];rfl
 simp[-getElem?_pos,e0,e5,this]
def qkj{α:Type}{en:α->List AV}{sz}{R:List α}{tok:Tok}{n}(hn:n=(R.length:Int))(h:R≠[]\/tok.known=true):zj (.sl sz (R.map en) tok) none (some (.int .i64 n)) (some (.int .i64 n))=some (.sl sz (R.map en) .tight):=by
 subst hn;simp[zj,zS,y8,zU,wW,show(R.map en).take R.length=R.map en from qAs (by simp),h.imp qAI.2 id]
def qaL{R X H T}(hR:R.length<1000000):qr (Dof prog) ⟨H,T⟩ 23 (.sl 4 (R.map qp) .tight) (.sl 4 [qp X] .tight)=some (.sl 4 ((R++[X]).map qp) (.chain T.length 1),⟨H,T++[some 1]⟩):=by
 simp[qr,qY,show R.length+1<=549755813888 by omega]
def qaz(l):(Zg l).length=l.length:=by simp[Zg]
def qen{l k q}(h:(Zg l)[k]?=some q):k<l.length/\q.1=((l.length-1-k:Nat):Int)/\l[l.length-1-k]?=some q.2:=by
 unfold Zg at h;have hk:=(qAm.1 h).1;simp at hk;rw[List.getElem?_reverse (by simpa using hk)]at h;simp only[qAY,List.length_zipIdx,qAR,qCH,qBQ]at h
 cases hx:l[l.length-1-k]? with
 |none=>rw[hx]at h;simp at h
 |some x=>rw[hx]at h;simp at h;subst h;exact⟨hk,rfl,rfl⟩
def quc{d m v}(h:d.length<m):(List.replicate (m-d.length) (0:Int)++d.reverse).set (m-1-d.length) v=List.replicate (m-(d.length+1)) 0++(d++[v]).reverse:=by
 have h1:List.replicate (m-d.length) (0:Int)=List.replicate (m-(d.length+1)) 0++[0]:=by
  rw[show m-d.length=(m-(d.length+1))+1 by omega,qC1]
 rw[h1,qA4,qBc _ _ (by simp;omega)];rw[show m-1-d.length-(List.replicate (m-(d.length+1)) (0:Int)).length=0 by simp;omega];simp
def wy{H n a r k z}(h1:qO (frz H n a)=true)(h2:Leq (frz H n a) r)(h3:qO a=true->Leq a r) :
 qO (frz H (n+1) (.tup [a,.int k z]))=true/\Leq (frz H (n+1) (.tup [a,.int k z])) (.tup [r,.int k z]):=by
 by_cases hn:qO a=true
 . rw[qA (by simp[hn])];exact⟨by simp[hn],by simp[Leq,zn,h3 hn]⟩
 have:frz H (n+1) (.tup [a,.int k z])=.tup [frz H n a,.int k z]:=by
  have h0:frz H n (.int k z)=.int k z:=qA rfl;rw[frz,if_neg (by simp[hn])];simp[h0]
 rw[this];exact⟨by simp[h1],by simp[Leq,zn,h2]⟩
def qvH(p:Problem)(H:List Blk)(r:AV)(U':St):Prop:=∃tok u T',r=.sl 4 ((zu p).map qp) tok/\(zu p≠[]\/tok.known=true)/\U'=⟨H++u,T'⟩
def qhN(p)(h:VQ p)(hd:p.dists.length<=10000)(H T):qg prog GG 72 [.agg (qt p)] ⟨H,T⟩ (qvH p H):=by
 by_cases hN:zu p=[]
 . have h0:p.hard=[]/\jF p=[]:=(by rw[zu]at hN;simpa using hN);refine(qhO p h hd h0.1 h0.2 H T).imp ?_;rintro v ⟨H1,T1⟩ ⟨rfl,hT,u,hH⟩;simp only at hT hH;subst hH;exact⟨_,u,T1,by rw[hN];rfl,.inr rfl,rfl⟩
 refine qg.call (KD p h hd) (by simp) ?_;exact⟨.none,[],T,rfl,.inl hN,by simp⟩
def qlY(p)(h:VQ p)(hv20:p.vars.length<=20)(hb:kl p.vars (qK p)<=18)(hd:p.dists.length<=10000)(hs5:p.soft.length<=10000) :
 Pure prog GG 71 [.agg (qt p)] (.tup [.sl 1 ((yK p).1.map qh) .none,.int .i64 (yK p).2]):=by
 by_cases hv:qk p=0
 case neg=>exact qnC p h hv
 by_cases hs:jO p.vars (zu p)=true
 case neg=>exact qhY p h hv hv20 hb hd (by simpa using hs)
 have hr:yK p=((yl p.vars (zu p) (Zg p.soft)).reverse.map (·.1),0):=by unfold yK;rw[if_pos hv,if_pos hs]
 rw[hr];dsimp only;obtain⟨RES,hRES⟩:∃RES,RES=(yl p.vars (zu p) (Zg p.soft)).reverse.map (·.1):=⟨_,rfl⟩;rw[<- hRES];refine qEF o0 true qe func71 rfl (by kernel_rfl) ?_;have hval:=yW p h;have hn:=KD p h hd;have hk:=v7 h hv;have h1:=h.hard;have h2:(jF p).length<=10000:=by
  have:jF p=wa p:=if_pos hv;rw[this,wa,qAY];exact hd
 have hNl:(zu p).length<=20000:=by rw[zu,qAq];omega
 have hso:=fun l (hl:l.length<40000) (hx:∀e∈l,wD p.vars e=true/\Jf e)=>Q9 p l h hv20 hb (by show l.length<_;omega) (fun e he=>(hx e he).2)
 have hsb:∀l,(∀e∈l,wD p.vars e=true/\Jf e)->Ye p l=jO p.vars l:=fun l hl=>by
  have:=qAv.2 fun e he=>(hl e he).1
  unfold Ye;rw[this];simp[hv]
 have hne:=qhN p h hd [.cells (qt p)] [];unfold qvH at hne;have hso0:=hso (zu p) (by omega) (fun e he=>hk e (qA7 _ he));rw[hsb _ (fun e he=>hk e (qA7 _ he)),hs]at hso0;generalize zu p=N at *;generalize hL:Zg p.soft=L at *;have hLl:L.length=p.soft.length:=by rw[<- hL,qaz]
 simp only[qt]at hval hn hso0 hne hso;simp;refine qEJ hval (by simp) ?_;simp[hv];refine qEM hne ?_;rintro v U ⟨tok,u,T,rfl,htok,rfl⟩;simp;refine qEK hso0 (by cases tok<;>simp) (by cases tok<;>simp[zn,Leq,qES]) ?_;have hw1:=wr (n:=(p.soft.length:Int)-1) (by omega) (by omega);simp[hw1];refine qEZ L (fun d ev U=>ev 1=.ptr 0 0/\ev 6=.int .i64 ((p.soft.length:Int)-1-d.length)/\∃R K tok u T,(∀r,L=d++r->yl p.vars N L=K++yl p.vars R r)/\(∀e∈R,wD p.vars e=true/\Jf e)/\R.length<=20000+d.length/\K.length<=d.length/\ev 4=.sl 4 (R.map qp) tok/\(R≠[]\/tok.known=true)/\WR 0 1 qh T (ev 5) (K.map (·.1))/\U=⟨.cells (qt p)::u,T⟩) ?_ ?_ ?_
 . refine⟨by simp,by simp,N,[],tok,u,T,fun r hr=>by rw[hr];rfl,fun e he=>hk e (qA7 _ he),by simpa using hNl,by simp,by simp,htok,by simpa using WR.nil,by simp⟩
 . rintro d x rest ev U R0 hR hdl hx hlt ⟨e1,e6,R,K,tok2,u2,T2,hkeep,hRk,hRl,hKl,e4,htok2,e5,rfl⟩;have hna:=qen (l:=p.soft) (k:=d.length) (q:=x) (by rw[hL];exact hx);obtain⟨n1,n2,n3⟩:=hna;have e6':ev 6=.int .i64 ((p.soft.length-1-d.length:Nat):Int):=(by rw[e6];congr 1;omega);have hsl:=qkj (en:=qp) (sz:=4) (R:=R) (tok:=tok2) rfl htok2;have hxk:=hk x.2 (qBA _ (qAn n3));have hRk2:∀e∈R++[x.2],wD p.vars e=true/\Jf e:=fun e he=>by
    rcases qAC.1 he with he|he
    . exact hRk e he
    rw[qA2]at he;rw[he];exact hxk
   have hso2:=hso (R++[x.2]) (by rw[qAq,qAQ];omega) hRk2;rw[hsb _ hRk2]at hso2;have hap:=fun H T=>qaL (R:=R) (X:=x.2) (H:=H) (T:=T) (by omega)
   have ha:=yF x.2;have hl4:=zh x.2;have hnr:=quu (R++[x.2]);simp only[qBp,qAz,qAZ]at hnr;have htk:(qp x.2).take 4=qp x.2:=qAs (by rw[hl4];exact qAy _);have hw2:=wr (n:=((p.soft.length-1-d.length:Nat):Int)-1) (by omega) (by omega);have hEx:=n2;generalize hI:p.soft.length-1-d.length=I at *;obtain⟨v5,T5,hap5,h5,hT5⟩:=(e5.ext (T':=T2++[some 1]) (qDK _ _)).append (m:=[x.1]) (D:=Dof prog) (ty:=28) (tok:=.tight) (T0:=[]) (T:=T2++[some 1]) (List.nil_prefix) (D28) rfl (D3) rfl (by decide) (by rfl) (by decide) (by simp;omega) 1 (.inl rfl);simp only[qAz,qAZ,qh]at hap5;simp[-qV,e1,e4,e6',show(0:Int)<=((p.soft.length-1-d.length:Nat):Int) by omega,hsl,n3,htk,ha,hl4,qf,qm,hap];refine qEK hso2 (by simp[hnr]) (by simp) ?_;have hIm:((I:Int)-1)=((p.soft.length:Int)-1-((d++[x]).length:Nat)):=(by rw[qAq,qAQ];omega)
   cases hso3:jO p.vars (R++[x.2]) with
   | true=>
    simp[-qV,e6',qf,qm,show IntKind.i64.wrap (x.1-1)=(p.soft.length:Int)-1-((d.length:Int)+1) by rw[hEx,hw2,hIm,qAq,qAQ];omega,<- hEx,hap5];refine hR _ _ ⟨by simp[e1],by simp,R++[x.2],K++[x],.chain T2.length 1,u2,T5,fun r hr=>?_,hRk2,by simp;omega,by simp;omega,by simp,.inl (by simp),by simpa using h5,rfl⟩;rw[hkeep (x::r) (by rw[hr];simp),yl,if_pos hso3];simp
   | false=>
    simp[-qV,e6',hw2];refine hR _ _ ⟨by simp[e1],by simp[hIm],R,K,tok2,u2,T2++[some 1],fun r hr=>?_,hRk,by simp;omega,by simp;omega,by simp[e4],htok2,by simpa using e5.ext (qDK _ _),rfl⟩;rw[hkeep (x::r) (by rw[hr];simp),yl,if_neg (by rw[hso3];simp)]
 rintro ev U ⟨e1,e6,R,K,tok2,u2,T2,hkeep,hRk,hRl,hKl,e4,htok2,e5,rfl⟩;rw[hLl]at e6;have e6':ev 6=.int .i64 (-1):=by rw[e6];congr 1;omega
 have hK:=hkeep [] (by simp);rw[show yl p.vars R []=[] from rfl,qA6]at hK;rw[hK,List.map_reverse]at hRES;generalize hKI:K.map (·.1)=KI at *;have hKIl:KI.length<=10000:=by rw[<- hKI,qAY];omega
 subst hRES;rcases e5 with⟨rfl,e5⟩|⟨hne,t,_,e5,_⟩
 . simp[e6',e5,qI];refine qEO (fun m ev U=>ev 8=.sl 1 [] (.chain T2.length 0)/\ev 53=.int .i64 0/\ev 54=.int .i64 0) 0 ⟨by simp,by simp,by simp⟩ ?_;rintro m ev U R hR ⟨e8,e53,e54⟩;simp[e8,e53,e54];have hf:∀H,frz H 7 (.sl 1 [] (.chain T2.length 0))=.sl 1 [] .none:=fun H=>by rw[frz];simp[qO]
   exact wy (by rw[hf];rfl) (by rw[hf];exact qEQ _) (by simp)
 have hKn:¬(KI.length:Int)=0:=by have:=qAI.2 hne;omega
 simp[e6',e5,qI,show(KI.length:Int)<=549755813888 by omega,hne];refine qEZ KI (fun d ev U=>ev 8=.ms (u2.length+1) 0 KI.length 1/\ev 52=.sl 1 (KI.map qh) (.chain t KI.length)/\ev 53=.int .i64 KI.length/\ev 54=.int .i64 d.length/\∃H T,U=⟨H,T⟩/\H[u2.length+1]?=some (.cells (zc (List.replicate (KI.length-d.length) 0++d.reverse)))) ?_ ?_ ?_
 . refine⟨by simp,by simp,by simp,by simp,_,_,rfl,?_⟩;simp[zc]
 . rintro d x rest ev U R hR hdl hx hlt ⟨e8,e52,e53,e54,H,T,rfl,hH⟩;have hdw:=wr (n:=(d.length:Int)+1) (by omega) (by omega);have hkw:=wr (n:=(KI.length:Int)-1) (by omega) (by omega);have hkw2:=wr (n:=(KI.length:Int)-1-d.length) (by omega) (by omega);have hI:((KI.length:Int)-1-d.length)=((KI.length-1-d.length:Nat):Int):=(by omega);have hlt3:KI.length-1-d.length<KI.length:=(by omega);have hlt4:KI.length-1-d.length+1<=KI.length:=(by omega);have hset:=kD (a:=List.replicate (KI.length-d.length) 0++d.reverse) (i:=KI.length-1-d.length) (x:=x);have hHl:=(qAm.1 hH).1;rw[quc hlt]at hset;rw[hI]at hkw2;generalize hJ:KI.length-1-d.length=J at *;simp[-getElem?_pos,e8,e52,e53,e54,hlt,hx,hkw,hI,hkw2,hH,show(zc (List.replicate (KI.length-d.length) 0++d.reverse)).length=KI.length by rw[qS];simp;omega,hlt3,hlt4,hset,hdw];exact hR _ _ ⟨by simp[e8],by simp[e52],by simp[e53],by simp,_,_,rfl,by rw[qAq,qAQ,qC7];exact qAt hHl⟩
 rintro ev U ⟨e8,e52,e53,e54,H,T,rfl,hH⟩;rw[qBm,qC6,qAK]at hH;simp[e8,e53,e54];have ho:jx (u2.length+1) 1 qh H (.ms (u2.length+1) 0 KI.length 1) KI.reverse:=.inr ⟨(by simpa using hne),by simp,by rw[hH,jL]⟩;have f1:=ho.frz (fun x=>by simp) (fun x=>by simp) (fun x=>by simp) 6;have f2:=ho.frzNo (fun x=>by simp) (fun x=>by simp) (fun x=>by simp) 6;rw[List.map_reverse]at f1;exact wy f2 f1 (by simp)
def vD(vs:List Var)(q:List Int×Int)(i:Int):List Int×Int:=(q.1.set i.toNat q.2,q.2+zM vs i.toNat)
def wC(vs:List Var)(l:List Int):List Int×Int:=l.foldl (vD vs) (List.replicate vs.length (-1),0)
def qN(p:Problem):List Int:=(wC p.vars p.groups.flatten).1
def VB(vs l i):wC vs (l++[i])=vD vs (wC vs l) i:=by simp[wC,qBj]
def ZR(vs):∀l:List Int,(wC vs l).1.length=vs.length:=by
 intro l;have:∀(l:List Int) (q:List Int×Int),(l.foldl (vD vs) q).1.length=q.1.length:=by
  intro l
  induction l with
  |nil=>intro q;rfl
  |cons a r ih=>intro q;rw[qA1,ih];simp[vD]
 unfold wC;rw[this];simp
def jE{p}(h:qk p=0):yb p.vars p.groups:=by
 have hd:zH p.vars p.groups=0:=by
  unfold qk at h;split at h
  . exact absurd h (by assumption)
  split at h
  . rename_i h1;exact absurd h h1
  split at h
  . rename_i h1;exact absurd h h1
  exact h
 unfold zH at hd;split at hd
 . assumption
 cases hd
def QZ{vs}{i:Int}(h:yG vs i=true):∃(n:Nat) (v:Var),i=n/\vs[n]?=some v/\v.mode≠0:=by
 simp only[yG,qAr,decide_eq_true_eq]at h;obtain⟨j,hj⟩:=qAH h.1;have h2:=h.2;rw[hj]at h2;simp only[qAS]at h2
 cases hv:vs[j]? with
 |none=>rw[hv]at h2;simp at h2
 |some v=>rw[hv]at h2;exact⟨j,v,hj,hv,by simpa using h2⟩
def qhT{vs}(hw:∀v∈vs,0<=v.width/\v.width<=8):∀l:List Int,0<=(wC vs l).2/\(wC vs l).2<=8*l.length:=by
 intro l;have:∀(l:List Int) (q:List Int×Int),0<=q.2->0<=(l.foldl (vD vs) q).2/\(l.foldl (vD vs) q).2<=q.2+8*l.length:=by
  intro l
  induction l with
  |nil=>intro q h;simp[h]
  | cons a r ih=>
   intro q h;have hwa:0<=zM vs a.toNat/\zM vs a.toNat<=8:=by
    unfold zM;split
    . rename_i v hv;exact hw v (qAn hv)
    omega
   have:=ih (vD vs q a) (by simp only[vD];omega);rw[qA1];simp only[vD,qAD]at this⊢;omega
 have:=this l (List.replicate vs.length (-1),0) (qDI _);simpa[wC] using this
def KA:∀(n:Nat) (l:List Int),l.Nodup->(∀x∈l,0<=x/\x<n)->l.length<=n
 | 0,l,_,h=>by
  cases l with
  |nil=>simp
  |cons a r=>have:=h a (by simp);omega
 | n+1,l,hn,h=>by
  by_cases hm:(n:Int)∈l
  . have h1:=KA n (l.erase (n:Int)) (hn.erase _) fun x hx=>by
     have h2:=(hn.mem_erase_iff).1 hx;have:=h x h2.2;omega
    rw[qD5 hm]at h1;omega
  have h1:=KA n l hn fun x hx=>by
   have:=h x hx;have h2:x≠(n:Int):=fun e=>hm (e▸hx)
   omega
  omega
def VE{p}(h:qk p=0):p.groups.flatten.length<=p.vars.length:=KA _ _ (jE h).2.2.1 fun i hi=>by
 obtain⟨n,v,rfl,hn,_⟩:=QZ ((jE h).2.1 i hi);have:=(qAm.1 hn).1;omega
def qdv(p)(h:VQ p)(hv:qk p=0):Pure prog GG 41 [.agg (qt p)] (.sl 1 ((qN p).map qh) .none):=by
 refine qEF o0 true qe func41 rfl (by kernel_rfl) ?_;have hval:=yW p h;have hg:=jE hv;have hvars:=h.vars;have hw:∀v∈p.vars,0<=v.width/\v.width<=8:=fun v hm=>by have:=zd (z0 hv v hm);omega
 obtain⟨LV,hLV⟩:∃LV,LV=qN p:=⟨_,rfl⟩;rw[<- hLV];simp only[qt]at hval;simp;refine qEJ hval (by simp) ?_;by_cases hv0:p.vars=[]
 . have hg0:p.groups=[]:=by
    apply qBY.2;intro g hgm;have h1:=hg.1 g hgm;obtain⟨i,hi⟩:=qDZ g h1;have:=hg.2.1 i (qAX.2 ⟨g,hgm,hi⟩);obtain⟨n,v,_,hn,_⟩:=QZ this;rw[hv0]at hn;simp at hn
   have hL0:LV=[]:=(by rw[hLV,qN,hg0,hv0];rfl);subst hL0;simp[hv,hv0,hg0,qI];refine qEO (fun m ev U=>ev 1=.ptr 0 0/\ev 3=.sl 1 [] (.chain 0 0)/\ev 18=.int .i64 0/\ev 19=.int .i64 0/\∃u T,U=⟨.cells (qt p)::u,T⟩) 0 ⟨by simp,by simp,by simp,by simp,_,_,by simp[hv0,hg0];exact⟨rfl,rfl⟩⟩ ?_;rintro m ev U R hR ⟨e1,e3,e18,e19,u,T,rfl⟩;simp[e1,e18,e19,hg0];refine qEO (fun m ev U=>ev 3=.sl 1 [] (.chain 0 0)/\ev 28=.int .i64 0/\ev 29=.int .i64 0) 0 ⟨by simp[e3],by simp,by simp⟩ ?_;rintro m ev U R hR ⟨e3,e28,e29⟩;simp[e3,e28,e29];have hf:∀H,frz H 8 (.sl 1 [] (.chain 0 0))=.sl 1 [] .none:=fun H=>by rw[frz];simp[qO]
   rw[hf];exact⟨rfl,qEQ _⟩
 have hpos:=qAI.2 hv0;simp[hv,hv0,show(p.vars.length:Int)<=549755813888 by omega,qI];have hfl:=qBf (VE hv) hvars;have hgl:=h.groups;have hgf:=h.group;refine kf p.vars.length (fun i ev U=>ev 1=.ptr 0 0/\ev 3=.ms 1 0 p.vars.length 1/\ev 18=.int .i64 p.vars.length/\ev 19=.int .i64 (i:Int)/\U=⟨[.cells (qt p),.cells (zc (List.replicate i (-1)++List.replicate (p.vars.length-i) 0))],[]⟩) ?_ ?_ ?_
 . refine⟨by simp,by simp,by simp,by simp,?_⟩;simp[zc]
 . rintro i ev U R hR hi ⟨e1,e3,e18,e19,rfl⟩;have hw1:=wr (n:=(i:Int)+1) (by omega) (by omega);have hi1:i+1<=p.vars.length:=hi;have hll:(zc (List.replicate i (-1)++List.replicate (p.vars.length-i) 0)).length=p.vars.length:=(by rw[qS];simp;omega);have hset:(zc (List.replicate i (-1)++List.replicate (p.vars.length-i) 0)).set i (.int .i64 (-1))=zc (List.replicate (i+1) (-1)++List.replicate (p.vars.length-(i+1)) 0):=by
    rw[kD,qBc _ _ (by simp)];have:p.vars.length-i=(p.vars.length-(i+1))+1:=by omega
    rw[this,qCx];simp[qC1]
   simp[e3,e18,e19,show(i:Int)<p.vars.length by omega,hi1,hll,hset,hw1];exact hR _ _ ⟨by simp[e1],by simp[e3],by simp[e18],by simp,rfl⟩
 rintro ev U ⟨e1,e3,e18,e19,rfl⟩;rw[qBm,qC6,qA6];have hL0:(wC p.vars []).1=List.replicate p.vars.length (-1):=rfl;rw[<- hL0];simp[e1,e18,e19];refine qEZ p.groups (fun dn ev U=>ev 1=.ptr 0 0/\ev 3=.ms 1 0 p.vars.length 1/\ev 5=.int .i64 (wC p.vars dn.flatten).2/\ev 27=.sl 1 (p.groups.map qx) .none/\ev 28=.int .i64 p.groups.length/\ev 29=.int .i64 dn.length/\U=⟨[.cells (qt p),.cells (zc (wC p.vars dn.flatten).1)],[]⟩) ?_ ?_ ?_
 . exact⟨by simp[e1],by simp[e3],by simp[wC],by simp,by simp,by simp,rfl⟩
 . rintro dn g rest ev U R hR hd hx hlt ⟨e1,e3,e5,e27,e28,e29,rfl⟩;have hdw:=wr (n:=(dn.length:Int)+1) (by omega) (by omega);have hgm:=qAn hx;have hgfit:=hgf g hgm;simp[e27,e28,e29,show(dn.length:Int)<p.groups.length by omega,hx];refine qEZ g (fun dg ev U=>ev 1=.ptr 0 0/\ev 3=.ms 1 0 p.vars.length 1/\ev 5=.int .i64 (wC p.vars (dn.flatten++dg)).2/\ev 27=.sl 1 (p.groups.map qx) .none/\ev 28=.int .i64 p.groups.length/\ev 29=.int .i64 dn.length/\ev 33=.sl 1 (g.map qh) .none/\ev 34=.int .i64 g.length/\ev 35=.int .i64 dg.length/\U=⟨[.cells (qt p),.cells (zc (wC p.vars (dn.flatten++dg)).1)],[]⟩) ?_ ?_ ?_
   . exact⟨by simp[e1],by simp[e3],by simp[e5],by simp[e27],by simp[e28],by simp[e29],by simp,by simp,by simp,by simp⟩
   . rintro dg v rest2 ev U R2 hR2 hd2 hx2 hlt2 ⟨e1,e3,e5,e27,e28,e29,e33,e34,e35,rfl⟩;obtain⟨n,vr,rfl,hn,_⟩:=QZ (hg.2.1 v (qAX.2 ⟨g,hgm,qAn hx2⟩));have hnl:=(qAm.1 hn).1;have hdw2:=wr (n:=(dg.length:Int)+1) (by unfold Fits at hgfit;omega) (by unfold Fits at hgfit;omega);have hwv:=hw vr (qAn hn);have hpre:(dn.flatten++dg).length<=1000:=by
      have:(dn.flatten++dg).length<=p.groups.flatten.length:=by
       rw[hd,hd2];simp
      omega
     have hnx:=qhT hw (dn.flatten++dg);have hww:=wr (n:=(wC p.vars (dn.flatten++dg)).2+vr.width) (by omega) (by omega);have hs:=VB p.vars (dn.flatten++dg) (n:Int);have hln:=ZR p.vars (dn.flatten++dg);simp only[vD,qAS,show zM p.vars n=vr.width by simp[zM,hn]]at hs;rw[qA4]at hs;generalize hQ:wC p.vars (dn.flatten++dg)=q at *;obtain⟨L,nx⟩:=q;simp only at *;have hn1:n+1<=p.vars.length:=hnl;have hn0:(n:Int)<p.vars.length:=(by omega);simp[e1,e3,e5,e33,e34,e35,show(dg.length:Int)<g.length by omega,hx2,show(zc L).length=p.vars.length by rw[qS,hln],hn1,hn0,hn,kD,hww,hdw2];exact hR2 _ _ ⟨by simp[e1],by simp[e3],by simp[hs],by simp[e27],by simp[e28],by simp[e29],by simp[e33],by simp[e34],by simp,by simp[hs]⟩
   rintro ev U ⟨e1,e3,e5,e27,e28,e29,e33,e34,e35,rfl⟩;simp[e29,e34,e35,hdw];exact hR _ _ ⟨by simp[e1],by simp[e3],by simp[e5],by simp[e27],by simp[e28],by simp,by simp⟩
 rintro ev U ⟨e1,e3,e5,e27,e28,e29,rfl⟩;have hLL:(wC p.vars p.groups.flatten).1=LV:=hLV.symm;have hln:=ZR p.vars p.groups.flatten;rw[hLL]at hln⊢;simp[e3,e28,e29];have hne2:LV≠[]:=fun e=>by rw[e]at hln;simp at hln;omega
 have ho:jx 1 1 qh [.cells (qt p),.cells (zc LV)] (.ms 1 0 p.vars.length 1) LV:=.inr ⟨hne2,by rw[hln],by rw[jL];rfl⟩;exact⟨ho.frzNo (fun x=>by simp) (fun x=>by simp) (fun x=>by simp) 7,ho.frz (fun x=>by simp) (fun x=>by simp) (fun x=>by simp) 7⟩
def yN{p}(h:qk p=0):(p.vars.map (·.name)).Nodup:=by
 have hv:jd p.vars=0:=by
  unfold qk at h;split at h
  . exact absurd h (by assumption)
  rename_i h1;exact qBt.1 h1
 have hd:qpW p.vars=false:=by
  unfold jd at hv;split at hv
  . cases hv
  split at hv
  . rename_i h1;exact absurd hv h1
  split at hv
  . cases hv
  rename_i h1;simpa using h1
 unfold qpW at hd;rw[qB4]at hd;refine qCb.2 fun i j hi hj hij e=>?_
 simp only[qAY]at hi hj;rw[qB1,qB1]at e;have:=hd j (qBq.2 hj);unfold Qm at this;rw[qAo hj]at this;simp only[Qf,qAW]at this;exact this ⟨p.vars[i],by rw[qD0];exact⟨i,by omega,rfl⟩,by simpa using e⟩
def qbE{vs:List Var}{m U}(hm:U.H[m]?=some (vM vs))(hn:(vs.map (·.name)).Nodup){i:Nat}{v:Var}(hv:vs[i]?=some v):zA (Dof prog) U 182 (.map m) (.str v.name) true=some (.tup [.int .i64 (i:Int),.bool true]):=by
 have:=qfg hn hv 0;unfold vM at hm;generalize (vN vs).map JT=E at *;simp[zA,hm,zG,this]
def qqF(p:Problem)(e)(hn:(p.vars.map (·.name)).Nodup)(hk:zy p.vars e=0)(ht:Jf e){H M}(hM:H[M]?=some (vM p.vars))(T) :
 qg prog GG 189 [.map M,.agg (qp e)] ⟨H,T⟩ (fun r U'=>r=.int .i64 0/\KpL [] H U'.H):=by
 refine qEI qe func189 rfl (by kernel_rfl) ?_;have ha:=Qt e ht.1 ht.2.2;have hna:=ZO e ht.1 ht.2.2;have he:zi e=0/\Yc e=false/\Zj p.vars e=false:=by
  unfold zy at hk;split at hk
  . rename_i h;exact absurd hk h
  rename_i h;split at hk
  . cases hk
  split at hk
  . cases hk
  rename_i h2 h3;exact⟨qBt.1 h,by simpa using h2,by simpa using h3⟩
 have h0:zO [3,24] e=[]:=by
  have:=QN (e:=e);rw[he.2.1]at this
  cases hl:zO [3,24] e with
  |nil=>rfl
  |cons a r=>rw[hl]at this;simp at this
 have hall:∀s∈zO [2] e,∃(i:Nat) (v:Var),p.vars[i]?=some v/\v.name=s:=fun s hs=>by
  have:=QF (l:=p.vars) (e:=e);rw[he.2.2,qB4]at this;have h1:=this s hs;simp only[qBO,Bool.not_eq_false,Qf,qAW]at h1;obtain⟨v,hv,hvn⟩:=h1;obtain⟨i,hi⟩:=qA5 hv;exact⟨i,v,hi,by simpa using hvn⟩
 have hfit:(zO [2] e).length<=100000:=KE ht.2.2;rw[h0]at ha;have henc:=qc e;rw[henc]at ha hna⊢;generalize zO [2] e=N at *;simp;refine qEJ ha (by simp) ?_;simp;refine qEJ hna (by simp) ?_;simp;refine qEZ N (fun d ev U=>ev 0=.map M/\ev 14=.sl 1 (N.map jk) .none/\ev 15=.int .i64 N.length/\ev 16=.int .i64 d.length/\KpL [] H U.H) ?_ ?_ ?_
 . exact⟨by simp,by simp,by simp,by simp,qFh⟩
 . rintro d s rest ev ⟨H1,T1⟩ R hR hd hx hlt ⟨e0,e14,e15,e16,hkp⟩;obtain⟨i,v,hi,hvn⟩:=hall s (qAn hx);have hl:=qbE (U:=⟨H1,T1⟩) (hkp.2 _ _ hM (by simp)) hn hi;rw[hvn]at hl;have hdw:=wr (n:=(d.length:Int)+1) (by omega) (by omega);simp[e0,e14,e15,e16,show(d.length:Int)<N.length by omega,hx,hl,hdw];exact hR _ _ ⟨by simp[e0],by simp[e14],by simp[e15],by simp,hkp⟩
 rintro ev ⟨H1,T1⟩ ⟨e0,e14,e15,e16,hkp⟩;simp[e15,e16];exact hkp
def qng:List (Nat×Sch×List Nat):=[(7,.step 0 [7,3,2,1] (.step 1 [7,3,2] (.step 2 [7,3] (.step 3 [7] (.step 4 [7,5] (.step 5 [7] (.step 6 [7] (.step 7 [] (.done)))))))),[]),(9,.step 0 [8,7] (.step 1 [8,7,6,4,3,2] (.step 2 [8,7,6,4,3] (.step 3 [8,7,6,4] (.step 4 [8,7,6] (.step 5 [8,7,6] (.step 6 [8,7] (.step 7 [8] (.step 8 [] (.done))))))))),[6])]
def qzH(d:List Nd)(p:Problem)(H:List Blk)(r:AV)(U':St):Prop :=
 ∃B M,r=.tup [.ptr B 0,.int .i64 0]/\H.length<=B/\H.length<=M/\M≠B/\KpL [] H U'.H/\U'.H[B]?=some (.cells (.sl 3 (d.map qH) .none::(qt p++[.sl 1 ((qN p).map qh) .none,.map M])))/\U'.H[M]?=some (vM p.vars)
def qg8{vs:List Var}{i}{v:Var}(hv:vs[i]?=some v):vN (vs.take (i+1))=vN (vs.take i)++[(v.name,.int .i64 (i:Int),i)]:=by
 have hl:=(qAm.1 hv).1;unfold vN;rw[qAT,hv];simp[qDf,qBL (qEv hl)]
def qmk{vs:List Var}(hn:(vs.map (·.name)).Nodup){i}{v:Var}(hv:vs[i]?=some v)(k):jP (.str v.name) ((vN (vs.take i)).map JT) k=some none:=by
 have hl:=(qAm.1 hv).1;rcases Zy (s:=v.name) (vN (vs.take i)) k with⟨h1,_⟩|⟨j,q,h1,h2,_⟩
 . exact h1
 exfalso;obtain⟨w,hw,rfl⟩:=qfh h1;rw[qBo]at hw;split at hw
 . rename_i hj;obtain⟨hj1,hj2⟩:=qAm.1 hw;obtain⟨_,hi2⟩:=qAm.1 hv;have hp:=qCb.1 hn;have h2:w.name=v.name:=h2;exact hp j i (by simpa using hj1) (by simpa using hl) hj (by rw[qB1,qB1,hj2,hi2,h2])
 cases hw
def qmy(d)(hd:DagOk d)(p)(h:VQ p)(hv:qk p=0)(e)(hk:zy p.vars e=0)(ht:Jf e)(H T) :
 qg prog GG 130 [.agg (zF d),.agg (qt p),.agg (qp e)] ⟨H,T⟩ (qzH d p H):=by
 refine qEH ⟨false,qng,[],[]⟩ qe func130 rfl (by kernel_rfl) ?_;have hdv:=Wj d hd;have hpv:=yW p h;have hev:=YZ e ht.1 (by have:=ht.2.1;omega);have hlv:=qdv p h hv;have hn:=yN hv;have he:zi e=0:=by
  unfold zy at hk;split at hk
  . rename_i h;exact absurd hk h
  rename_i h;exact qBt.1 h
 have hvl:=h.vars;have huse:=fun H M (hM:H[M]?=some (vM p.vars)) T=>qqF p e hn hk ht hM T
 rw[hv]at hpv;rw[he]at hev;generalize hLV:qN p=LV at *;rw[qc e]at hev huse⊢;simp only[zF]at hdv;simp only[qt]at hpv hlv;simp;refine qEJ hdv (by simp) ?_;simp[unA];refine qEJ hpv (by simp) ?_;simp;refine qEJ hev (by simp) ?_;simp;rw[Jr (by rfl)];simp;refine qEJ hlv (by simp) ?_;simp[zs,zW,qM];refine qEZ p.vars (fun dn ev U=>ev 4=.ptr (H.length+1) 0/\ev 5=.ptr (H.length+2) 0/\ev 8=.ptr (H.length+4) 0/\ev 32=.sl 4 (p.vars.map qJ) .none/\ev 33=.int .i64 p.vars.length/\ev 34=.int .i64 dn.length /\
  KpL [] H U.H/\U.H[H.length+1]?=some (.cells (qt p))/\U.H[H.length+2]?=some (.cells [.int .i64 e.op,.int .i64 e.n,.str e.name,.sl 4 (e.args.map qp) .none])/\U.H[H.length+3]?=some (.map ((vN (p.vars.take dn.length)).map JT) dn.length) /\
  U.H[H.length+4]?=some (.cells (.sl 3 (d.map qH) .none::(qt p++[.sl 1 (LV.map qh) .none,.map (H.length+3)])))) ?_ ?_ ?_
 . refine⟨by simp,by simp,by simp,by simp,by simp,by simp,qFh,?_,?_,?_,?_⟩
   . exact lk1
   . exact lk2
   . exact lk3
   . exact lk4
 . rintro dn v rest ev ⟨H1,T1⟩ R hR hd hx hlt ⟨e4,e5,e8,e32,e33,e34,hkp,bP,bE,bM,bB⟩;have hdw:=wr (n:=(dn.length:Int)+1) (by omega) (by omega);have hf:=qmk hn hx 0;have ht1:=qg8 hx;have hMl:=(qAm.1 bM).1;have hup:∀(u:List Blk) (T:List (Option Nat)),zg (Dof prog) ⟨H1++u,T⟩ 182 (.map (H.length+3)) (.str v.name) (.int .i64 (dn.length:Int))=some ⟨H1.set (H.length+3) (.map ((vN (p.vars.take (dn.length+1))).map JT) (dn.length+1))++u,T⟩:=fun u T=>by
    rw[ht1,qBp];generalize (vN (p.vars.take dn.length)).map JT=E at *;simp[zg,qd bM,zG,hf,ku bM,JT]
   generalize hE2:(vN (p.vars.take (dn.length+1))).map JT=E2 at *;simp only[qt,qAL,qAK]at bB;simp[e32,e33,e34,show(dn.length:Int)<p.vars.length by omega,hx];rw[qR rfl];simp[ze,e8,e34,qd bB,hup,hdw];refine hR _ _ ⟨by simp[e4],by simp[e5],by simp[e8],by simp[e32],by simp[e33],by simp,(hkp.setF (by omega)).trans qFh,qd (by rw[qAp (by omega)];exact bP) _,qd (by rw[qAp (by omega)];exact bE) _,?_,qd (by rw[qAp (by omega)];exact bB) _⟩;rw[qAq,qAQ,hE2];exact qd (qAt hMl) _
 rintro ev ⟨H1,T1⟩ ⟨e4,e5,e8,e32,e33,e34,hkp,bP,bE,bM,bB⟩;rw[qB7]at bM;have bM':=bM;have bB':=bB;simp only[qt,qAL,qAK]at bB;simp[e33,e34];rw[qR rfl];simp[ze,e5,e8,bB,bE];refine qEM (huse H1 (H.length+3) bM' T1) ?_;rintro v ⟨H2,T2⟩ ⟨rfl,hk2⟩;simp[ze];exact⟨H.length+4,H.length+3,rfl,by omega,by omega,by omega,hkp.trans hk2,by rw[hLV];exact hk2.2 _ _ bB' (by simp),hk2.2 _ _ bM' (by simp)⟩
