/- The tied card of RandomDrops: the law's function returns true for every input, and each argument reads afterwards as it read before. No condition. -/
import Derived.Test.YtkpkjbchlabaaaaGreatDoorDa43
import Derived.Test.YtkpkjbchlabaaaaGreatDoorRows
import Derived.ProofKit
import Derived.Stop.Joined
import Derived.SevenTiedAt
import Derived.Test.YtkpkjbchlabaaaaGreatDoorTie
import Derived.Test.YtkpkjbchlabaaaaGreatDoorCards
set_option linter.unusedVariables false
set_option linter.unusedSimpArgs false
set_option maxRecDepth 100000
set_option linter.defProp false
section
namespace Go.Proofs.YtkpkjbchlabaaaaGreatDoor
open Go Go.Abs
def wn:Ex:=.mk 17 0 [] [wL [97],wL [98]]
def p2 (b:Bool):Problem:={ vars:=[⟨[97],2,1,0⟩,⟨[98],2,1,0⟩],hard:=[wn],soft:=[],dists:=[],groups:=if b then [[0],[1]] else [[0,1]] }
theorem Wb (b:Bool):qk (p2 b)=0:=by
 have hn:zS [97]=true:=by kernel_rfl
 have hn2:zS [98]=true:=by kernel_rfl
 have he:yt [97]=none:=Yb (by decide);have he2:yt [98]=none:=Yb (by decide);have hv:yL [97]=true:=by unfold yL;rw[hn];rfl
 have hv2:yL [98]=true:=by unfold yL;rw[hn2];rfl
 have hE:jF ⟨[97],2,1,0⟩=0:=by
  unfold jF;rw[hv];simp
 have hE2:jF ⟨[98],2,1,0⟩=0:=by
  unfold jF;rw[hv2];simp
 have hg:jK (p2 b).vars (p2 b).groups:=by
  cases b
  . refine⟨by simp[p2],by simp[p2,ye],by simp[p2],fun i hi _=>?_⟩;simp[p2]at hi ⊢;omega
  . refine⟨by simp[p2],by simp[p2,ye],by simp[p2],fun i hi _=>?_⟩;simp[p2]at hi ⊢;omega
 unfold qk;have h1:zQ (p2 b).vars=0:=by
  unfold zQ;simp[p2,qE,hE,hE2,qme,vl,ve,ZP,he,he2,jW];intro x hx;have:x=0\/x=1:=by omega
  rcases this with rfl|rfl<;>rfl
 have h2:zc (p2 b).vars wn=0:=by kernel_rfl
 have h3:qE (zc (p2 b).vars) ((p2 b).hard++(p2 b).soft)=0:=by
  show qE (zc (p2 b).vars) [wn]=0;simp[qE,h2]
 rw[h1,h3];unfold zw;rw[if_pos hg];simp[p2,qE,jT]
theorem wb (b:Bool):qZ (p2 b)=([wn],0):=by
 have:=qes (Wb b) rfl rfl (by cases b<;>kernel_rfl);exact this
theorem sol_p2:zI (p2 true)=(6,0):=by
 unfold zI;rw[wb]
 kernel_rfl
theorem tot_p2:ke (p2 true) 1 [0,0]=(3,0):=by
 unfold ke;rw[qlt,wb]
 kernel_rfl
theorem chs_p2:Qg (p2 false) 0 [0,0] 5=([2,3],0):=by
 unfold Qg ke;rw[qlt,qhQ,wb]
 kernel_rfl
theorem qdu {b:Bool}{a:List Int}(h:yn (kx (p2 b).vars a) wn≠0)(ha:qM (p2 b).vars a=true):([wn]:List Ex).all (yl (p2 b) a)=true:=by
 simp only[qqv,List.all_nil,qq3];exact qdH (Wb b) h ha
theorem qbG {p:Problem}{R:List Ex}(h:(qZ p).1=R)(a:List Int)(gi:Nat)(rest:List Nat)(n d:Nat):VU p a (gi::rest) n d =
 if (ZY p R gi a).2≠0 then (0,0,(ZY p R gi a).2)
 else if (yA n d (yq (yX p gi a) (ZY p R gi a).1.toNat).1 (yq (yX p gi a) (ZY p R gi a).1.toNat).2).2.2≠0 then (0,0,3)
 else VU p a rest (yA n d (yq (yX p gi a) (ZY p R gi a).1.toNat).1 (yq (yX p gi a) (ZY p R gi a).1.toNat).2).1 (yA n d (yq (yX p gi a) (ZY p R gi a).1.toNat).1 (yq (yX p gi a) (ZY p R gi a).1.toNat).2).2.1:=by
 subst h;rfl
theorem qnb:YZ (p2 true) [0,1]=(1,9,0):=by
 have h1:ZY (p2 true) [wn] ((0:Nat):Int) [0,1]=(3,0):=by kernel_rfl
 have h2:ZY (p2 true) [wn] ((1:Nat):Int) [0,1]=(3,0):=by kernel_rfl
 have hr:(qZ (p2 true)).1=[wn]:=by rw[wb]
 have hev:yn (kx (p2 true).vars [0,1]) wn=1:=by kernel_rfl
 have m1:yA 1 1 (yq (yX (p2 true) 0 [0,1]) 3).1 (yq (yX (p2 true) 0 [0,1]) 3).2=(1,3,0):=by kernel_rfl
 have m2:yA 1 3 (yq (yX (p2 true) 1 [0,1]) 3).1 (yq (yX (p2 true) 1 [0,1]) 3).2=(1,9,0):=by kernel_rfl
 unfold YZ;rw[wb,if_neg (by simp),if_neg (by rw[show qM (p2 true).vars [0,1]=true by kernel_rfl];simp),if_neg (by rw[qdu (by rw[hev];decide) (by kernel_rfl)];simp)];show VU (p2 true) [0,1] [0,1] 1 1=_;rw[qbG hr,h1,if_neg (by simp),show ((3:Int),(0:Int)).1.toNat=3 from rfl,m1,if_neg (by simp),qbG hr,h2,if_neg (by simp),show ((3:Int),(0:Int)).1.toNat=3 from rfl,m2,if_neg (by simp)];rfl
theorem qje:YZ (p2 false) [2,3]=(1,6,0):=by
 have h1:ZY (p2 false) [wn] ((0:Nat):Int) [2,3]=(6,0):=by kernel_rfl
 have hr:(qZ (p2 false)).1=[wn]:=by rw[wb]
 have hev:yn (kx (p2 false).vars [2,3]) wn=1:=by kernel_rfl
 have m1:yA 1 1 (yq (yX (p2 false) 0 [2,3]) 6).1 (yq (yX (p2 false) 0 [2,3]) 6).2=(1,6,0):=by kernel_rfl
 unfold YZ;rw[wb,if_neg (by simp),if_neg (by rw[show qM (p2 false).vars [2,3]=true by kernel_rfl];simp),if_neg (by rw[qdu (by rw[hev];decide) (by kernel_rfl)];simp)];show VU (p2 false) [2,3] [0] 1 1=_;rw[qbG hr,h1,if_neg (by simp),show ((6:Int),(0:Int)).1.toNat=6 from rfl,m1,if_neg (by simp)];rfl
theorem qlJ (b:Bool):Pure Tryz.prog GG 21 [.bool b] (.agg (qG (p2 b))):=by
 refine Pure.kO o0 false qe Tryz.func21 rfl (by kernel_rfl) ?_;cases b
 . simp[-getElem?_pos,zn,zU,qD,qj,qs];simp[p2,wn,wL,qq,jV,zu,Leq,qC,zF,qu,AV.atom]
 . simp[-getElem?_pos,zn,zU,qD,qj,qs];simp[p2,wn,wL,qq,jV,zu,Leq,qC,zF,qu,AV.atom]
theorem VO (b:Bool):RnH (p2 b):=by
 refine⟨⟨by simp[p2],by simp[p2,Fits],by simp[p2],by simp[p2],?_,by simp[p2,Fits],by simp[p2],by cases b<;>simp[p2,Fits],by cases b<;>simp[p2,Fits]⟩,by simp[p2],?_,by simp[p2],by simp[p2],by simp[p2]⟩
 . intro e he;have:e=wn:=by simpa[p2] using he
   subst this;refine⟨?_,?_,?_⟩
   . intro x hx;have:x=wn\/x=wL [97]\/x=wL [98]:=by simpa[wn,pre,kh,wL] using hx
     rcases this with rfl|rfl|rfl<;>simp[wn,wL,Fits,Ex.args,Ex.name]
   . decide
   . decide
 . unfold qx;rw[if_neg (by simp[Wb])];cases b<;>decide
theorem qbe:Pure Tryz.prog GG 8 [] (.bool true):=by
 refine Pure.k qe Tryz.func8 rfl (by kernel_rfl) ?_;have hl:∀ b,qk (p2 b)=0->(NG (p2 b)).flatten.length<=12:=fun b _=>by cases b<;>decide
 have h1:=Qk (p2 true) (VO true);have h2:=qoL (p2 true) (VO true) 1 [0,0];have h3:=qmt (p2 true) (VO true) [0,1] (by simp[Fits]);have h4:=qmt (p2 false) (VO false) [2,3] (by simp[Fits]);have h5:=qlq (p2 false) (VO false) (hl false) 0 [0,0] 5;rw[sol_p2]at h1;rw[tot_p2]at h2;rw[qnb]at h3;rw[qje]at h4;rw[chs_p2]at h5;have q1:=qlJ true;have q2:=qlJ false;simp only[qG,qo2,qpr,qu]at h1 h2 h3 h4 h5 q1 q2;simp[-getElem?_pos];refine qc.call q1 (by simp) ?_;simp[-getElem?_pos];refine qc.call h1 (by simp) ?_;simp[-getElem?_pos];refine qc.call q1 (by simp) ?_;simp[-getElem?_pos,qj,qs];refine qc.less h2 (by simp) (by simp[zu,Leq,jV]) ?_;simp[-getElem?_pos];refine qc.call q1 (by simp) ?_;simp[-getElem?_pos,qj,qs];refine qc.less h3 (by simp) (by simp[zu,Leq,jV]) ?_;simp[-getElem?_pos];refine qc.call q2 (by simp) ?_;simp[-getElem?_pos,qj,qs];refine qc.less h4 (by simp) (by simp[zu,Leq,jV]) ?_;simp[-getElem?_pos];refine qc.call q2 (by simp) ?_;simp[-getElem?_pos,qj,qs];refine qc.less h5 (by simp) (by simp[zu,Leq,jV]) ?_;simp[-getElem?_pos,ql9]
noncomputable def qkw (p:Problem)(b:Int):Bool:=ju p&&decide (yW p.vars (qx p)<=b)
noncomputable def Kl (p:Problem)(b:Int):Bool:=qkw p b&&decide (qk p=0)
theorem few42 (p:Problem)(h:VM p)(b:Int):Pure Tryz.prog GG 19 [.agg (qG p),.int .i64 b] (.bool (qkw p b)):=by
 refine Pure.k qe Tryz.func19 rfl (by kernel_rfl) ?_;have hs:=qmY p h.h.exprs;obtain⟨res,hres⟩:∃ res,res=qkw p b:=⟨_,rfl⟩;rw[<- hres];unfold qkw at hres;simp only[qG]at hs;simp[-getElem?_pos];refine qc.call hs (by simp) ?_
 cases hsm:ju p with
 | false=>
  rw[hsm,qqM]at hres;subst hres;simp[-getElem?_pos]
 | true=>
  have hb:=bits25 p (h.h.small hsm);rw[hsm,qpT]at hres;simp only[qG]at hb;simp[-getElem?_pos];refine qc.call hb (by simp) ?_;simp[-getElem?_pos];exact hres.symm
theorem qmW (p:Problem)(h:VM p)(b:Int):Pure Tryz.prog GG 7 [.agg (qG p),.int .i64 b] (.bool (Kl p b)):=by
 refine Pure.k qe Tryz.func7 rfl (by kernel_rfl) ?_;have hs:=few42 p h b;obtain⟨res,hres⟩:∃ res,res=Kl p b:=⟨_,rfl⟩;rw[<- hres];unfold Kl at hres;simp only[qG]at hs;simp[-getElem?_pos];refine qc.call hs (by simp) ?_
 cases hsm:qkw p b with
 | false=>
  rw[hsm,qqM]at hres;subst hres;simp[-getElem?_pos]
 | true=>
  have hsm':ju p=true:=by
   unfold qkw at hsm;simp only[qoW]at hsm;exact hsm.1
  have hb:=qmN p (h.h.small hsm');rw[hsm,qpT]at hres;simp only[qG]at hb;simp[-getElem?_pos];refine qc.call hb (by simp) ?_;simp[-getElem?_pos];rw[hres];rfl
theorem qn9 {p:Problem}(h:VM p){b:Int}(hb:b<=18)(hf:qkw p b=true):RnH p/\VP p:=by
 unfold qkw at hf;simp only[qoW,decide_eq_true_eq]at hf;have hvp:=h.h.small hf.1;have hs:=hf.1;simp only[ju,qoW,qp4,qrJ,decide_eq_false_iff_not,qo1,decide_eq_true_eq]at hs;obtain⟨⟨⟨⟨⟨⟨⟨⟨a1,a2⟩,a3⟩,a4⟩,a5⟩,b1⟩,b2⟩,b3⟩,b4⟩:=hs;exact⟨⟨hvp.q,by omega,by omega,by omega,by omega,fun d hd=>by have:=b3 d hd;omega⟩,hvp⟩
theorem qfZ {p:Problem}(h:VM p){b:Int}(hb:b<=18)(hf:Kl p b=true):RnH p/\VP p/\qk p=0/\yW p.vars (qx p)<=b:=by
 unfold Kl at hf;simp only[qoW,decide_eq_true_eq]at hf;have h1:=qn9 h hb hf.1;have h2:=hf.1;unfold qkw at h2;simp only[qoW,decide_eq_true_eq]at h2;exact⟨h1.1,h1.2,hf.2,h2.2⟩
def ya (p:Problem):Problem:={ p with soft:=[] }
theorem ZM {p:Problem}(h:qk p=0):qk (ya p)=0:=by
 have hv:=JH h;unfold qk at h⊢;show (if zQ p.vars≠0 then zQ p.vars else if qE (zc p.vars) (p.hard++[])≠0 then qE (zc p.vars) (p.hard++[]) else if jT p.vars p.dists≠0 then jT p.vars p.dists else zw p.vars p.groups)=0;by_cases h1:zQ p.vars=0
 . rw[if_neg (by simp[h1])]at h ⊢;by_cases h2:qE (zc p.vars) (p.hard++p.soft)=0
   . rw[if_neg (by simp[h2])]at h;have h3:qE (zc p.vars) (p.hard++[])=0:=by
      rw[qpu];exact zj.2 fun a ha=>zj.1 h2 a (by simp[ha])
     rw[if_neg (fun e=>e h3)];exact h
   . rw[if_pos h2]at h;exact absurd h h2
 . rw[if_pos h1]at h;exact absurd h h1
theorem qeD {p:Problem}(h:RnH p)(hv:qk p=0):RnH (ya p):=by
 have hq:=h.q;refine⟨⟨hq.vars,hq.names,hq.hard,by simp[ya],fun e he=>hq.exprs e (by simpa[ya] using .inl (by simpa[ya] using he)),hq.dists,hq.weights,hq.groups,hq.group⟩,h.v20,?_,h.dl,by simp[ya],h.wl⟩;have e:qx (ya p)=qx p:=by
  unfold qx;rw[if_neg (by simp[ZM hv]),if_neg (by simp[hv])];rfl
 rw[e];exact h.bits
theorem qca {p:Problem}(hv:qk p=0):(zI p).2=(zI (ya p)).2/\(zI p).1<=(zI (ya p)).1:=by
 have hv':=ZM hv;have hn:zH (ya p)=zH p:=by
  unfold zH j9;rw[if_pos hv,if_pos hv'];rfl
 have hn2:zH p=Y3 p:=by unfold zH j9 Y3;rw[if_pos hv]
 have hr:qZ p=if yd p.vars (zH p)=true then (ZI p,0) else ([],11):=by unfold qZ;rw[if_pos hv]
 have hr':qZ (ya p)=if yd p.vars (zH p)=true then (zH p,0) else ([],11):=by
  unfold qZ;rw[if_pos hv',hn];have:ZI (ya p)=zH p:=by
   unfold ZI QH;show Y3 (ya p)++_=_;have:Y3 (ya p)=Y3 p:=rfl;rw[this,hn2];simp[ya,Z8,wu]
  rw[this];rfl
 unfold zI;rw[hr,hr'];by_cases hs:yd p.vars (zH p)=true
 . rw[if_pos hs,if_pos hs];simp only[ne_eq,not_true_eq_false,if_false,true_and];unfold qmX;refine List.countP_mono_left fun a ha h=>?_
   have h1:ZI p=zH p++(QH p).map (·.2):=(by unfold ZI;rw[hn2]);rw[h1]at h;unfold v8 at h⊢;rw[qqj,qoW]at h;exact h.1
 . rw[if_neg hs,if_neg hs];exact⟨rfl,qo0 _⟩
theorem qog (p:Problem)(h:VM p):Pure Tryz.prog GG 5 [.agg (qG p)] (.bool true):=by
 refine Pure.k qe Tryz.func5 rfl (by kernel_rfl) ?_;have hs:=qmW p h 8;simp only[qG]at hs;simp[-getElem?_pos];refine qc.call hs (by simp) ?_
 cases hso:Kl p 8 with
 | false=>
  simp[-getElem?_pos,unA];refine qc.call qbe (by simp) ?_;simp[-getElem?_pos]
 | true=>
  obtain⟨hr,hvp,hv,hb⟩:=qfZ h (by decide) hso;by_cases hz:p.soft=[]
  . simp[-getElem?_pos,unA,hz];refine qc.call qbe (by simp) ?_;simp[-getElem?_pos]
  . have hz':¬ (p.soft.length:Int)=0:=by
     have:=qo6.2 hz;omega
    have s1:=Qk p hr;have s2:=Qk (ya p) (qeD hr hv);obtain⟨d1,d2⟩:=qca hv;generalize zI p=A at *;generalize zI (ya p)=B at *;obtain⟨a1,a2⟩:=A;obtain⟨b1,b2⟩:=B;dsimp only at d1 d2 s1 s2;subst d1;have d2':(a1:Int)<=b1:=(by omega);simp only[qG,ya,qpr]at s1 s2;simp[-getElem?_pos,unA,hz,hz'];refine qc.call s1 (by simp) ?_;simp[-getElem?_pos];refine qc.less s2 (by simp) (by simp[zu,Leq,Leq.refl,jV.refl]) ?_;simp[-getElem?_pos,d2'];refine qc.call qbe (by simp) ?_;simp[-getElem?_pos]
end Go.Proofs.YtkpkjbchlabaaaaGreatDoor
end
section
namespace Go.Proofs.YtkpkjbchlabaaaaGreatDoor
open Go Go.Abs Go.ChangeShapes Go.WideShapes Go.ChangeAt Go.RowKit
theorem qi1 {H:Type}{enc:TypeId×Value->H}{W W':World}{v:Value}{d:DataW H}{ps:List MemPlace}{sp:Nat->Bool}(h:DataW.Trod enc Tryz.prog W 0 (fun _=>true) true 27 v d ps)(hb:Go.RowKit.Below W.heap.size W W')(hlt:∀ x∈ps,x.block<W.heap.size)(hs:∀ p∈ps,sp p.block=true) :
 DataW.Trod enc Tryz.prog W' 0 sp true 27 v d ps :=
 WideElems.Trod_stays qbS (by kernel_rfl) (of_decide_eq_true (by kernel_rfl)) h (fun x hx=>hb.same (hlt x hx)) hs
theorem qnF (os:Os)(started:os.Started)(H:Type)(enc:TypeId×Value->H) :
 ReturnsInHanded {} Tryz.checked os 5 .any (fun w args=>(Rows.randomDropsSpec.pre enc Tryz.prog Tryz.f5 [] false w args/\laidMetH Tryz.prog qeS w)/\sizedMet enc Tryz.prog Tryz.f5 (OpenSpec.ofChange Rows.randomDropsSpec) false w args)
  (Rows.randomDropsSpec.post enc Tryz.prog Tryz.f5 false true false false):=by
 refine returnsInHanded_of_change_and (C:=Tryz.checked) (X:=fun w _=>laidMetH Tryz.prog qeS w) (fun _ _ _ hh h=>h.of_heap hh) qnj started (by kernel_rfl) Tryz.func5
  (ChangeSpec.witness_shaped (enc:=enc) (C:=Tryz.checked) (os:=os) (X:=fun w _=>laidMetH Tryz.prog qeS w) false (World.doorLaid Tryz.prog 400 os) #[.agg #[.slice none 0 0,.slice none 0 0,.slice none 0 0,.slice none 0 0,.slice none 0 0]] 8 rfl (World.shaped_of_RefB (by kernel_rfl) (by kernel_rfl)) (by kernel_rfl) (by kernel_rfl) (by kernel_rfl) (qkI os _)) ?_
 intro W base args ds gs before hval0 hW _ hWt hL _;have hval:∀ (j:Nat) t v,Tryz.f5.params[j]?=some t->args[j]?=some v->Value.okWide Tryz.prog W .any base t v:=hval0;have hwt:(DataW.weightsEach Tryz.prog (Tryz.f5.params.toList++Rows.randomDropsSpec.plain.varTypes Tryz.prog) (ds++gs)).all (·<=reachBytes)=true:=hWt;have hW':=hW;obtain⟨p,q,hA0,hV,rfl,hfz,hnd⟩:=hW;have hA:DataW.TrodAll enc Tryz.prog W 0 (fun _=>true) true Tryz.f5.params.toList args.toList ds p:=hA0;rw[Tryz.params5]at hA hval hwt;obtain⟨v0,d0,rfl,rfl,h0⟩:=trodAll_one hA;obtain⟨rfl,rfl⟩:=trodVars_none hV;have hv0:=hval 0 27 v0 rfl rfl;unfold Value.okWide at hv0;rw[Tryz.underlying27]at hv0;obtain⟨cs0,rfl,_,_⟩:=hv0;have h0':=h0;obtain⟨fuel0,hf0⟩:=h0;have hw0:∀ k∈d0.weights Tryz.prog 27,k<=reachBytes:=fun k hk=>of_decide_eq_true (qo1.1 hwt k (DataW.weights_mem_each (j:=0) (t:=27) rfl rfl k hk))
 obtain⟨x0,hrel0,hg0⟩:=rdP hf0 hw0;have hpure:=qog x0 hg0;have hargs:qh (KMw W) [.agg (qG x0)] (#[Value.agg cs0]:Array Value).toList:=by
  simp only[qh];have g0:qg (KMw W) (.agg (qG x0)) (Value.agg cs0):=by
   unfold qg;exact⟨cs0,rfl,hrel0⟩
  exact⟨_,_,rfl,g0,rfl⟩
 refine (hpure.2 W (qbB W) #[Value.agg cs0] (qg8 hL) (fun _ _ _ e=>e) hargs).mono ?_;rintro e W' ⟨v,ro',rfl,hb,_,_,_,hv⟩;have hv1:v=.bool true:=by simpa only[qg] using hv
 subst hv1;have hW2:=hW';simp only[qpu]at hW2;have hlt:=fun x hx=>hW2.lt x hx
 refine⟨_,rfl,[d0],[],p,[],p,[],hW2,?_,?_,?_,hb.frame _,fun h=>by cases h⟩
 . exact trodAll_mk1 (shut_bool Tryz.underlying4 true)
 . exact trodAll_mk1 (qi1 h0' hb (fun x hx=>hlt x (hx)) (fun x hx=>by simpa using hlt x (hx)))
 . rfl
end Go.Proofs.YtkpkjbchlabaaaaGreatDoor
end
section
namespace Go.Proofs.YtkpkjbchlabaaaaGreatDoor
open Go
theorem fn5 : Tryz.prog.funcNamed "testbench/testbenchlaw23.RandomDrops" = some 5 := by kernel_rfl
theorem inst5:Tryz.f5.isInstance Tryz.prog Rows.randomDropsRow.origin Rows.randomDropsRow.targs:=of_decide_eq_true (by kernel_rfl)
theorem wrap5:Tryz.f5.isWrapper Tryz.prog Rows.randomDropsRow.wrapper Rows.randomDropsRow.mainSum:=by unfold Func.isWrapper;first | (rw[if_pos (by decide +kernel)];kernel_rfl) | (rw[if_neg (by decide +kernel)];exact⟨rfl,rfl⟩)
theorem Y5:(Rows.randomDropsRow.inPlace==Tryz.prog.inPlace 5)=true:=by kernel_rfl
theorem Zl:(Rows.randomDropsRow.unfollowed==Tryz.prog.unfollowed 5)=true:=by kernel_rfl
theorem Yx:(Rows.randomDropsRow.recurses==Tryz.prog.recurses 5)=true:=by kernel_rfl
theorem qaJ:(Rows.randomDropsRow.named==Tryz.prog.varsNamed 5)=true:=by kernel_rfl
theorem qb6:(Rows.randomDropsRow.wf (OpenSpec.ofChange Rows.randomDropsSpec)&&laidOutB Tryz.prog&&mapsRowed Tryz.prog &&
 Tryz.f5.params.all (Tryz.prog.readableRec ·)&&namedTie Tryz.prog Rows.randomDropsRow.named Rows.randomDropsSpec.vars &&
 (Rows.randomDropsRow.stops == [])&&(Tryz.prog.stops == [])&&(Rows.randomDropsRow.knobs == [])&&(Tryz.prog.stopKnobs == []))=true:=by kernel_rfl
theorem qb5:((Rows.randomDropsRow.maps==(Tryz.f5.params.toList++Rows.randomDropsSpec.plain.varTypes Tryz.prog).any (Tryz.prog.mapsRec ·))&&(Rows.randomDropsRow.ifaces==(Tryz.f5.params.toList++Rows.randomDropsSpec.plain.varTypes Tryz.prog).any (Tryz.prog.ifacesRec ·))&&(Rows.randomDropsRow.mapsOut==Tryz.prog.mapsAmong Tryz.f5.resultTypes.toList) &&
 (Rows.randomDropsRow.loops==(Tryz.f5.params.toList++Rows.randomDropsSpec.plain.varTypes Tryz.prog).any (Tryz.prog.loopsFrom ·))&&(Rows.randomDropsRow.wideKeys==(Tryz.f5.params.toList++Rows.randomDropsSpec.plain.varTypes Tryz.prog++Tryz.f5.resultTypes.toList).any (Tryz.prog.wideKeysFrom ·)) &&
 Rows.randomDropsSpec.vars.all (Tryz.prog.varReadable ·)&&Tryz.f5.resultTypes.all (fun t=>Tryz.prog.readableRec t&&decide (t<Tryz.prog.types.size))&&(Rows.randomDropsRow.ifacesOut==Tryz.f5.resultTypes.toList.any (Tryz.prog.ifacesRec ·))&&(Rows.randomDropsRow.loopsOut==Tryz.f5.resultTypes.toList.any (Tryz.prog.loopsFrom ·))&&(Rows.randomDropsRow.plainKeys==Tryz.prog.plainKeys)&&Rows.randomDropsRow.shortTexts.isNone&&Tryz.prog.stopsHeard&&Tryz.prog.mayEnter&&(Rows.randomDropsRow.lifted==Tryz.prog.liftsFinal)&&(Tryz.prog.make==some Rows.randomDropsRow.make))=true:=by kernel_rfl
theorem qe2:((Rows.randomDropsRow.kinds==(if Rows.randomDropsRow.domain.isEmpty then [] else Tryz.f5.params.toList.map fun t=>match Tryz.prog.underlying t with | some (.int k)=>some k | _=>none))&&(Rows.randomDropsRow.pinned==Rows.randomDropsRow.pinnedBy) &&
 (Rows.randomDropsRow.veiled==(Tryz.f5.params.toList++Rows.randomDropsSpec.plain.varTypes Tryz.prog++Tryz.f5.resultTypes.toList).any (Tryz.prog.veiledRec ·))&&Rows.randomDropsRow.veiledFits Tryz.prog Tryz.f5.params.toList (Tryz.f5.params.toList++Rows.randomDropsSpec.plain.varTypes Tryz.prog++Tryz.f5.resultTypes.toList))=true:=by kernel_rfl
theorem facts5:joinedFacts Tryz.prog 5 Tryz.f5 Rows.randomDropsSpec Rows.randomDropsRow=true:=by
 have h1:=qb6;have h2:=qb5;have h3:=qe2;simp only[Bool.and_eq_true,and_assoc]at h1 h2 h3;unfold joinedFacts;simp only[Bool.and_eq_true,and_assoc];obtain⟨a1,a2,a3,a4,a5,a6,a7,a8,a9⟩:=h1;obtain⟨b1,b2,b3,b4,b5,b6,b7,b8,b9,b10,b11,b12,b13,b14,b15⟩:=h2;obtain⟨c1,c2,c3,c4⟩:=h3;exact⟨a1,a2,a3,a4,a5,a6,a7,a8,a9,Y5,Zl,Yx,qaJ,b1,b2,b3,b4,b5,b6,b7,b8,b9,b10,b11,b12,b13,b14,b15,c1,c2,c3,c4⟩
theorem JY:Rows.RandomDropsSaid :=
 OpenClaim.holds_of_wide 5 Tryz.f5 rfl rfl rfl rfl rfl rfl rfl ⟨rfl,rfl,rfl,rfl,rfl⟩ rfl rfl rfl rfl rfl fn5 Tryz.func5 facts5 inst5 wrap5
  (fun os started H enc _=>qnF os started H enc)
theorem qfb:Rows.randomDropsRow.wfByText (OpenSpec.ofChange Rows.randomDropsSpec)=true:=by kernel_rfl
theorem qfc : Tryz.prog.mainIs = some (true, "987bd91778cffe5dc9b1873c32978561209d0255da7ae84461e49386f51b4fc8".toList) := by kernel_rfl
theorem qcj:true=Tryz.prog.looks []:=by kernel_rfl
theorem qaT:([27].all fun u=>!Tryz.prog.wantsStandIn u)=true:=by kernel_rfl
theorem qfd:false=Rows.randomDropsRow.goesBy Tryz.prog:=by kernel_rfl
theorem randomDrops_card:Rows.RandomDropsCardSaid :=
 Claim7.holds_tied_plain_at .later [] [.data, .data, .data, .widerDeep] true (true, "987bd91778cffe5dc9b1873c32978561209d0255da7ae84461e49386f51b4fc8") true
  JY (fun _ h=>by cases h) qfb (fun _ h=>by cases h) randomDrops_row_tie rfl ⟨rfl,rfl⟩ qfc rfl
  (fun f fn hf hfn=>by
    obtain rfl:f=5:=Option.some.inj (fn5.symm.trans hf) |>.symm;obtain rfl:fn=Tryz.f5:=(Option.some.inj (Tryz.func5.symm.trans hfn)).symm;exact⟨qcj,fun j t ht=>by
     rw[Tryz.params5]at ht;have hm:t∈[27]:=(by simpa using Array.mem_of_getElem? ht);exact (show Tryz.prog.wantsStandIn t=false by simpa using List.all_eq_true.1 qaT t hm)⟩)
  qfd
#print axioms randomDrops_card
end Go.Proofs.YtkpkjbchlabaaaaGreatDoor
end
