/- A part of the proof. -/
import Derived.Test.YtkpkjbchlabaaaaGreatDoorSa20
import Derived.Test.YtkpkjbchlabaaaaGreatDoorSa08
set_option maxHeartbeats 16000000
set_option linter.unusedVariables false
set_option linter.unusedSimpArgs false
set_option maxRecDepth 100000
set_option linter.defProp false
section
namespace Go.Proofs.YtkpkjbchlabaaaaGreatDoor
open Go Go.Abs
def zI (a:List Int):List AV:=a.map (AV.int .i64 ·)
@[simp]def KC (p:Problem)(l:List Ex)(va:AV)(over:Bool)(n:Nat):List AV:=[.sl 4 (p.vars.map qA) .none,.sl 4 (p.hard.map qr) .none,.sl 4 (p.soft.map qr) .none,.sl 2 (p.dists.map zH) .none,.sl 1 (p.groups.map zG) .none,.sl 4 (l.map qr) .none,va,.bool over,.int .i64 n]
def V3 (A t:Nat)(a:List Int):AV:=if a=[] then .sl 1 [] (.chain t 0) else .ms A 0 a.length 1
structure FndR (F A t:Nat)(p:Problem)(l:List Ex)(a:List Int)(over:Bool)(n:Nat)(H:List Blk):Prop where
 f:H[F]?=some (.cells (KC p l (V3 A t a) over n))
 r:a≠[]->H[A]?=some (.cells (zI a))
theorem FndR.ne {F A t:Nat}{p:Problem}{l:List Ex}{a:List Int}{over:Bool}{n:Nat}{H:List Blk}(h:FndR F A t p l a over n H)(ha:a≠[]):A≠F:=by
 rintro rfl;have h1:=h.f;rw[h.r ha]at h1;simp only[zI,KC,Option.some.injEq,Blk.cells.injEq]at h1
 cases a with
 | nil=>exact ha rfl
 | cons x xs=>simp at h1
theorem yz {a:List Int}{i:Nat}{x:Int}:(zI a).set i (AV.int .i64 x)=zI (a.set i x):=by simp[zI,qs7]
theorem Vx {a:List Int}{i:Nat}:(zI a)[i]?=(a[i]?).map (AV.int .i64 ·):=by simp[zI]
theorem za {a:List Int}:(zI a).length=a.length:=by simp[zI]
theorem qn9 {vs:List Var}{a:List Int}(hl:a.length=vs.length){m:Nat}{v:Var}{x:Int}(hv:vs[m]?=some v)(hx:a[m]?=some x)(ho:(qT (vs.drop (m+1)) (a.drop (m+1))).2=true) :
 qT (vs.drop m) (a.drop m)=if v.mode=0 then (x::(qT (vs.drop (m+1)) (a.drop (m+1))).1,true) else if x+1<(jx v:Nat) then ((x+1)::(qT (vs.drop (m+1)) (a.drop (m+1))).1,false) else (0::(qT (vs.drop (m+1)) (a.drop (m+1))).1,true):=by
 obtain⟨h1,rfl⟩:=qqc.1 hv;obtain⟨h2,rfl⟩:=qqc.1 hx;rw[qqu h1,qqu h2]
 conv=>lhs;unfold qT
 rw[ho,if_neg (by simp)]
theorem qdG:∀ {vs:List Var} {a:List Int} (hl:a.length=vs.length) (m:Nat),(qT (vs.drop m) (a.drop m)).2=false->qT vs a=(a.take m++(qT (vs.drop m) (a.drop m)).1,false)
 | vs,a,_,0,h=>by
  simp only[qrx]at h ⊢;rw[qtS,qqw,<- h]
 | [],[],_,m+1,h=>by simp[qT]at h
 | v::vs,x::xs,hl,m+1,h=>by
  have ih:=qdG (vs:=vs) (a:=xs) (by simpa using hl) m (by simpa using h);simp only[List.drop_succ_cons]at h ⊢
  conv=>lhs;unfold qT
  rw[ih,if_pos rfl,qsp,qqz]
 | [],_::_,hl,_,_=>by simp at hl
 | _::_,[],hl,_,_=>by simp at hl
theorem qdH:∀ {vs:List Var} {a:List Int},a.length=vs.length->(qT vs a).1.length=a.length
 | [],[],_=>rfl
 | v::vs,x::xs,hl=>by
  have ih:=qdH (vs:=vs) (a:=xs) (by simpa using hl);unfold qT;split
  . simp[ih]
  . split
    . simp[ih]
    . split<;>simp[ih]
 | [],_::_,hl=>by simp at hl
 | _::_,[],hl=>by simp at hl
theorem FndR.look {F A t:Nat}{p:Problem}{l:List Ex}{a:List Int}{over:Bool}{n:Nat}{H:List Blk}(h:FndR F A t p l a over n H)(u:List Blk):FndR F A t p l a over n (H++u):=⟨qa h.f u,fun ha=>qa (h.r ha) u⟩
theorem qm2:∀ {vs:List Var} {a:List Int} {m:Nat} {v:Var} {x:Int},okA vs a->vs[m]?=some v->a[m]?=some x->if v.mode=0 then x=v.value else 0<=x/\x<(jx v:Nat)
 | v::vs,x::xs,0,w,y,h,hv,hx=>by
  simp at hv hx;subst hv hx;exact h.1
 | v::vs,x::xs,m+1,w,y,h,hv,hx=>qm2 h.2 (by simpa using hv) (by simpa using hx)
 | [],[],_,_,_,_,hv,_=>by simp at hv
 | [],_::_,_,_,_,h,_,_=>h.elim
 | _::_,[],_,_,_,h,_,_=>h.elim
def AdvQ (F A t:Nat)(p:Problem)(l:List Ex)(a:List Int)(n:Nat)(H:List Blk)(T:List (Option Nat))(r:AV)(U':St):Prop :=
 r=.tup []/\U'.T=T/\FndR F A t p l (qT p.vars a).1 (qT p.vars a).2 n U'.H/\KpL [F,A] H U'.H
def AdvI (F A t:Nat)(p:Problem)(l:List Ex)(a:List Int)(n:Nat)(H:List Blk)(T:List (Option Nat))(m:Nat)(ev:Env)(U:St):Prop :=
 ev 0=.ptr F 0/\ev 2=.int .i64 ((m:Int)-1)/\m<=a.length/\(qT (p.vars.drop m) (a.drop m)).2=true/\∃ H',U=⟨H',T⟩/\KpL [F,A] H H'/\FndR F A t p l (a.take m++(qT (p.vars.drop m) (a.drop m)).1) false n H'
theorem qgj {F A t:Nat}{p:Problem}{l:List Ex}{a:List Int}{n:Nat}{H:List Blk}(T:List (Option Nat))(h:FndR F A t p l a false n H)(hl:a.length=p.vars.length)(hl2:a.length<=1000)(hok:okA p.vars a)(hw:∀ v∈p.vars,0<=v.width/\v.width<=28) :
 qf Tryz.prog GG 292 [.ptr F 0] ⟨H,T⟩ (AdvQ F A t p l a n H T):=by
 refine qf.k qe Tryz.func292 rfl (by kernel_rfl) ?_;have hF:=h.f;have hFl:=(qqc.1 hF).1;by_cases ha:a=[]
 . subst ha;have hv:p.vars=[]:=qqv hl.symm;have hs:qT p.vars []=([],true):=(by rw[hv];rfl);simp[-getElem?_pos,hF,V3];refine qX.gen (fun m ev U=>ev 0=.ptr F 0/\ev 2=.int .i64 (-1)/\U=⟨H,T⟩) 0 ⟨by simp,by simp;decide,rfl⟩ ?_;rintro m ev U R hR ⟨e0,e2,rfl⟩;simp[-getElem?_pos,e0,e2,hF];refine⟨rfl,rfl,⟨?_,fun h=>?_⟩,?_⟩
   . rw[hs];simp[hFl,V3]
   . rw[hs]at h;exact absurd rfl h
   . exact KpL.set (by simp)
 have hA:=h.r ha;have hne:=h.ne ha;have hAl:=(qqc.1 hA).1;have hrow:∀ b:List Int,b.length=a.length->V3 A t b=.ms A 0 a.length 1:=fun b hb=>by
  unfold V3;rw[if_neg (by rintro rfl;exact ha (qqv hb.symm)),hb]
 rw[KC,hrow a rfl]at hF;simp[-getElem?_pos,hF];refine qX.gen (fun m ev U=>AdvI F A t p l a n H T m ev U) a.length ?_ ?_
 . refine⟨by simp,by simp;rw[wr (by omega) (by omega)],qqn _,?_,H,rfl,KpL.refl,?_⟩
   . rw[hl,qr1,<- hl,qr1];rfl
   . rw[qr1,hl,qr1,<- hl,qsf];show FndR F A t p l (a++[]) false n H;rw[qqV];exact h
 . rintro m ev U R hR ⟨e0,e2,hm,ho,H',rfl,hk,hfr⟩;have hF':=hfr.f;have hF'l:=(qqc.1 hF').1;have hdl:(a.drop m).length=(p.vars.drop m).length:=(by simp[hl]);have hcl:(a.take m++(qT (p.vars.drop m) (a.drop m)).1).length=a.length:=(by rw[qqg,qdH hdl];simp;omega);rw[KC,hrow _ hcl]at hF';have hcn:a.take m++(qT (p.vars.drop m) (a.drop m)).1≠[]:=fun e=>ha (qqv (by rw[<- hcl,e];rfl))
   have hA':=hfr.r hcn
   cases m with
   | zero=>
    have hneg:¬ (0:Int)<=((0:Nat):Int)-1:=(by omega);simp[-getElem?_pos,e0,e2,hF'];simp only[qrx,qtS,qqw]at ho hfr hcl hA';refine⟨rfl,rfl,⟨?_,fun _=>?_⟩,hk.trans (KpL.set (by simp))⟩
    . rw[qqh hF'l,KC,hrow _ hcl,ho]
    . rw[qqf (Ne.symm hne)];exact hA'
   | succ m=>
    have hma:m<a.length:=(by omega);obtain⟨x,hx⟩:∃ x,a[m]?=some x:=⟨_,qqe hma⟩;obtain⟨v,hv⟩:∃ v,p.vars[m]?=some v:=⟨_,qqe (by omega)⟩;have hst:=qn9 hl hv hx ho;have hpre:=qdG hl m;have hwv:=hw v (qqd hv);have hs1:=Qp hwv.1 hwv.2;have e2':ev 2=.int .i64 (m:Int):=(by rw[e2];congr 1;omega);have hw1:=wr (n:=(m:Int)-1) (by omega) (by omega);have hokx:v.mode≠0->0<=x/\x<(jx v:Nat):=fun hm0=>by
     have:=qm2 hok hv hx
     rwa[if_neg hm0]at this
    have hsz:jx v<=2 ^ 28:=qqJ (by omega) (by omega);have htk:a.take (m+1)=a.take m++[x]:=(by rw[qqH,hx];rfl);have hdm:(a.drop m).length=(p.vars.drop m).length:=(by simp[hl]);have hS:(a.take m).length+((qT (p.vars.drop (m+1)) (a.drop (m+1))).1.length+1)=a.length:=by
     rw[htk]at hcl;simpa using hcl
    rw[htk]at hfr hcl hA';generalize (qT (p.vars.drop (m+1)) (a.drop (m+1))).1=S at *;have hpl:(a.take m).length=m:=(by simp;omega);generalize hP:a.take m=P at *;simp only[qqI,qr3]at hfr hcl hA';have hen:∀ y,zI (P++y::S)=zI P++.int .i64 y::zI S:=fun y=>by simp[zI]
    have hepl:(zI P).length=m:=(by rw[za,hpl]);have hg:∀ y,(zI P++AV.int .i64 y::zI S)[m]?=some (.int .i64 y):=fun y=>by
     rw[qql (by omega),hepl,qro];rfl
    have hd:∀ y,(zI P++AV.int .i64 y::zI S).drop m=.int .i64 y::zI S:=fun y=>by
     rw[qsB (by omega),qqO (by omega)];rfl
    have hst2:∀ y z,(zI P++AV.int .i64 y::zI S).set m (.int .i64 z)=zI P++.int .i64 z::zI S:=fun y z=>by
     rw[qrh _ _ (by omega),hepl,qro];rfl
    have hlen2:∀ y,(zI P++AV.int .i64 y::zI S).length=a.length:=fun y=>by
     rw[qqg,qqs,za,za];exact hS
    rw[hen]at hA';have hAl':=(qqc.1 hA').1;have hFset:∀ y,(H'.set A y)[F]?=some (.cells (KC p l (.ms A 0 a.length 1) false n)):=fun y=>by rw[qqf hne];exact hF'
    have hAset:∀ y,(H'.set A y)[A]?=some y:=fun y=>qqh hAl'
    have hml:m<p.vars.length:=(by omega);have hma1:m+1<=a.length:=hma;simp only[KC]at hF' hFset;by_cases hm0:v.mode=0
    . rw[if_pos hm0]at hst;simp[-getElem?_pos,e0,e2',hF',hv,hm0,hw1];refine hR m _ _ (by omega) ⟨by simp[e0],by simp,by omega,by rw[hst],H',rfl,hk,?_⟩;rw[hst,hP];exact hfr
    . have hx0:=hokx hm0;have hwx:=wr (n:=x+1) (by omega) (by omega);rw[if_neg hm0]at hst;have hwn:¬ v.width<0:=(by omega);have hszv:jx v=2 ^ v.width.toNat:=rfl;rw[<- hszv]at hs1;by_cases hx1:x+1<(jx v:Nat)
      . rw[if_pos hx1]at hst;have hpr:=hpre (by rw[hst]);rw[hst]at hpr;simp only at hpr;simp[-getElem?_pos,e0,e2',hF',hv,hm0,hw1,hA',hd,hst2,hlen2,hwx,hFset,hAset,hs1,hma,hma1,hwn,IntKind.bits,hx1];have hL:(P++(x+1)::S).length=a.length:=(by rw[<- za,hen];exact hlen2 _);refine⟨rfl,rfl,⟨?_,fun _=>?_⟩,hk.trans (KpL.set (by simp))⟩
        . rw[hpr,KC,hrow _ hL];exact hFset _
        . rw[hpr,hen];exact hAset _
      . rw[if_neg hx1]at hst;simp[-getElem?_pos,e0,e2',hF',hv,hm0,hw1,hA',hd,hst2,hlen2,hwx,hFset,hAset,hs1,hma,hma1,hwn,IntKind.bits,hx1];have hL:(P++0::S).length=a.length:=(by rw[<- za,hen];exact hlen2 _);refine hR m _ _ (by omega) ⟨by simp[e0],by simp,by omega,by rw[hst],_,rfl,hk.trans (KpL.set (by simp)),?_⟩;rw[hst,hP];refine⟨?_,fun _=>?_⟩
        . rw[KC,hrow _ hL,qqf hne];exact hF'
        . rw[hen];exact qqh hAl'
def EnvQ (p:Problem)(a:List Int)(H:List Blk)(T:List (Option Nat))(r:AV)(U':St):Prop :=
 U'.T=T/\KpL [] H U'.H/\∃ b,js b 2 qY U'.H r (kQ p.vars a)/\H.length<=b
theorem qiz {vs:List Var}{a:List Int}{i:Nat}{v:Var}{x:Int}(h:vs[i]?=some v)(h':a[i]?=some x):(wV vs a).take (i+1)=(wV vs a).take i++[⟨v.name,x⟩]:=by
 rw[qqH,v7 h h'];rfl
def qd3:List (Nat×Sch×List Nat):=[(7,.step 0 [10,9] (.step 1 [10,9,8,7,2] (.step 2 [10,9,8,7] (.step 3 [10,9,8,7,6,5] (.step 4 [10,9,8,7,6,5] (.step 5 [10,9,8,7,6] (.step 6 [10,9,8,7] (.step 7 [10,9,8] (.step 8 [10,9] (.step 9 [10] (.step 10 [] (.done))))))))))),[])]
theorem qpu {A t:Nat}(p:Problem)(a:List Int)(hlen:a.length=p.vars.length)(hl:p.vars.length<=1000){H:List Blk}(T:List (Option Nat))(hr:a≠[]->H[A]?=some (.cells (zI a))) :
 qf Tryz.prog GG 41 [.agg (qE p),V3 A t a] ⟨H,T⟩ (EnvQ p a H T):=by
 refine qf.kO ⟨true,qd3,[],[]⟩ qe Tryz.func41 rfl (by kernel_rfl) ?_;by_cases ha:a=[]
 . subst ha;have hv:p.vars=[]:=qqv hlen.symm;have hen:kQ p.vars []=[]:=(by rw[hv];rfl);have hQ:∀ u,EnvQ p [] H T (.sl 0 [] .nil) ⟨H++u,T⟩:=fun u=>⟨rfl,KpL.app,H.length,.inl ⟨hen,rfl⟩,qqn _⟩
   simp[-getElem?_pos,V3,hv];refine qX.gen (fun n ev U=>ev 5=.sl 0 [] .nil/\ev 16=.int .i64 0/\ev 17=.int .i64 0/\∃ u,U=⟨H++u,T⟩) 0 ⟨by simp,by simp,by simp,_,rfl⟩ ?_;rintro n ev U R hR ⟨e5,e16,e17,u,rfl⟩;simp[-getElem?_pos,e5,e16,e17];exact hQ u
 . have hrow:V3 A t a=.ms A 0 a.length 1:=if_neg ha;have hA:=hr ha;have hE:=yy hlen;have hen:kQ p.vars a=wV p.vars a:=(by rw[ZG,if_pos hlen]);rw[hrow];have hlen':(a.length:Int)=p.vars.length:=(by omega);simp[-getElem?_pos,hlen',hlen];refine qX.listR p.vars (fun d ev U=>ev 1=.ms A 0 p.vars.length 1/\ev 15=.sl 4 (p.vars.map qA) .none/\ev 16=.int .i64 p.vars.length/\ev 17=.int .i64 d.length /\
    ∃ H' b,U=⟨H',T⟩/\KpL [] H H'/\H.length<=b/\js b 2 qY H' (ev 5) ((wV p.vars a).take d.length)) ?_ ?_ ?_
   . exact⟨by simp[hlen],by simp,by simp,by simp,_,H.length,rfl,KpL.app,qqn _,.inl ⟨by simp,by simp⟩⟩
   . rintro d v rest ev U R hR hd hx hlt ⟨e1,e15,e16,e17,H',b,rfl,hk,hb,ho⟩;have hw:=wr (n:=(d.length:Int)+1) (by omega) (by omega);have hda:d.length<a.length:=(by omega);obtain⟨x,hxa⟩:∃ x,a[d.length]?=some x:=⟨_,qqe hda⟩;have hA':H'[A]?=some (.cells (zI a)):=hk.2 _ _ hA (by simp);have hto:(zI a)[d.length]?=some (.int .i64 x):=(by rw[Vx,hxa];rfl);have hdr:(zI a).drop d.length=.int .i64 x::(zI a).drop (d.length+1):=by
      obtain⟨h1,h2⟩:=qqc.1 hto;rw[qqu h1,h2]
     have hl1:d.length+1<=(zI a).length:=(by rw[za];omega);have hl2':d.length+1<=p.vars.length:=(by omega);have ho':js b 2 qY (H'++[.cells (qA v)]) (ev 5) ((wV p.vars a).take d.length):=ho.keep fun y _ h=>qa h _
     obtain⟨v',b',H2,hY,ho2,hb2,hk2,hl2⟩:=ho'.appendK (P:=Tryz.prog) (G:=Jn GG) (o:=⟨true,qd3,[],[]⟩) (T:=T) (m:=[⟨v.name,x⟩]) (tok:=.tight) D88 rfl D133 rfl (by omega) rfl (by decide) (fun x=>rfl) (by simp;omega);have hkH2:KpL [] H H2:=⟨by have:=hk.1;simp at hl2;omega,fun k y hk1 _=>hk2 _ _ (qa (hk.2 k y hk1 (by simp)) _) (by
      have:=(qqc.1 hk1).1;right;omega)⟩
     simp only[qqp,qqU,qY,qA]at hY ho';generalize hv5:ev 5=v5 at *;simp[-getElem?_pos,e1,e15,e16,e17,hlt,hx,hlen];rw[qG rfl];simp[-getElem?_pos,qN,hv5,hY,e1,e15,e16,e17,hlt,hx,hda,qa hA',hto,hdr,hl1,hl2',zn,zS,qF,qk,qu,hw,hlen];refine hR _ _ ⟨by simp[e1],by simp[e15],by simp[e16],by simp,H2,b',rfl,hkH2,?_,?_⟩
     . rcases hb2 with rfl|rfl
       . exact hb
       . have:=hk.1;simp;omega
     . have:=qiz hx hxa;simp only[qqg,qqK];rw[this];simpa using ho2
   . rintro ev U ⟨e1,e15,e16,e17,H',b,rfl,hk,hb,ho⟩;simp[-getElem?_pos,e16,e17];rw[qqk (by rw[hE];exact qqn _)]at ho;exact⟨rfl,hk,b,by rw[hen];exact ho,hb⟩
def qgl (b:Nat)(H:List Blk)(v:AV)(a:List Int):Prop:=(a=[]/\∃ sz tok,v=.sl sz [] tok)\/(a≠[]/\v=.ms b 0 a.length 1/\H[b]?=some (.cells (zI a)))
def ClnQ (a:List Int)(H:List Blk)(T:List (Option Nat))(r:AV)(U':St):Prop:=U'.T=T/\KpL [] H U'.H/\∃ b,qgl b U'.H r a/\H.length<=b
theorem ql8 {A t:Nat}(a:List Int)(hl:a.length<=1000){H:List Blk}(T:List (Option Nat))(hr:a≠[]->H[A]?=some (.cells (zI a))) :
 qf Tryz.prog GG 58 [V3 A t a] ⟨H,T⟩ (ClnQ a H T):=by
 refine qf.kO ⟨true,[],[],[]⟩ qe Tryz.func58 rfl (by kernel_rfl) ?_;by_cases ha:a=[]
 . subst ha;simp[-getElem?_pos,V3,zx,jg,qO,qU,WV,zL];exact⟨⟨rfl,KpL.refl,H.length,.inl ⟨rfl,_,_,rfl⟩,qqn _⟩,⟨rfl,KpL.refl,H.length,.inl ⟨rfl,_,_,rfl⟩,qqn _⟩⟩
 . have hrow:V3 A t a=.ms A 0 a.length 1:=if_neg ha;have hA:=hr ha;have h1:(zI a).take a.length=zI a:=qqk (by rw[za];exact qqn _);have h2:a.length<=549755813888:=(by omega);rw[hrow];simp[-getElem?_pos,hA,zx,jg,qU,WV,za,h1,h2,ha];exact⟨rfl,KpL.app,H.length,.inr ⟨ha,rfl,by simp⟩,qqn _⟩
end Go.Proofs.YtkpkjbchlabaaaaGreatDoor
end
