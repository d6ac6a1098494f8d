/- A part of the proof. -/
import Derived.Test.YtkpkjbchlabaaaaGreatDoorEa20
import Derived.Test.YtkpkjbchlabaaaaGreatDoorEa08
set_option maxHeartbeats 16000000
set_option linter.unusedVariables false
set_option linter.unusedSimpArgs false
set_option maxRecDepth 100000
set_option linter.defProp false
section
namespace Go.Proofs.YtkpkjbchlabaaaaGreatDoor
open Go Go.Abs
def zQ (a:List Int):List AV:=a.map (AV.int .i64 ·)
@[simp]def KP (p:Problem)(l:List Ex)(va:AV)(over:Bool)(n:Nat):List AV:=[.sl 4 (p.vars.map qz) .none,.sl 4 (p.hard.map qr) .none,.sl 4 (p.soft.map qr) .none,.sl 2 (p.dists.map zj) .none,.sl 1 (p.groups.map zF) .none,.sl 4 (l.map qr) .none,va,.bool over,.int .i64 n]
def qab (A t:Nat)(a:List Int):AV:=if a=[] then .sl 1 [] (.chain t 0) else .ms A 0 a.length 1
structure FndR (F A t:Nat)(p:Problem)(l:List Ex)(a:List Int)(over:Bool)(n:Nat)(H:List Blk):Prop where
 f:H[F]?=some (.cells (KP p l (qab A t a) over n))
 r:a≠[]->H[A]?=some (.cells (zQ a))
theorem FndR.ne {F A t:Nat}{p:Problem}{l:List Ex}{a:List Int}{over:Bool}{n:Nat}{H:List Blk}(h:FndR F A t p l a over n H)(ha:a≠[]):A≠F:=by
 rintro rfl;have h1:=h.f;rw[h.r ha]at h1;simp only[zQ,KP,Option.some.injEq,Blk.cells.injEq]at h1
 cases a with
 | nil=>exact ha rfl
 | cons x xs=>simp at h1
theorem kR {a:List Int}{i:Nat}{x:Int}:(zQ a).set i (AV.int .i64 x)=zQ (a.set i x):=by simp[zQ,qtp]
theorem VI {a:List Int}{i:Nat}:(zQ a)[i]?=(a[i]?).map (AV.int .i64 ·):=by simp[zQ]
theorem zd {a:List Int}:(zQ a).length=a.length:=by simp[zQ]
theorem qoo {vs:List Var}{a:List Int}(hl:a.length=vs.length){m:Nat}{v:Var}{x:Int}(hv:vs[m]?=some v)(hx:a[m]?=some x)(ho:(qR (vs.drop (m+1)) (a.drop (m+1))).2=true) :
 qR (vs.drop m) (a.drop m)=if v.mode=0 then (x::(qR (vs.drop (m+1)) (a.drop (m+1))).1,true) else if x+1<(jr v:Nat) then ((x+1)::(qR (vs.drop (m+1)) (a.drop (m+1))).1,false) else (0::(qR (vs.drop (m+1)) (a.drop (m+1))).1,true):=by
 obtain⟨h1,rfl⟩:=qqp.1 hv;obtain⟨h2,rfl⟩:=qqp.1 hx;rw[qqF h1,qqF h2]
 conv=>lhs;unfold qR
 rw[ho,if_neg (by simp)]
theorem qdP:∀ {vs:List Var} {a:List Int} (hl:a.length=vs.length) (m:Nat),(qR (vs.drop m) (a.drop m)).2=false->qR vs a=(a.take m++(qR (vs.drop m) (a.drop m)).1,false)
 | vs,a,_,0,h=>by
  simp only[qrE]at h ⊢;rw[qud,qqL,<- h]
 | [],[],_,m+1,h=>by simp[qR]at h
 | v::vs,x::xs,hl,m+1,h=>by
  have ih:=qdP (vs:=vs) (a:=xs) (by simpa using hl) m (by simpa using h);simp only[List.drop_succ_cons]at h ⊢
  conv=>lhs;unfold qR
  rw[ih,if_pos rfl,qsH,qqK]
 | [],_::_,hl,_,_=>by simp at hl
 | _::_,[],hl,_,_=>by simp at hl
theorem qdQ:∀ {vs:List Var} {a:List Int},a.length=vs.length->(qR vs a).1.length=a.length
 | [],[],_=>rfl
 | v::vs,x::xs,hl=>by
  have ih:=qdQ (vs:=vs) (a:=xs) (by simpa using hl);unfold qR;split
  . simp[ih]
  . split
    . simp[ih]
    . split<;>simp[ih]
 | [],_::_,hl=>by simp at hl
 | _::_,[],hl=>by simp at hl
theorem FndR.look {F A t:Nat}{p:Problem}{l:List Ex}{a:List Int}{over:Bool}{n:Nat}{H:List Blk}(h:FndR F A t p l a over n H)(u:List Blk):FndR F A t p l a over n (H++u):=⟨qa h.f u,fun ha=>qa (h.r ha) u⟩
theorem qnb:∀ {vs:List Var} {a:List Int} {m:Nat} {v:Var} {x:Int},okA vs a->vs[m]?=some v->a[m]?=some x->if v.mode=0 then x=v.value else 0<=x/\x<(jr v:Nat)
 | v::vs,x::xs,0,w,y,h,hv,hx=>by
  simp at hv hx;subst hv hx;exact h.1
 | v::vs,x::xs,m+1,w,y,h,hv,hx=>qnb h.2 (by simpa using hv) (by simpa using hx)
 | [],[],_,_,_,_,hv,_=>by simp at hv
 | [],_::_,_,_,_,h,_,_=>h.elim
 | _::_,[],_,_,_,h,_,_=>h.elim
def AdvQ (F A t:Nat)(p:Problem)(l:List Ex)(a:List Int)(n:Nat)(H:List Blk)(T:List (Option Nat))(r:AV)(U':St):Prop :=
 r=.tup []/\U'.T=T/\FndR F A t p l (qR p.vars a).1 (qR p.vars a).2 n U'.H/\KpL [F,A] H U'.H
def AdvI (F A t:Nat)(p:Problem)(l:List Ex)(a:List Int)(n:Nat)(H:List Blk)(T:List (Option Nat))(m:Nat)(ev:Env)(U:St):Prop :=
 ev 0=.ptr F 0/\ev 2=.int .i64 ((m:Int)-1)/\m<=a.length/\(qR (p.vars.drop m) (a.drop m)).2=true/\∃ H',U=⟨H',T⟩/\KpL [F,A] H H'/\FndR F A t p l (a.take m++(qR (p.vars.drop m) (a.drop m)).1) false n H'
theorem qgu {F A t:Nat}{p:Problem}{l:List Ex}{a:List Int}{n:Nat}{H:List Blk}(T:List (Option Nat))(h:FndR F A t p l a false n H)(hl:a.length=p.vars.length)(hl2:a.length<=1000)(hok:okA p.vars a)(hw:∀ v∈p.vars,0<=v.width/\v.width<=28) :
 qf Tryz.prog GG 292 [.ptr F 0] ⟨H,T⟩ (AdvQ F A t p l a n H T):=by
 refine qf.k qe Tryz.func292 rfl (by kernel_rfl) ?_;have hF:=h.f;have hFl:=(qqp.1 hF).1;by_cases ha:a=[]
 . subst ha;have hv:p.vars=[]:=qqG hl.symm;have hs:qR p.vars []=([],true):=(by rw[hv];rfl);simp[-getElem?_pos,hF,qab];refine qV.gen (fun m ev U=>ev 0=.ptr F 0/\ev 2=.int .i64 (-1)/\U=⟨H,T⟩) 0 ⟨by simp,by simp;decide,rfl⟩ ?_;rintro m ev U R hR ⟨e0,e2,rfl⟩;simp[-getElem?_pos,e0,e2,hF];refine⟨rfl,rfl,⟨?_,fun h=>?_⟩,?_⟩
   . rw[hs];simp[hFl,qab]
   . rw[hs]at h;exact absurd rfl h
   . exact KpL.set (by simp)
 have hA:=h.r ha;have hne:=h.ne ha;have hAl:=(qqp.1 hA).1;have hrow:∀ b:List Int,b.length=a.length->qab A t b=.ms A 0 a.length 1:=fun b hb=>by
  unfold qab;rw[if_neg (by rintro rfl;exact ha (qqG hb.symm)),hb]
 rw[KP,hrow a rfl]at hF;simp[-getElem?_pos,hF];refine qV.gen (fun m ev U=>AdvI F A t p l a n H T m ev U) a.length ?_ ?_
 . refine⟨by simp,by simp;rw[wr (by omega) (by omega)],qqB _,?_,H,rfl,KpL.refl,?_⟩
   . rw[hl,qrZ,<- hl,qrZ];rfl
   . rw[qrZ,hl,qrZ,<- hl,qst];show FndR F A t p l (a++[]) false n H;rw[qq6];exact h
 . rintro m ev U R hR ⟨e0,e2,hm,ho,H',rfl,hk,hfr⟩;have hF':=hfr.f;have hF'l:=(qqp.1 hF').1;have hdl:(a.drop m).length=(p.vars.drop m).length:=(by simp[hl]);have hcl:(a.take m++(qR (p.vars.drop m) (a.drop m)).1).length=a.length:=(by rw[qqu,qdQ hdl];simp;omega);rw[KP,hrow _ hcl]at hF';have hcn:a.take m++(qR (p.vars.drop m) (a.drop m)).1≠[]:=fun e=>ha (qqG (by rw[<- hcl,e];rfl))
   have hA':=hfr.r hcn
   cases m with
   | zero=>
    have hneg:¬ (0:Int)<=((0:Nat):Int)-1:=(by omega);simp[-getElem?_pos,e0,e2,hF'];simp only[qrE,qud,qqL]at ho hfr hcl hA';refine⟨rfl,rfl,⟨?_,fun _=>?_⟩,hk.trans (KpL.set (by simp))⟩
    . rw[qqv hF'l,KP,hrow _ hcl,ho]
    . rw[qqs (Ne.symm hne)];exact hA'
   | succ m=>
    have hma:m<a.length:=(by omega);obtain⟨x,hx⟩:∃ x,a[m]?=some x:=⟨_,qqr hma⟩;obtain⟨v,hv⟩:∃ v,p.vars[m]?=some v:=⟨_,qqr (by omega)⟩;have hst:=qoo hl hv hx ho;have hpre:=qdP hl m;have hwv:=hw v (qqq hv);have hs1:=Qv hwv.1 hwv.2;have e2':ev 2=.int .i64 (m:Int):=(by rw[e2];congr 1;omega);have hw1:=wr (n:=(m:Int)-1) (by omega) (by omega);have hokx:v.mode≠0->0<=x/\x<(jr v:Nat):=fun hm0=>by
     have:=qnb hok hv hx
     rwa[if_neg hm0]at this
    have hsz:jr v<=2 ^ 28:=qqY (by omega) (by omega);have htk:a.take (m+1)=a.take m++[x]:=(by rw[qqU,hx];rfl);have hdm:(a.drop m).length=(p.vars.drop m).length:=(by simp[hl]);have hS:(a.take m).length+((qR (p.vars.drop (m+1)) (a.drop (m+1))).1.length+1)=a.length:=by
     rw[htk]at hcl;simpa using hcl
    rw[htk]at hfr hcl hA';generalize (qR (p.vars.drop (m+1)) (a.drop (m+1))).1=S at *;have hpl:(a.take m).length=m:=(by simp;omega);generalize hP:a.take m=P at *;simp only[qqW,qsg]at hfr hcl hA';have hen:∀ y,zQ (P++y::S)=zQ P++.int .i64 y::zQ S:=fun y=>by simp[zQ]
    have hepl:(zQ P).length=m:=(by rw[zd,hpl]);have hg:∀ y,(zQ P++AV.int .i64 y::zQ S)[m]?=some (.int .i64 y):=fun y=>by
     rw[qqy (by omega),hepl,qrH];rfl
    have hd:∀ y,(zQ P++AV.int .i64 y::zQ S).drop m=.int .i64 y::zQ S:=fun y=>by
     rw[qsO (by omega),qq2 (by omega)];rfl
    have hst2:∀ y z,(zQ P++AV.int .i64 y::zQ S).set m (.int .i64 z)=zQ P++.int .i64 z::zQ S:=fun y z=>by
     rw[qrw _ _ (by omega),hepl,qrH];rfl
    have hlen2:∀ y,(zQ P++AV.int .i64 y::zQ S).length=a.length:=fun y=>by
     rw[qqu,qqH,zd,zd];exact hS
    rw[hen]at hA';have hAl':=(qqp.1 hA').1;have hFset:∀ y,(H'.set A y)[F]?=some (.cells (KP p l (.ms A 0 a.length 1) false n)):=fun y=>by rw[qqs hne];exact hF'
    have hAset:∀ y,(H'.set A y)[A]?=some y:=fun y=>qqv hAl'
    have hml:m<p.vars.length:=(by omega);have hma1:m+1<=a.length:=hma;simp only[KP]at hF' hFset;by_cases hm0:v.mode=0
    . rw[if_pos hm0]at hst;simp[-getElem?_pos,e0,e2',hF',hv,hm0,hw1];refine hR m _ _ (by omega) ⟨by simp[e0],by simp,by omega,by rw[hst],H',rfl,hk,?_⟩;rw[hst,hP];exact hfr
    . have hx0:=hokx hm0;have hwx:=wr (n:=x+1) (by omega) (by omega);rw[if_neg hm0]at hst;have hwn:¬ v.width<0:=(by omega);have hszv:jr v=2 ^ v.width.toNat:=rfl;rw[<- hszv]at hs1;by_cases hx1:x+1<(jr v:Nat)
      . rw[if_pos hx1]at hst;have hpr:=hpre (by rw[hst]);rw[hst]at hpr;simp only at hpr;simp[-getElem?_pos,e0,e2',hF',hv,hm0,hw1,hA',hd,hst2,hlen2,hwx,hFset,hAset,hs1,hma,hma1,hwn,IntKind.bits,hx1];have hL:(P++(x+1)::S).length=a.length:=(by rw[<- zd,hen];exact hlen2 _);refine⟨rfl,rfl,⟨?_,fun _=>?_⟩,hk.trans (KpL.set (by simp))⟩
        . rw[hpr,KP,hrow _ hL];exact hFset _
        . rw[hpr,hen];exact hAset _
      . rw[if_neg hx1]at hst;simp[-getElem?_pos,e0,e2',hF',hv,hm0,hw1,hA',hd,hst2,hlen2,hwx,hFset,hAset,hs1,hma,hma1,hwn,IntKind.bits,hx1];have hL:(P++0::S).length=a.length:=(by rw[<- zd,hen];exact hlen2 _);refine hR m _ _ (by omega) ⟨by simp[e0],by simp,by omega,by rw[hst],_,rfl,hk.trans (KpL.set (by simp)),?_⟩;rw[hst,hP];refine⟨?_,fun _=>?_⟩
        . rw[KP,hrow _ hL,qqs hne];exact hF'
        . rw[hen];exact qqv hAl'
def EnvQ (p:Problem)(a:List Int)(H:List Blk)(T:List (Option Nat))(r:AV)(U':St):Prop :=
 U'.T=T/\KpL [] H U'.H/\∃ b,jx b 2 qW U'.H r (yY p.vars a)/\H.length<=b
theorem qiI {vs:List Var}{a:List Int}{i:Nat}{v:Var}{x:Int}(h:vs[i]?=some v)(h':a[i]?=some x):(wV vs a).take (i+1)=(wV vs a).take i++[⟨v.name,x⟩]:=by
 rw[qqU,vY h h'];rfl
def qd9:List (Nat×Sch×List Nat):=[(7,.step 0 [10,9] (.step 1 [10,9,8,7,2] (.step 2 [10,9,8,7] (.step 3 [10,9,8,7,6,5] (.step 4 [10,9,8,7,6,5] (.step 5 [10,9,8,7,6] (.step 6 [10,9,8,7] (.step 7 [10,9,8] (.step 8 [10,9] (.step 9 [10] (.step 10 [] (.done))))))))))),[])]
theorem qpJ {A t:Nat}(p:Problem)(a:List Int)(hlen:a.length=p.vars.length)(hl:p.vars.length<=1000){H:List Blk}(T:List (Option Nat))(hr:a≠[]->H[A]?=some (.cells (zQ a))) :
 qf Tryz.prog GG 41 [.agg (qD p),qab A t a] ⟨H,T⟩ (EnvQ p a H T):=by
 refine qf.kO ⟨true,qd9,[],[]⟩ qe Tryz.func41 rfl (by kernel_rfl) ?_;by_cases ha:a=[]
 . subst ha;have hv:p.vars=[]:=qqG hlen.symm;have hen:yY p.vars []=[]:=(by rw[hv];rfl);have hQ:∀ u,EnvQ p [] H T (.sl 0 [] .nil) ⟨H++u,T⟩:=fun u=>⟨rfl,KpL.app,H.length,.inl ⟨hen,rfl⟩,qqB _⟩
   simp[-getElem?_pos,qab,hv];refine qV.gen (fun n ev U=>ev 5=.sl 0 [] .nil/\ev 16=.int .i64 0/\ev 17=.int .i64 0/\∃ u,U=⟨H++u,T⟩) 0 ⟨by simp,by simp,by simp,_,rfl⟩ ?_;rintro n ev U R hR ⟨e5,e16,e17,u,rfl⟩;simp[-getElem?_pos,e5,e16,e17];exact hQ u
 . have hrow:qab A t a=.ms A 0 a.length 1:=if_neg ha;have hA:=hr ha;have hE:=yy hlen;have hen:yY p.vars a=wV p.vars a:=(by rw[ZV,if_pos hlen]);rw[hrow];have hlen':(a.length:Int)=p.vars.length:=(by omega);simp[-getElem?_pos,hlen',hlen];refine qV.listR p.vars (fun d ev U=>ev 1=.ms A 0 p.vars.length 1/\ev 15=.sl 4 (p.vars.map qz) .none/\ev 16=.int .i64 p.vars.length/\ev 17=.int .i64 d.length /\
    ∃ H' b,U=⟨H',T⟩/\KpL [] H H'/\H.length<=b/\jx b 2 qW H' (ev 5) ((wV p.vars a).take d.length)) ?_ ?_ ?_
   . exact⟨by simp[hlen],by simp,by simp,by simp,_,H.length,rfl,KpL.app,qqB _,.inl ⟨by simp,by simp⟩⟩
   . rintro d v rest ev U R hR hd hx hlt ⟨e1,e15,e16,e17,H',b,rfl,hk,hb,ho⟩;have hw:=wr (n:=(d.length:Int)+1) (by omega) (by omega);have hda:d.length<a.length:=(by omega);obtain⟨x,hxa⟩:∃ x,a[d.length]?=some x:=⟨_,qqr hda⟩;have hA':H'[A]?=some (.cells (zQ a)):=hk.2 _ _ hA (by simp);have hto:(zQ a)[d.length]?=some (.int .i64 x):=(by rw[VI,hxa];rfl);have hdr:(zQ a).drop d.length=.int .i64 x::(zQ a).drop (d.length+1):=by
      obtain⟨h1,h2⟩:=qqp.1 hto;rw[qqF h1,h2]
     have hl1:d.length+1<=(zQ a).length:=(by rw[zd];omega);have hl2':d.length+1<=p.vars.length:=(by omega);have ho':jx b 2 qW (H'++[.cells (qz v)]) (ev 5) ((wV p.vars a).take d.length):=ho.keep fun y _ h=>qa h _
     obtain⟨v',b',H2,hY,ho2,hb2,hk2,hl2⟩:=ho'.appendK (P:=Tryz.prog) (G:=Jz GG) (o:=⟨true,qd9,[],[]⟩) (T:=T) (m:=[⟨v.name,x⟩]) (tok:=.tight) D88 rfl D133 rfl (by omega) rfl (by decide) (fun x=>rfl) (by simp;omega);have hkH2:KpL [] H H2:=⟨by have:=hk.1;simp at hl2;omega,fun k y hk1 _=>hk2 _ _ (qa (hk.2 k y hk1 (by simp)) _) (by
      have:=(qqp.1 hk1).1;right;omega)⟩
     simp only[qqC,qq8,qW,qz]at hY ho';generalize hv5:ev 5=v5 at *;simp[-getElem?_pos,e1,e15,e16,e17,hlt,hx,hlen];rw[qJ rfl];simp[-getElem?_pos,qP,hv5,hY,e1,e15,e16,e17,hlt,hx,hda,qa hA',hto,hdr,hl1,hl2',zt,zX,qG,qj,qt,hw,hlen];refine hR _ _ ⟨by simp[e1],by simp[e15],by simp[e16],by simp,H2,b',rfl,hkH2,?_,?_⟩
     . rcases hb2 with rfl|rfl
       . exact hb
       . have:=hk.1;simp;omega
     . have:=qiI hx hxa;simp only[qqu,qqV];rw[this];simpa using ho2
   . rintro ev U ⟨e1,e15,e16,e17,H',b,rfl,hk,hb,ho⟩;simp[-getElem?_pos,e16,e17];rw[qqx (by rw[hE];exact qqB _)]at ho;exact⟨rfl,hk,b,by rw[hen];exact ho,hb⟩
def qgy (b:Nat)(H:List Blk)(v:AV)(a:List Int):Prop:=(a=[]/\∃ sz tok,v=.sl sz [] tok)\/(a≠[]/\v=.ms b 0 a.length 1/\H[b]?=some (.cells (zQ a)))
def ClnQ (a:List Int)(H:List Blk)(T:List (Option Nat))(r:AV)(U':St):Prop:=U'.T=T/\KpL [] H U'.H/\∃ b,qgy b U'.H r a/\H.length<=b
theorem qmh {A t:Nat}(a:List Int)(hl:a.length<=1000){H:List Blk}(T:List (Option Nat))(hr:a≠[]->H[A]?=some (.cells (zQ a))) :
 qf Tryz.prog GG 58 [qab A t a] ⟨H,T⟩ (ClnQ a H T):=by
 refine qf.kO ⟨true,[],[],[]⟩ qe Tryz.func58 rfl (by kernel_rfl) ?_;by_cases ha:a=[]
 . subst ha;simp[-getElem?_pos,qab,zC,jn,qL,qS,W7,zP];exact⟨⟨rfl,KpL.refl,H.length,.inl ⟨rfl,_,_,rfl⟩,qqB _⟩,⟨rfl,KpL.refl,H.length,.inl ⟨rfl,_,_,rfl⟩,qqB _⟩⟩
 . have hrow:qab A t a=.ms A 0 a.length 1:=if_neg ha;have hA:=hr ha;have h1:(zQ a).take a.length=zQ a:=qqx (by rw[zd];exact qqB _);have h2:a.length<=549755813888:=(by omega);rw[hrow];simp[-getElem?_pos,hA,zC,jn,qS,W7,zd,h1,h2,ha];exact⟨rfl,KpL.app,H.length,.inr ⟨ha,rfl,by simp⟩,qqB _⟩
end Go.Proofs.YtkpkjbchlabaaaaGreatDoor
end
