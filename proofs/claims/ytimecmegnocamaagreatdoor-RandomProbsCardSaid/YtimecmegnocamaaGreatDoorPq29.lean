import Derived.Test.YtimecmegnocamaaGreatDoorPq13
set_option maxHeartbeats 16000000
set_option maxRecDepth 100000
set_option linter.all false
set_option linter.defProp false
namespace Go.Proofs.YtimecmegnocamaaGreatDoor
open Go Go.Abs Tryz
def zb(a:List Int):List AV:=a.map (AV.int .i64 ·)
@[simp]def qbv(p:Problem)(l:List Ex)(va:AV)(over:Bool)(n:Nat):List AV:=[.sl 4 (p.vars.map qM) .none,.sl 4 (p.hard.map qt) .none,.sl 4 (p.soft.map qt) .none,.sl 2 (p.dists.map zs) .none,.sl 1 (p.groups.map qD) .none,.sl 4 (l.map qt) .none,va,.bool over,.int .i64 n]
def Jg(A t:Nat)(a:List Int):AV:=if a=[] then .sl 1 [] (.chain t 0) else .ms A 0 a.length 1
structure FndR(F A t:Nat)(p:Problem)(l:List Ex)(a:List Int)(over:Bool)(n:Nat)(H:List Blk):Prop where
 f:H[F]?=some (.cells (qbv p l (Jg A t a) over n))
 r:a≠[]->H[A]?=some (.cells (zb a))
def FndR.ne{F A t p l a over n H}(h:FndR F A t p l a over n H)(ha:a≠[]):A≠F:=by
 rintro rfl;have h1:=h.f;rw[h.r ha]at h1;simp only[zb,qbv,qBg,Blk.cells.injEq]at h1
 cases a with
 |nil=>exact ha rfl
 |cons x xs=>simp at h1
def yL{a i x}:(zb a).set i (AV.int .i64 x)=zb (a.set i x):=by simp[zb,qEf]
def qa4{a:List Int}{i:Nat}:(zb a)[i]?=(a[i]?).map (AV.int .i64 ·):=by simp[zb]
def qR{a}:(zb a).length=a.length:=by simp[zb]
def qd7{vs:List Var}{a:List Int}(hl:a.length=vs.length){m v x}(hv:vs[m]?=some v)(hx:a[m]?=some x)(ho:(qI (vs.drop (m+1)) (a.drop (m+1))).2=true):
 qI (vs.drop m) (a.drop m)=if v.mode=0 then(x::(qI (vs.drop (m+1)) (a.drop (m+1))).1,true) else if x+1<(zU v:Nat) then((x+1)::(qI (vs.drop (m+1)) (a.drop (m+1))).1,false) else(0::(qI (vs.drop (m+1)) (a.drop (m+1))).1,true):=by
 obtain⟨h1,rfl⟩:=qAU.1 hv;obtain⟨h2,rfl⟩:=qAU.1 hx;rw[qA9 h1,qA9 h2]
 conv=>lhs;unfold qI
 rw[ho,if_neg (by simp)]
def Yx:∀{vs:List Var}{a:List Int} (hl:a.length=vs.length) (m:Nat),(qI (vs.drop m) (a.drop m)).2=false->qI vs a=(a.take m++(qI (vs.drop m) (a.drop m)).1,false)
 | vs,a,_,0,h=>by
  simp only[qBZ]at h⊢;rw[qD0,qBk,<- h]
 |[],[],_,m+1,h=>by simp[qI]at h
 | v::vs,x::xs,hl,m+1,h=>by
  have ih:=Yx (vs:=vs) (a:=xs) (by simpa using hl) m (by simpa using h);simp only[qDv]at h⊢
  conv=>lhs;unfold qI
  rw[ih,if_pos rfl,qCt,qBl]
 |[],_::_,hl,_,_=>by simp at hl
 |_::_,[],hl,_,_=>by simp at hl
def ZD:∀{vs:List Var}{a:List Int},a.length=vs.length->(qI vs a).1.length=a.length
 |[],[],_=>rfl
 | v::vs,x::xs,hl=>by
  have ih:=ZD (vs:=vs) (a:=xs) (by simpa using hl);unfold qI;split
  . simp[ih]
  split
  . simp[ih]
  split<;>simp[ih]
 |[],_::_,hl=>by simp at hl
 |_::_,[],hl=>by simp at hl
def FndR.look{F A t p l a over n H}(h:FndR F A t p l a over n H)(u):FndR F A t p l a over n (H++u):=⟨qf h.f u,fun ha=>qf (h.r ha) u⟩
def qf3:∀{vs:List Var}{a:List Int}{m:Nat}{v:Var}{x:Int},okA vs a->vs[m]?=some v->a[m]?=some x->if v.mode=0 then x=v.value else 0<=x/\x<(zU v:Nat)
 | v::vs,x::xs,0,w,y,h,hv,hx=>by
  simp at hv hx;subst hv hx;exact h.1
 |v::vs,x::xs,m+1,w,y,h,hv,hx=>qf3 h.2 (by simpa using hv) (by simpa using hx)
 |[],[],_,_,_,_,hv,_=>by simp at hv
 |[],_::_,_,_,_,h,_,_=>h.elim
 |_::_,[],_,_,_,h,_,_=>h.elim
def qAi(F A t:Nat)(p:Problem)(l:List Ex)(a:List Int)(n:Nat)(H:List Blk)(T:List (Option Nat))(r:AV)(U':St):Prop :=
 r=.tup []/\U'.T=T/\FndR F A t p l (qI p.vars a).1 (qI p.vars a).2 n U'.H/\KpL [F,A] H U'.H
def qAj(F A t:Nat)(p:Problem)(l:List Ex)(a:List Int)(n:Nat)(H:List Blk)(T:List (Option Nat))(m:Nat)(ev:Env)(U:St):Prop :=
 ev 0=.ptr F 0/\ev 2=.int .i64 ((m:Int)-1)/\m<=a.length/\(qI (p.vars.drop m) (a.drop m)).2=true/\∃H',U=⟨H',T⟩/\KpL [F,A] H H'/\FndR F A t p l (a.take m++(qI (p.vars.drop m) (a.drop m)).1) false n H'
def qiA{F A t p l a n H}(T)(h:FndR F A t p l a false n H)(hl:a.length=p.vars.length)(hl2:a.length<=1000)(hok:okA p.vars a)(hw:∀v∈p.vars,0<=v.width/\v.width<=28):
 qj prog GG 304 [.ptr F 0] ⟨H,T⟩ (qAi F A t p l a n H T):=by
 refine qFo qg func304 rfl (by kernel_rfl) ?_;have hF:=h.f;have hFl:=(qAU.1 hF).1;by_cases ha:a=[]
 . subst ha;have hv:=qA6 hl.symm;have hs:qI p.vars []=([],true):=(by rw[hv];rfl);simp[hF,Jg];refine qFu (fun m ev U=>ev 0=.ptr F 0/\ev 2=.int .i64 (-1)/\U=⟨H,T⟩) 0 ⟨by simp,by simp;decide,rfl⟩ ?_;rintro m ev U R hR ⟨e0,e2,rfl⟩;simp[e0,e2,hF];refine⟨rfl,rfl,⟨?_,fun h=>?_⟩,?_⟩
   . rw[hs];simp[hFl,Jg]
   . rw[hs]at h;exact absurd rfl h
   exact qFY (by simp)
 have hA:=h.r ha;have hne:=h.ne ha;have hrow:∀b:List Int,b.length=a.length->Jg A t b=.ms A 0 a.length 1:=fun b hb=>by
  unfold Jg;rw[if_neg (by rintro rfl;exact ha (qA6 hb.symm)),hb]
 rw[qbv,hrow a rfl]at hF;simp[hF];refine qFu (fun m ev U=>qAj F A t p l a n H T m ev U) a.length ?_ ?_
 . refine⟨by simp,by simp;rw[wr (by omega) (by omega)],qA5 _,?_,H,rfl,qFV,?_⟩
   . rw[hl,qBL,<- hl,qBL];rfl
   . rw[qBL,hl,qBL,<- hl,qCr];show FndR F A t p l (a++[]) false n H
     rwa[qBC]
 rintro m ev U R hR ⟨e0,e2,hm,ho,H',rfl,hk,hfr⟩;have hF':=hfr.f;have hF'l:=(qAU.1 hF').1;have hdl:(a.drop m).length=(p.vars.drop m).length:=by simp[hl]
 have hcl:(a.take m++(qI (p.vars.drop m) (a.drop m)).1).length=a.length:=by rw[qAY,ZD hdl];simp;omega
 rw[qbv,hrow _ hcl]at hF';have hcn:a.take m++(qI (p.vars.drop m) (a.drop m)).1≠[]:=fun e=>ha (qA6 (by rw[<- hcl,e];rfl))
 have hA':=hfr.r hcn
 cases m with
 | zero=>
  simp[e0,e2,hF'];simp at ho hfr hcl hA';refine⟨rfl,rfl,⟨?_,fun _=>?_⟩,hk.trans (qFY (by simp))⟩
  . rw[qA0 hF'l,qbv,hrow _ hcl,ho]
  rw[qAX (Ne.symm hne)];exact hA'
 | succ m=>
  have hma:m<a.length:=by omega
  obtain⟨x,hx⟩:∃x,a[m]?=some x:=⟨_,qAW hma⟩;obtain⟨v,hv⟩:∃v,p.vars[m]?=some v:=⟨_,qAW (by omega)⟩;have hst:=qd7 hl hv hx ho;have hpre:=Yx hl m;have hwv:=hw v (qAV hv);have hs1:=wG hwv.1 hwv.2;have e2':ev 2=.int .i64 (m:Int):=by rw[e2];congr 1;omega
  have hw1:=wr (n:=(m:Int)-1) (by omega) (by omega);have hokx:v.mode≠0->0<=x/\x<(zU v:Nat):=fun hm0=>by
   have:=qf3 hok hv hx
   rwa[if_neg hm0]at this
  have hsz:zU v<=2^28:=qBn (by omega) (by omega);have htk:a.take (m+1)=a.take m++[x]:=by rw[qBi,hx];rfl
  have hdm:(a.drop m).length=(p.vars.drop m).length:=by simp[hl]
  have hS:(a.take m).length+((qI (p.vars.drop (m+1)) (a.drop (m+1))).1.length+1)=a.length:=by
   rw[htk]at hcl;simpa using hcl
  rw[htk]at hfr hcl hA';generalize (qI (p.vars.drop (m+1)) (a.drop (m+1))).1=S at *;have hpl:(a.take m).length=m:=by simp;omega
  generalize hP:a.take m=P at *;simp at hfr hcl hA';have hen:∀y,zb (P++y::S)=zb P++.int .i64 y::zb S:=fun y=>by simp[zb]
  have hepl:(zb P).length=m:=by rw[qR,hpl]
  have hg:∀y,(zb P++AV.int .i64 y::zb S)[m]?=some (.int .i64 y):=fun y=>by
   rw[qA4 (by omega),hepl,qBS];rfl
  have hd:∀y,(zb P++AV.int .i64 y::zb S).drop m=.int .i64 y::zb S:=fun y=>by
   rw[qCB (by omega),qBq (by omega)];rfl
  have hst2:∀y z,(zb P++AV.int .i64 y::zb S).set m (.int .i64 z)=zb P++.int .i64 z::zb S:=fun y z=>by
   rw[qBK _ _ (by omega),hepl,qBS];rfl
  have hlen2:∀y,(zb P++AV.int .i64 y::zb S).length=a.length:=fun y=>by
   rwa[qAY,qBc,qR,qR]
  rw[hen]at hA';have hAl':=(qAU.1 hA').1;have hFset:∀y,(H'.set A y)[F]?=some (.cells (qbv p l (.ms A 0 a.length 1) false n)):=fun y=>by rwa[qAX hne]
  have hAset:∀y,(H'.set A y)[A]?=some y:=fun y=>qA0 hAl'
  have hml:m<p.vars.length:=by omega
  have hma1:m+1<=a.length:=hma;simp at hF' hFset;by_cases hm0:v.mode=0
  . rw[if_pos hm0]at hst;simp[e0,e2',hF',hv,hm0,hw1];refine hR m _ _ (by omega) ⟨by simp[e0],by simp,by omega,by rw[hst],H',rfl,hk,?_⟩
    rwa[hst,hP]
  have hx0:=hokx hm0;have hwx:=wr (n:=x+1) (by omega) (by omega);rw[if_neg hm0]at hst;have hwn:¬v.width<0:=by omega
  have hszv:zU v=2^v.width.toNat:=rfl;rw[<- hszv]at hs1;by_cases hx1:x+1<(zU v:Nat)
  . rw[if_pos hx1]at hst;have hpr:=hpre (by rw[hst]);rw[hst]at hpr;simp only at hpr;simp[e0,e2',hF',hv,hm0,hw1,hA',hd,hst2,hlen2,hwx,hFset,hAset,hs1,hma,hma1,hwn,IntKind.bits,hx1];have hL:(P++(x+1)::S).length=a.length:=(by rw[<- qR,hen];exact hlen2 _);refine⟨rfl,rfl,⟨?_,fun _=>?_⟩,hk.trans (qFY (by simp))⟩
    . rw[hpr,qbv,hrow _ hL];exact hFset _
    rw[hpr,hen];exact hAset _
  rw[if_neg hx1]at hst;simp[e0,e2',hF',hv,hm0,hw1,hA',hd,hst2,hlen2,hwx,hFset,hAset,hs1,hma,hma1,hwn,IntKind.bits,hx1];have hL:(P++0::S).length=a.length:=by rw[<- qR,hen];exact hlen2 _
  refine hR m _ _ (by omega) ⟨by simp[e0],by simp,by omega,by rw[hst],_,rfl,hk.trans (qFY (by simp)),?_⟩;rw[hst,hP];refine⟨?_,fun _=>?_⟩
  . rwa[qbv,hrow _ hL,qAX hne]
  rw[hen];exact qA0 hAl'
def qzN(p:Problem)(a:List Int)(H:List Blk)(T:List (Option Nat))(r:AV)(U':St):Prop :=
 U'.T=T/\KpL [] H U'.H/\∃b,jr b 2 qK U'.H r (yo p.vars a)/\H.length<=b
def qk9{vs a i v x}(h:vs[i]?=some v)(h':a[i]?=some x):(wF vs a).take (i+1)=(wF vs a).take i++[⟨v.name,x⟩]:=by
 rw[qBi,vD h h'];rfl
def qfQ:List (Nat×Sch×List Nat):=[(7,.step 0 [10,9] (.step 1 [10,9,8,7,2] (.step 2 [10,9,8,7] (.step 3 [10,9,8,7,6,5] (.step 4 [10,9,8,7,6,5] (.step 5 [10,9,8,7,6] (.step 6 [10,9,8,7] (.step 7 [10,9,8] (.step 8 [10,9] (.step 9 [10] (.step 10 [] (.done))))))))))),[])]
def qsL{A t}(p a)(hlen:a.length=p.vars.length)(hl:p.vars.length<=1000){H}(T)(hr:a≠[]->H[A]?=some (.cells (zb a))):
 qj prog GG 78 [.agg (qA p),Jg A t a] ⟨H,T⟩ (qzN p a H T):=by
 refine qFn ⟨true,qfQ,[],[]⟩ qg func78 rfl (by kernel_rfl) ?_;by_cases ha:a=[]
 . subst ha;have hv:=qA6 hlen.symm;have hen:yo p.vars []=[]:=(by rw[hv];rfl);have hQ:∀u,qzN p [] H T (.sl 0 [] .nil) ⟨H++u,T⟩:=fun u=>⟨rfl,qFX,H.length,.inl ⟨hen,rfl⟩,qA5 _⟩
   simp[Jg,hv];refine qFu (fun n ev U=>ev 5=.sl 0 [] .nil/\ev 16=.int .i64 0/\ev 17=.int .i64 0/\∃u,U=⟨H++u,T⟩) 0 ⟨by simp,by simp,by simp,_,rfl⟩ ?_;rintro n ev U R hR ⟨e5,e16,e17,u,rfl⟩;simp[e5,e16,e17];exact hQ u
 have hrow:Jg A t a=.ms A 0 a.length 1:=if_neg ha;have hA:=hr ha;have hE:=yK hlen;have hen:yo p.vars a=wF p.vars a:=by rw[Qt,if_pos hlen]
 rw[hrow];simp[hlen];refine qFF p.vars (fun d ev U=>ev 1=.ms A 0 p.vars.length 1/\ev 15=.sl 4 (p.vars.map qM) .none/\ev 16=.int .i64 p.vars.length/\ev 17=.int .i64 d.length /\
  ∃H' b,U=⟨H',T⟩/\KpL [] H H'/\H.length<=b/\jr b 2 qK H' (ev 5) ((wF p.vars a).take d.length)) ?_ ?_ ?_
 . exact⟨by simp[],by simp,by simp,by simp,_,H.length,rfl,qFX,qA5 _,.inl ⟨by simp,by simp⟩⟩
 . rintro d v rest ev U R hR hd hx hlt ⟨e1,e15,e16,e17,H',b,rfl,hk,hb,ho⟩;have hw:=wr (n:=(d.length:Int)+1) (by omega) (by omega);obtain⟨x,hxa⟩:∃x,a[d.length]?=some x:=⟨_,qAW (by omega)⟩;have hA':H'[A]?=some (.cells (zb a)):=hk.2 _ _ hA (by simp);have hdr:(zb a).drop d.length=.int .i64 x::(zb a).drop (d.length+1):=by
    obtain⟨h1,h2⟩:=qAU.1 (by rw[qa4,hxa];rfl);rw[qA9 h1,h2]
   have hl1:d.length+1<=(zb a).length:=(by rw[qR];omega);have hl2':d.length+1<=p.vars.length:=(by omega);have ho':jr b 2 qK (H'++[.cells (qM v)]) (ev 5) ((wF p.vars a).take d.length):=ho.keep fun y _ h=>qf h _
   obtain⟨v',b',H2,hY,ho2,hb2,hk2,hl2⟩:=ho'.appendK (P:=prog) (G:=zl GG) (o:=⟨true,qfQ,[],[]⟩) (T:=T) (m:=[⟨v.name,x⟩]) (tok:=.tight) qAd rfl qAc rfl (by omega) rfl (by decide) (fun x=>rfl) (by simp;omega);have hkH2:KpL [] H H2:=⟨by have:=hk.1;simp at hl2;omega,fun k y hk1 _=>hk2 _ _ (qf (hk.2 k y hk1 (by simp)) _) (by
    have:=(qAU.1 hk1).1;right;omega)⟩
   simp only[qA7,qBy,qK,qM]at hY ho';generalize hv5:ev 5=v5 at *;simp[-getElem?_pos,e15,e16,e17,hlt,hx];rw[qU rfl];simp[-getElem?_pos,zg,hv5,hY,e1,e17,hlt,qf hA',hdr,hl1,zu,zZ,qP,qi,qp,hw];refine hR _ _ ⟨by simp[e1],by simp[e15],by simp[e16],by simp,H2,b',rfl,hkH2,?_,?_⟩
   . rcases hb2 with rfl|rfl
     . exact hb
     . have:=hk.1;simp;omega
   have:=qk9 hx hxa;simp only[qAY,qBo];rw[this];simpa using ho2
 rintro ev U ⟨e1,e15,e16,e17,H',b,rfl,hk,hb,ho⟩;simp[e16,e17];rw[qAZ (by rw[hE];exact qA5 _)]at ho;exact⟨rfl,hk,b,by rw[hen];exact ho,hb⟩
def qiK(b:Nat)(H:List Blk)(v:AV)(a:List Int):Prop:=(a=[]/\∃sz tok,v=.sl sz [] tok)\/(a≠[]/\v=.ms b 0 a.length 1/\H[b]?=some (.cells (zb a)))
def qAe(a:List Int)(H:List Blk)(T:List (Option Nat))(r:AV)(U':St):Prop:=U'.T=T/\KpL [] H U'.H/\∃b,qiK b U'.H r a/\H.length<=b
def qoR{A t}(a)(hl:a.length<=1000){H}(T)(hr:a≠[]->H[A]?=some (.cells (zb a))):
 qj prog GG 63 [Jg A t a] ⟨H,T⟩ (qAe a H T):=by
 refine qFn ⟨true,[],[],[]⟩ qg func63 rfl (by kernel_rfl) ?_;by_cases ha:a=[]
 . subst ha;simp[Jg,zx,ja,qq,qV,Kc,za];exact⟨⟨rfl,qFV,H.length,.inl ⟨rfl,_,_,rfl⟩,qA5 _⟩,⟨rfl,qFV,H.length,.inl ⟨rfl,_,_,rfl⟩,qA5 _⟩⟩
 have hrow:Jg A t a=.ms A 0 a.length 1:=if_neg ha;have hA:=hr ha;have h1:(zb a).take a.length=zb a:=qAZ (by rw[qR];exact qA5 _);rw[hrow];simp[hA,zx,ja,qV,Kc,qR,h1,show a.length<=549755813888 by omega,ha];exact⟨rfl,qFX,H.length,.inr ⟨ha,by simp⟩,qA5 _⟩
