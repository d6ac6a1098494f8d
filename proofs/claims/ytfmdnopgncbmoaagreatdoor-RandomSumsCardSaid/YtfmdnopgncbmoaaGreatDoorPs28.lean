import Derived.Test.YtfmdnopgncbmoaaGreatDoorPs11
set_option maxHeartbeats 16000000
set_option maxRecDepth 100000
set_option linter.all false
set_option linter.defProp false
namespace Go.Proofs.YtfmdnopgncbmoaaGreatDoor
open Go Go.Abs Tryz
def zw(a:List Int):List AV:=a.map (AV.int .i64 ·)
@[simp]def VE(p:Problem)(l:List Ex)(va:AV)(over:Bool)(n:Nat):List AV:=[.sl 4 (p.vars.map qD) .none,.sl 4 (p.hard.map qt) .none,.sl 4 (p.soft.map qt) .none,.sl 2 (p.dists.map zF) .none,.sl 1 (p.groups.map zJ) .none,.sl 4 (l.map qt) .none,va,.bool over,.int .i64 n]
def qcb(A t:Nat)(a:List Int):AV:=if a=[] then .sl 1 [] (.chain t 0) else .ms A 0 a.length 1
structure FndR(F A t:Nat)(p:Problem)(l:List Ex)(a:List Int)(over:Bool)(n:Nat)(H:List Blk):Prop where
 f:H[F]?=some (.cells (VE p l (qcb A t a) over n))
 r:a≠[]->H[A]?=some (.cells (zw a))
def FndR.ne{F A t p l a over n H}(h:FndR F A t p l a over n H)(ha:a≠[]):A≠F:=by
 rintro rfl;have h1:=h.f;rw[h.r ha]at h1;simp only[zw,VE,qyU,Blk.cells.injEq]at h1
 cases a with
 |nil=>exact ha rfl
 |cons x xs=>simp at h1
def wa{a i x}:(zw a).set i (AV.int .i64 x)=zw (a.set i x):=by simp[zw,qBQ]
def VD{a:List Int}{i:Nat}:(zw a)[i]?=(a[i]?).map (AV.int .i64 ·):=by simp[zw]
def qY{a}:(zw a).length=a.length:=by simp[zw]
def qhl{vs:List Var}{a:List Int}(hl:a.length=vs.length){m v x}(hv:vs[m]?=some v)(hx:a[m]?=some x)(ho:(qH (vs.drop (m+1)) (a.drop (m+1))).2=true):
 qH (vs.drop m) (a.drop m)=if v.mode=0 then(x::(qH (vs.drop (m+1)) (a.drop (m+1))).1,true) else if x+1<(z7 v:Nat) then((x+1)::(qH (vs.drop (m+1)) (a.drop (m+1))).1,false) else(0::(qH (vs.drop (m+1)) (a.drop (m+1))).1,true):=by
 obtain⟨h1,rfl⟩:=qyF.1 hv;obtain⟨h2,rfl⟩:=qyF.1 hx;rw[qy1 h1,qy1 h2]
 conv=>lhs;unfold qH
 rw[ho,if_neg (by simp)]
def WX:∀{vs:List Var}{a:List Int} (hl:a.length=vs.length) (m:Nat),(qH (vs.drop m) (a.drop m)).2=false->qH vs a=(a.take m++(qH (vs.drop m) (a.drop m)).1,false)
 | vs,a,_,0,h=>by
  simp only[qzX]at h⊢;rw[qCy,qy2,<- h]
 |[],[],_,m+1,h=>by simp[qH]at h
 | v::vs,x::xs,hl,m+1,h=>by
  have ih:=WX (vs:=vs) (a:=xs) (by simpa using hl) m (by simpa using h);simp only[List.drop_succ_cons]at h⊢
  conv=>lhs;unfold qH
  rw[ih,if_pos rfl,qBb,qy3]
 |[],_::_,hl,_,_=>by simp at hl
 |_::_,[],hl,_,_=>by simp at hl
def WY:∀{vs:List Var}{a:List Int},a.length=vs.length->(qH vs a).1.length=a.length
 |[],[],_=>rfl
 | v::vs,x::xs,hl=>by
  have ih:=WY (vs:=vs) (a:=xs) (by simpa using hl);unfold qH;split
  . simp[ih]
  split
  . simp[ih]
  split<;>simp[ih]
 |[],_::_,hl=>by simp at hl
 |_::_,[],hl=>by simp at hl
def FndR.look{F A t p l a over n H}(h:FndR F A t p l a over n H)(u):FndR F A t p l a over n (H++u):=⟨qa h.f u,fun ha=>qa (h.r ha) u⟩
def qhV:∀{vs:List Var}{a:List Int}{m:Nat}{v:Var}{x:Int},okA vs a->vs[m]?=some v->a[m]?=some x->if v.mode=0 then x=v.value else 0<=x/\x<(z7 v:Nat)
 | v::vs,x::xs,0,w,y,h,hv,hx=>by
  simp at hv hx;subst hv hx;exact h.1
 |v::vs,x::xs,m+1,w,y,h,hv,hx=>qhV h.2 (by simpa using hv) (by simpa using hx)
 |[],[],_,_,_,_,hv,_=>by simp at hv
 |[],_::_,_,_,_,h,_,_=>h.elim
 |_::_,[],_,_,_,h,_,_=>h.elim
def qx3(F A t:Nat)(p:Problem)(l:List Ex)(a:List Int)(n:Nat)(H:List Blk)(T:List (Option Nat))(r:AV)(U':St):Prop :=
 r=.tup []/\U'.T=T/\FndR F A t p l (qH p.vars a).1 (qH p.vars a).2 n U'.H/\KpL [F,A] H U'.H
def qx4(F A t:Nat)(p:Problem)(l:List Ex)(a:List Int)(n:Nat)(H:List Blk)(T:List (Option Nat))(m:Nat)(ev:Env)(U:St):Prop :=
 ev 0=.ptr F 0/\ev 2=.int .i64 ((m:Int)-1)/\m<=a.length/\(qH (p.vars.drop m) (a.drop m)).2=true/\∃H',U=⟨H',T⟩/\KpL [F,A] H H'/\FndR F A t p l (a.take m++(qH (p.vars.drop m) (a.drop m)).1) false n H'
def qgx{F A t p l a n H}(T)(h:FndR F A t p l a false n H)(hl:a.length=p.vars.length)(hl2:a.length<=1000)(hok:okA p.vars a)(hw:∀v∈p.vars,0<=v.width/\v.width<=28):
 qf prog GG 261 [.ptr F 0] ⟨H,T⟩ (qx3 F A t p l a n H T):=by
 refine qCN qe func261 rfl (by kernel_rfl) ?_;have hF:=h.f;have hFl:=(qyF.1 hF).1;by_cases ha:a=[]
 . subst ha;have hv:=qyX hl.symm;have hs:qH p.vars []=([],true):=(by rw[hv];rfl);simp[hF,qcb];refine qCR (fun m ev U=>ev 0=.ptr F 0/\ev 2=.int .i64 (-1)/\U=⟨H,T⟩) 0 ⟨by simp,by simp;decide,rfl⟩ ?_;rintro m ev U R hR ⟨e0,e2,rfl⟩;simp[e0,e2,hF];refine⟨rfl,rfl,⟨?_,fun h=>?_⟩,?_⟩
   . rw[hs];simp[hFl,qcb]
   . rw[hs]at h;exact absurd rfl h
   exact qDk (by simp)
 have hA:=h.r ha;have hne:=h.ne ha;have hrow:∀b:List Int,b.length=a.length->qcb A t b=.ms A 0 a.length 1:=fun b hb=>by
  unfold qcb;rw[if_neg (by rintro rfl;exact ha (qyX hb.symm)),hb]
 rw[VE,hrow a rfl]at hF;simp[hF];refine qCR (fun m ev U=>qx4 F A t p l a n H T m ev U) a.length ?_ ?_
 . refine⟨by simp,by simp;rw[wr (by omega) (by omega)],qyQ _,?_,H,rfl,qDh,?_⟩
   . rw[hl,qz2,<- hl,qz2];rfl
   . rw[qz2,hl,qz2,<- hl,qAJ];show FndR F A t p l (a++[]) false n H
     rwa[qzp]
 rintro m ev U R hR ⟨e0,e2,hm,ho,H',rfl,hk,hfr⟩;have hF':=hfr.f;have hF'l:=(qyF.1 hF').1;have hdl:(a.drop m).length=(p.vars.drop m).length:=by simp[hl]
 have hcl:(a.take m++(qH (p.vars.drop m) (a.drop m)).1).length=a.length:=by rw[qyK,WY hdl];simp;omega
 rw[VE,hrow _ hcl]at hF';have hcn:a.take m++(qH (p.vars.drop m) (a.drop m)).1≠[]:=fun e=>ha (qyX (by rw[<- hcl,e];rfl))
 have hA':=hfr.r hcn
 cases m with
 | zero=>
  simp[e0,e2,hF'];simp only[qzX,qCy,qy2]at ho hfr hcl hA';refine⟨rfl,rfl,⟨?_,fun _=>?_⟩,hk.trans (qDk (by simp))⟩
  . rw[qyL hF'l,VE,hrow _ hcl,ho]
  rw[qyI (Ne.symm hne)];exact hA'
 | succ m=>
  have hma:m<a.length:=by omega
  obtain⟨x,hx⟩:∃x,a[m]?=some x:=⟨_,qyH hma⟩;obtain⟨v,hv⟩:∃v,p.vars[m]?=some v:=⟨_,qyH (by omega)⟩;have hst:=qhl hl hv hx ho;have hpre:=WX hl m;have hwv:=hw v (qyG hv);have hs1:=vy hwv.1 hwv.2;have e2':ev 2=.int .i64 (m:Int):=by rw[e2];congr 1;omega
  have hw1:=wr (n:=(m:Int)-1) (by omega) (by omega);have hokx:v.mode≠0->0<=x/\x<(z7 v:Nat):=fun hm0=>by
   have:=qhV hok hv hx
   rwa[if_neg hm0]at this
  have hsz:z7 v<=2^28:=qzc (by omega) (by omega);have htk:a.take (m+1)=a.take m++[x]:=by rw[qzb,hx];rfl
  have hdm:(a.drop m).length=(p.vars.drop m).length:=by simp[hl]
  have hS:(a.take m).length+((qH (p.vars.drop (m+1)) (a.drop (m+1))).1.length+1)=a.length:=by
   rw[htk]at hcl;simpa using hcl
  rw[htk]at hfr hcl hA';generalize (qH (p.vars.drop (m+1)) (a.drop (m+1))).1=S at *;have hpl:(a.take m).length=m:=by simp;omega
  generalize hP:a.take m=P at *;simp only[qze,qAq]at hfr hcl hA';have hen:∀y,zw (P++y::S)=zw P++.int .i64 y::zw S:=fun y=>by simp[zw]
  have hepl:(zw P).length=m:=by rw[qY,hpl]
  have hg:∀y,(zw P++AV.int .i64 y::zw S)[m]?=some (.int .i64 y):=fun y=>by
   rw[qyO (by omega),hepl,qzU];rfl
  have hd:∀y,(zw P++AV.int .i64 y::zw S).drop m=.int .i64 y::zw S:=fun y=>by
   rw[qAT (by omega),qzf (by omega)];rfl
  have hst2:∀y z,(zw P++AV.int .i64 y::zw S).set m (.int .i64 z)=zw P++.int .i64 z::zw S:=fun y z=>by
   rw[qzO _ _ (by omega),hepl,qzU];rfl
  have hlen2:∀y,(zw P++AV.int .i64 y::zw S).length=a.length:=fun y=>by
   rwa[qyK,qyY,qY,qY]
  rw[hen]at hA';have hAl':=(qyF.1 hA').1;have hFset:∀y,(H'.set A y)[F]?=some (.cells (VE p l (.ms A 0 a.length 1) false n)):=fun y=>by rwa[qyI hne]
  have hAset:∀y,(H'.set A y)[A]?=some y:=fun y=>qyL hAl'
  have hml:m<p.vars.length:=by omega
  have hma1:m+1<=a.length:=hma;simp only[VE]at hF' hFset;by_cases hm0:v.mode=0
  . rw[if_pos hm0]at hst;simp[e0,e2',hF',hv,hm0,hw1];refine hR m _ _ (by omega) ⟨by simp[e0],by simp,by omega,by rw[hst],H',rfl,hk,?_⟩
    rwa[hst,hP]
  have hx0:=hokx hm0;have hwx:=wr (n:=x+1) (by omega) (by omega);rw[if_neg hm0]at hst;have hwn:¬v.width<0:=by omega
  have hszv:z7 v=2^v.width.toNat:=rfl;rw[<- hszv]at hs1;by_cases hx1:x+1<(z7 v:Nat)
  . rw[if_pos hx1]at hst;have hpr:=hpre (by rw[hst]);rw[hst]at hpr;simp only at hpr;simp[e0,e2',hF',hv,hm0,hw1,hA',hd,hst2,hlen2,hwx,hFset,hAset,hs1,hma,hma1,hwn,IntKind.bits,hx1];have hL:(P++(x+1)::S).length=a.length:=(by rw[<- qY,hen];exact hlen2 _);refine⟨rfl,rfl,⟨?_,fun _=>?_⟩,hk.trans (qDk (by simp))⟩
    . rw[hpr,VE,hrow _ hL];exact hFset _
    rw[hpr,hen];exact hAset _
  rw[if_neg hx1]at hst;simp[e0,e2',hF',hv,hm0,hw1,hA',hd,hst2,hlen2,hwx,hFset,hAset,hs1,hma,hma1,hwn,IntKind.bits,hx1];have hL:(P++0::S).length=a.length:=by rw[<- qY,hen];exact hlen2 _
  refine hR m _ _ (by omega) ⟨by simp[e0],by simp,by omega,by rw[hst],_,rfl,hk.trans (qDk (by simp)),?_⟩;rw[hst,hP];refine⟨?_,fun _=>?_⟩
  . rwa[VE,hrow _ hL,qyI hne]
  rw[hen];exact qyL hAl'
def qxw(p:Problem)(a:List Int)(H:List Blk)(T:List (Option Nat))(r:AV)(U':St):Prop :=
 U'.T=T/\KpL [] H U'.H/\∃b,jr b 2 qV U'.H r (ki p.vars a)/\H.length<=b
def qi2{vs a i v x}(h:vs[i]?=some v)(h':a[i]?=some x):(ve vs a).take (i+1)=(ve vs a).take i++[⟨v.name,x⟩]:=by
 rw[qzb,Qc h h'];rfl
def qd7:List (Nat×Sch×List Nat):=[(7,.step 0 [10,9] (.step 1 [10,9,8,7,2] (.step 2 [10,9,8,7] (.step 3 [10,9,8,7,6,5] (.step 4 [10,9,8,7,6,5] (.step 5 [10,9,8,7,6] (.step 6 [10,9,8,7] (.step 7 [10,9,8] (.step 8 [10,9] (.step 9 [10] (.step 10 [] (.done))))))))))),[])]
def qqm{A t}(p a)(hlen:a.length=p.vars.length)(hl:p.vars.length<=1000){H}(T)(hr:a≠[]->H[A]?=some (.cells (zw a))):
 qf prog GG 59 [.agg (qA p),qcb A t a] ⟨H,T⟩ (qxw p a H T):=by
 refine qCM ⟨true,qd7,[],[]⟩ qe func59 rfl (by kernel_rfl) ?_;by_cases ha:a=[]
 . subst ha;have hv:=qyX hlen.symm;have hen:ki p.vars []=[]:=(by rw[hv];rfl);have hQ:∀u,qxw p [] H T (.sl 0 [] .nil) ⟨H++u,T⟩:=fun u=>⟨rfl,qDj,H.length,.inl ⟨hen,rfl⟩,qyQ _⟩
   simp[qcb,hv];refine qCR (fun n ev U=>ev 5=.sl 0 [] .nil/\ev 16=.int .i64 0/\ev 17=.int .i64 0/\∃u,U=⟨H++u,T⟩) 0 ⟨by simp,by simp,by simp,_,rfl⟩ ?_;rintro n ev U R hR ⟨e5,e16,e17,u,rfl⟩;simp[e5,e16,e17];exact hQ u
 have hrow:qcb A t a=.ms A 0 a.length 1:=if_neg ha;have hA:=hr ha;have hE:=yz hlen;have hen:ki p.vars a=ve p.vars a:=by rw[ZP,if_pos hlen]
 rw[hrow];simp[hlen];refine qC2 p.vars (fun d ev U=>ev 1=.ms A 0 p.vars.length 1/\ev 15=.sl 4 (p.vars.map qD) .none/\ev 16=.int .i64 p.vars.length/\ev 17=.int .i64 d.length /\
  ∃H' b,U=⟨H',T⟩/\KpL [] H H'/\H.length<=b/\jr b 2 qV H' (ev 5) ((ve p.vars a).take d.length)) ?_ ?_ ?_
 . exact⟨by simp[],by simp,by simp,by simp,_,H.length,rfl,qDj,qyQ _,.inl ⟨by simp,by simp⟩⟩
 . rintro d v rest ev U R hR hd hx hlt ⟨e1,e15,e16,e17,H',b,rfl,hk,hb,ho⟩;have hw:=wr (n:=(d.length:Int)+1) (by omega) (by omega);obtain⟨x,hxa⟩:∃x,a[d.length]?=some x:=⟨_,qyH (by omega)⟩;have hA':H'[A]?=some (.cells (zw a)):=hk.2 _ _ hA (by simp);have hdr:(zw a).drop d.length=.int .i64 x::(zw a).drop (d.length+1):=by
    obtain⟨h1,h2⟩:=qyF.1 (by rw[VD,hxa];rfl);rw[qy1 h1,h2]
   have hl1:d.length+1<=(zw a).length:=(by rw[qY];omega);have hl2':d.length+1<=p.vars.length:=(by omega);have ho':jr b 2 qV (H'++[.cells (qD v)]) (ev 5) ((ve p.vars a).take d.length):=ho.keep fun y _ h=>qa h _
   obtain⟨v',b',H2,hY,ho2,hb2,hk2,hl2⟩:=ho'.appendK (P:=prog) (G:=Jx GG) (o:=⟨true,qd7,[],[]⟩) (T:=T) (m:=[⟨v.name,x⟩]) (tok:=.tight) qxY rfl qxX rfl (by omega) rfl (by decide) (fun x=>rfl) (by simp;omega);have hkH2:KpL [] H H2:=⟨by have:=hk.1;simp at hl2;omega,fun k y hk1 _=>hk2 _ _ (qa (hk.2 k y hk1 (by simp)) _) (by
    have:=(qyF.1 hk1).1;right;omega)⟩
   simp only[qyR,qzj,qV,qD]at hY ho';generalize hv5:ev 5=v5 at *;simp[-getElem?_pos,e15,e16,e17,hlt,hx];rw[qJ rfl];simp[-getElem?_pos,qX,hv5,hY,e1,e17,hlt,qa hA',hdr,hl1,zp,zS,qG,qj,qs,hw];refine hR _ _ ⟨by simp[e1],by simp[e15],by simp[e16],by simp,H2,b',rfl,hkH2,?_,?_⟩
   . rcases hb2 with rfl|rfl
     . exact hb
     . have:=hk.1;simp;omega
   have:=qi2 hx hxa;simp only[qyK,qzd];rw[this];simpa using ho2
 rintro ev U ⟨e1,e15,e16,e17,H',b,rfl,hk,hb,ho⟩;simp[e16,e17];rw[qyN (by rw[hE];exact qyQ _)]at ho;exact⟨rfl,hk,b,by rw[hen];exact ho,hb⟩
def qgD(b:Nat)(H:List Blk)(v:AV)(a:List Int):Prop:=(a=[]/\∃sz tok,v=.sl sz [] tok)\/(a≠[]/\v=.ms b 0 a.length 1/\H[b]?=some (.cells (zw a)))
def qxZ(a:List Int)(H:List Blk)(T:List (Option Nat))(r:AV)(U':St):Prop:=U'.T=T/\KpL [] H U'.H/\∃b,qgD b U'.H r a/\H.length<=b
def qmL{A t}(a)(hl:a.length<=1000){H}(T)(hr:a≠[]->H[A]?=some (.cells (zw a))):
 qf prog GG 73 [qcb A t a] ⟨H,T⟩ (qxZ a H T):=by
 refine qCM ⟨true,[],[],[]⟩ qe func73 rfl (by kernel_rfl) ?_;by_cases ha:a=[]
 . subst ha;simp[qcb,zn,zZ,qL,qP,KA,zK];exact⟨⟨rfl,qDh,H.length,.inl ⟨rfl,_,_,rfl⟩,qyQ _⟩,⟨rfl,qDh,H.length,.inl ⟨rfl,_,_,rfl⟩,qyQ _⟩⟩
 have hrow:qcb A t a=.ms A 0 a.length 1:=if_neg ha;have hA:=hr ha;have h1:(zw a).take a.length=zw a:=qyN (by rw[qY];exact qyQ _);rw[hrow];simp[hA,zn,zZ,qP,KA,qY,h1,show a.length<=549755813888 by omega,ha];exact⟨rfl,qDj,H.length,.inr ⟨ha,by simp⟩,qyQ _⟩
