/- A part of the proof. -/
import Derived.Test.YtoibbcnfhhggnaaGreatDoorPc22
set_option maxHeartbeats 16000000
set_option linter.unusedVariables false
set_option linter.unusedSimpArgs false
set_option maxRecDepth 100000
set_option linter.defProp false
section
namespace Go.Proofs.YtoibbcnfhhggnaaGreatDoor
open Go Go.Abs
theorem qbI {α:Type}(p:α->Bool):∀ (l:List α) (i:Nat),(zr p l i = -1/\l.find? p=none)\/∃ k w,zr p l i=((i+k:Nat):Int)/\l[k]?=some w/\l.find? p=some w
 | [],i=>.inl ⟨rfl,rfl⟩
 | a::r,i=>by
  by_cases h:p a=true
  . exact .inr ⟨0,a,by simp[zr,h],by simp,by simp[h]⟩
  . have ih:=qbI p r (i+1);have e:zr p (a::r) i=zr p r ((i+1:Nat):Int):=(by simp[zr,h]);rw[e];rcases ih with ⟨h1,h2⟩|⟨k,w,h1,h2,h3⟩
    . exact .inl ⟨h1,by simp[h,h2]⟩
    . exact .inr ⟨k+1,w,by rw[h1];congr 1;omega,by simpa using h2,by simp[h,h3]⟩
theorem in329 (w:Weight)(n:Int):Pure Tryz.prog GG 169 [.agg (qE w),.rptr [.int .i64 n]] (.bool (inW n w)):=by
 refine Pure.k qe Tryz.func169 rfl (by kernel_rfl) ?_;unfold inW;by_cases h:w.lo<=n<;>simp[-getElem?_pos,h]
theorem app37h (H:List Blk)(s:List Int)(n:Int)(hs:s.length<2 ^ 30):qB (Dof Tryz.prog) ⟨H,we [] s⟩ 44 (YR 1 qy 0 s) (.sl 1 [[.int .i64 n]] .tight)=some (YR 1 qy 0 (s++[n]),⟨H,we [] (s++[n])⟩) :=
 vd (D:=Dof Tryz.prog) (sz:=1) (T:=[]) (H:=H) (m:=[n]) (en:=qy) D44 rfl D3 rfl (by decide) rfl (by decide) (by simp only[qqA];omega) 1 (.inl rfl)
def qk3:List (Nat×Sch×List Nat):=[(10,.step 0 [5,4,1] (.step 1 [5,4] (.step 2 [5,4,3] (.step 3 [5,4] (.step 4 [5] (.step 5 [] (.done)))))),[])]
theorem qfq (p:Problem)(d:Dist)(v:Var)(i:Nat)(hi:d.var=i)(hv:p.vars[i]?=some v)(hvl:p.vars.length<=1000)(hw0:0<=v.width)(hw8:v.width<=8)(hf:Fits d.weights) :
 Pure Tryz.prog GG 124 [.agg (qJ p),.agg (zM d)] (.agg (qs (Jp p.vars d))):=by
 refine Pure.kO ⟨false,qk3,[],[]⟩ false qe Tryz.func124 rfl (by kernel_rfl) ?_;have hs:=kg (w:=v.width) hw0 (by omega);have hsz:=JT hw8;have hsup:Jp p.vars d=jA v.name (kh (qax v d.weights)):=by unfold Jp;rw[hi,qq7,hv]
 have hok:=Vb v d.weights;have hrk:=YD (N:=(zi v:Nat)) hok.1 (fun x hx=>by have:=hok.2 x hx;omega) (by omega);have hsl:(qax v d.weights).length<=1000:=by
  have:(qax v d.weights).length<=zi v:=by unfold qax;exact qq9 (qrT _ _) (by simp)
  omega
 have hrg:=qhB (qax v d.weights) hsl (fun n hn=>by have:=hok.2 n hn;omega);have hun:=qkk v.name (kh (qax v d.weights)) (by omega);have hsn:qax v d.weights=(Qu v.width).filter (qae d.weights):=rfl;rw[hsup];generalize jA v.name (kh (qax v d.weights))=U_ at *;generalize kh (qax v d.weights)=RG at *;rw[hsn]at hrg;have hlen:=Zk v.width;have hget:∀ {d r:List Int} {x:Int},Qu v.width=d++x::r->x=d.length:=YU;have hwn:¬ v.width<0:=by omega
 have hil:i<p.vars.length:=(qp5.1 hv).1;have hszd:zi v=2 ^ v.width.toNat:=rfl;rw[<- hszd]at hs hlen;generalize hN:zi v=N at *;generalize Qu v.width=nums at *;have hE:=qd U_;simp only[hE]at hun ⊢;simp[-getElem?_pos,hi,hv,hil,hwn,IntKind.bits,hs];refine qL.listR nums (fun dd ev U=>ev 3=.ptr 1 0/\ev 4=.ptr 2 0/\ev 5=.ptr 3 0/\ev 6=YR 1 qy 0 (dd.filter (qae d.weights))/\ev 17=.int .i64 N/\ev 18=.int .i64 dd.length/\∃ H,U=⟨H,we [] (dd.filter (qae d.weights))⟩ /\
  H[1]?=some (.cells [.int .i64 i,.sl 4 (d.weights.map qE) .none])/\H[2]?=some (.cells [.int .i64 0,.int .i64 0,.str [],.sl 0 [] .nil])/\H[3]?=some (.cells (qo v))/\qq [AV.int .i64 0]=true) ?_ ?_ ?_
 . exact⟨by simp,by simp,by simp,by simp,by simp,by simp,_,by simp;rfl,by simp,by simp,by simp,rfl⟩
 . rintro dd n rest ev U R hR hd hx hlt ⟨e3,e4,e5,e6,e17,e18,H,rfl,H1,H2,H3,_⟩;have hnd:=hget hd;subst hnd;have hlt':dd.length<N:=(by omega);have hw:=wr (n:=(dd.length:Int)+1) (by omega) (by omega);have hfs:=QT (qae d.weights) dd (dd.length:Int);have hfl:(dd.filter (qae d.weights)).length<2 ^ 30:=qr8 (qrT _ _) (by omega);have hgo:∀ (ev':Env) H' (L:List Int),L=(dd++[(dd.length:Int)]).filter (qae d.weights)->ev' 3=.ptr 1 0->ev' 4=.ptr 2 0->ev' 5=.ptr 3 0->ev' 6=YR 1 qy 0 L->ev' 17=.int .i64 N->ev' 18=.int .i64 (dd.length+1:Nat)->(∃ u,H'=H++u)->R ev' ⟨H',we [] L⟩:=by
    rintro ev' H' L rfl a3 a4 a5 a6 a17 a18 ⟨u,rfl⟩;exact hR _ _ ⟨a3,a4,a5,a6,a17,by simpa using a18,_,rfl,qa H1 u,qa H2 u,qa H3 u,rfl⟩
   simp[-getElem?_pos,e3,e4,e5,e6,e17,e18,hlt',qa H1,qa H2,qa H3];refine qc.lent (vT GG d.weights (inW dd.length) 169 [] [.rptr [.int .i64 dd.length]] hf rfl (by simp) fun w _=>in329 w dd.length) rfl ?_ ?_
   . simp[frz]
   . have hff:=qbI (inW dd.length) d.weights 0;simp only[qrX]at hff;rcases hff with ⟨k1,k2⟩|⟨k,w,k1,k2,k3⟩
     . have hp:qae d.weights dd.length=false:=(by unfold qae;rw[k2]);have k1:zr (inW dd.length) d.weights 0 = -1:=k1;rw[k1];rw[hp]at hfs;simp only[qqq,if_false]at hfs;simp[-getElem?_pos,e3,e4,e5,e6,e17,e18,hw];exact hgo _ _ _ hfs.symm (by simp[e3]) (by simp[e4]) (by simp[e5]) (by simp[e6]) (by simp[e17]) (by simp) ⟨_,rfl⟩
     . have k1:zr (inW dd.length) d.weights 0=(k:Nat):=k1;have hkl:=(qp5.1 k2).1;rw[k1];by_cases hp0:0<w.weight
       . have hp:qae d.weights dd.length=true:=(by unfold qae;rw[k3];simpa using hp0);rw[if_pos hp]at hfs;simp[-getElem?_pos,e3,e4,e5,e6,e17,e18,hw,qa H1,k2,hkl,hp0,app37h _ _ _ hfl];exact hgo _ _ _ hfs.symm (by simp[e3]) (by simp[e4]) (by simp[e5]) (by simp) (by simp[e17]) (by simp) ⟨_,rfl⟩
       . have hp:qae d.weights dd.length=false:=(by unfold qae;rw[k3];simpa using hp0);rw[hp]at hfs;simp only[qqq,if_false]at hfs;simp[-getElem?_pos,e3,e4,e5,e6,e17,e18,hw,qa H1,k2,hkl,hp0];exact hgo _ _ _ hfs.symm (by simp[e3]) (by simp[e4]) (by simp[e5]) (by simp[e6]) (by simp[e17]) (by simp) ⟨_,rfl⟩
 . rintro ev U ⟨e3,e4,e5,e6,e17,e18,H,rfl,H1,H2,H3,_⟩;rw[hlen]at e18;have H2l:=(qp5.1 H2).1;simp[-getElem?_pos,e3,e4,e5,e6,e17,e18];rw[qG rfl];simp[-getElem?_pos,qM,e3,e4,e5,e6,e17,e18,H3];refine qc.pure hrg (by simp only[qqk,qqF,Wo,qq,qrP];exact qfK (fun x=>by simp)) (by simp only[qqk,qqF,Wo,zm,and_true];exact qem) ?_;simp[-getElem?_pos,qM,e3,e4,e5,e6,e17,e18,H3];refine qc.call hun (by simp) ?_;simp[-getElem?_pos,qM,e3,e4,e5,e6,e17,e18,H2,H2l]
theorem qgY {p:Problem}(h:qi p=0):∀ d∈p.dists,∃ (i:Nat) (v:Var),d.var=i/\p.vars[i]?=some v:=by
 have hd:ye p.vars p.dists=0:=by
  unfold qi at h;split at h
  . exact absurd h (by assumption)
  . split at h
    . rename_i h1;exact absurd h h1
    . split at h
      . rename_i h1;exact absurd h h1
      . rename_i h1;exact qqN.1 h1
 intro d hm;obtain⟨k,hk⟩:=qqJ hm;have hkl:=(qp5.1 hk).1;unfold ye at hd;have:=zf.1 hd k (by simp;omega);unfold jE at this;rw[hk]at this;simp only at this;split at this
 . cases this
 . rename_i hr;have hr:yq p.vars d.var=true:=(by simpa using hr);simp only[yq,qp9,decide_eq_true_eq]at hr;obtain⟨j,hj⟩:=qqM hr.1;rw[hj]at hr;simp only[qq7]at hr
   cases hv:p.vars[j]? with
   | none=>rw[hv]at hr;simp at hr
   | some v=>exact⟨j,v,hj,hv⟩
noncomputable def jW (p:Problem):List Ex:=if qi p=0 then wm p else []
theorem Jh (p:Problem)(h:VQ p)(hd:p.dists.length<=10000):Pure Tryz.prog GG 88 [.agg (qJ p)] (.sl 4 ((jW p).map qs) .none):=by
 refine Pure.k qe Tryz.func88 rfl (by kernel_rfl) ?_;have hval:=j4 p h;simp only[qJ]at hval;by_cases hv:qi p=0
 case neg=>
  have:jW p=[]:=if_neg hv;rw[this];simp[-getElem?_pos];refine qc.call hval (by simp) ?_;simp[-getElem?_pos,hv,Leq]
 have hs:jW p=p.dists.map (Jp p.vars):=if_pos hv;rw[hs];have hdl:(p.dists.length:Int)<=549755813888:=by omega
 simp[-getElem?_pos];refine qc.call hval (by simp) ?_;simp[-getElem?_pos,hv,qw,hdl];have hvd:=qgY hv;refine qL.listR p.dists (fun d ev U=>ev 1=.ptr 0 0/\ev 3=.sl 4 ((d.map (Jp p.vars)).map qs) (.chain 0 d.length)/\ev 14=.sl 2 (p.dists.map zM) .none/\ev 15=.int .i64 p.dists.length/\ev 16=.int .i64 d.length/\∃ t,U=⟨.cells (qJ p)::t,[some d.length]⟩) ?_ ?_ ?_
 . exact⟨by simp,by simp,by simp,by simp,by simp,[],by simp⟩
 . rintro d x rest ev U R hR hd2 hx hlt ⟨e1,e3,e14,e15,e16,t,rfl⟩;have hdw:=wr (n:=(d.length:Int)+1) (by omega) (by omega);have hm:=qp6 hx;obtain⟨i,v,hi,hvi⟩:=hvd x hm;have hvw:=qU (zE hv v (qp6 hvi));have hsup:=qfq p x v i hi hvi h.vars (by omega) (by omega) (h.weights x hm);have hsn:(d++[x]).map (Jp p.vars)=d.map (Jp p.vars)++[Jp p.vars x]:=(by simp);have hml:(d.map (Jp p.vars)).length=d.length:=(by simp);have ha:=yE (Jp p.vars x);have hl4:=zj (Jp p.vars x);generalize Jp p.vars x=X at *;generalize d.map (Jp p.vars)=D at *;have happ:∀ H,qB (Dof Tryz.prog) ⟨H,[some d.length]⟩ 23 (.sl 4 (D.map qs) (.chain 0 d.length)) (.sl 4 [qs X] .tight)=some (.sl 4 ((D++[X]).map qs) (.chain 0 (d.length+1)),⟨H,[some (d.length+1)]⟩):=fun H=>by
    have h1:D.length+1<=549755813888:=(by omega);simp[qB,zp,h1]
   simp only[qJ]at hsup;simp[-getElem?_pos,-qK,e1,e3,e14,e15,e16,hlt,hx];refine qc.call hsup (by simp) ?_;simp[-getElem?_pos,-qK,ha,hl4,e1,e3,e14,e15,e16,hdw,qk,qA,happ];refine hR _ _ ⟨by simp[e1],by rw[hsn];simp,by simp[e14],by simp[e15],by simp,t++[.cells (zM x)],?_⟩;simp
 . rintro ev U ⟨e1,e3,e14,e15,e16,t,rfl⟩;have hn:=nrEs (p.dists.map (Jp p.vars));rw[qrp]at hn;simp[-getElem?_pos,e3,e15,e16,hn]
theorem YK:∀ (new c:List AV) (off:Nat),(zt c off new).length=c.length
 | [],c,off=>rfl
 | v::r,c,off=>by rw[zt,YK r];simp
theorem qaS (A B Z:List AV)(h:Z.length=A.length+B.length):zt (zt Z 0 A) A.length B=A++B:=by
 obtain⟨Z1,Z2,rfl,h1⟩:∃ Z1 Z2,Z=Z1++Z2/\Z1.length=A.length:=⟨Z.take A.length,Z.drop A.length,(qqQ _ _).symm,by rw[qqD];omega⟩;rw[wK A Z1 Z2 h1];have:=vL (c:=Z2) B A 0;rw[qri]at this;rw[this,putAt_all Z2 B (by simp at h;omega)]
def needE (a b:List Ex):List AV:=(a++b).flatMap qs
theorem sl_ms (N k:Nat)(h:k<N):zw (.ms 1 0 N 4) (some (.int .i64 (k:Int))) none none=some (.ms 1 (k*4) (N-k) 4):=by
 show (if (0:Int)<=k/\(k:Int)<=N/\(N:Int)<=N/\((k:Int)=0\/(k:Int)<N) then some (AV.ms 1 (0+(k:Int).toNat*4) ((N:Int).toNat-(k:Int).toNat) 4) else if (k:Int)=N/\(N:Int)=N then some (.sl 4 [] .none) else none)=_;rw[if_pos ⟨by omega,by omega,by omega,by omega⟩];simp
theorem sl_msE (N:Nat)(h:0<N):zw (.ms 1 0 N 4) (some (.int .i64 (N:Int))) none none=some (.sl 4 [] .none):=by
 show (if (0:Int)<=N/\(N:Int)<=N/\(N:Int)<=N/\((N:Int)=0\/(N:Int)<N) then some (AV.ms 1 (0+(N:Int).toNat*4) ((N:Int).toNat-(N:Int).toNat) 4) else if (N:Int)=N/\(N:Int)=N then some (.sl 4 [] .none) else none)=_;rw[if_neg (by omega),if_pos ⟨rfl,rfl⟩]
noncomputable def zA (p:Problem):List Ex:=p.hard++jW p
theorem YX (p:Problem)(h:VQ p)(hd:p.dists.length<=10000):Pure Tryz.prog GG 57 [.agg (qJ p)] (.sl 4 ((zA p).map qs) .none):=by
 refine Pure.kO o0 true qe Tryz.func57 rfl (by kernel_rfl) ?_;have hs:=Jh p h hd;have hh:=h.hard;have hsl:(jW p).length<=10000:=by
  unfold jW;split
  . simp[wm,hd]
  . simp
 have hn:zA p=p.hard++jW p:=rfl;rw[hn];generalize jW p=S at *;simp only[qJ]at hs;have hw:=wr (n:=(p.hard.length:Int)+S.length) (by omega) (by omega);by_cases h0:p.hard=[]/\S=[]
 . obtain⟨h1,h2⟩:=h0;subst h2;rw[h1]at hs hw ⊢;simp[-getElem?_pos,h1];refine qc.call hs (by simp) ?_;have h00:IntKind.i64.wrap 0=0:=(by decide);simp[-getElem?_pos,h00,h1,qw,yA,WG,zw,zX,kf,z7];have hfc:∀ H,frz H 8 (.sl 4 [] (.chain 0 0))=.sl 4 [] .none:=fun H=>by rw[frz];simp[qC]
   rw[hfc];exact⟨by simp,Leq.refl _⟩
 . have hpos:0<p.hard.length+S.length:=by
    rcases qrh (p.hard.length+S.length) with h|h
    . exact absurd ⟨qqj (by omega),qqj (by omega)⟩ h0
    . exact h
   have hnz:¬ (p.hard.length:Int)+S.length=0:=(by omega);have hle:(p.hard.length:Int)+S.length<=549755813888:=(by omega);have hge:(0:Int)<=(p.hard.length:Int)+S.length:=(by omega);have htn:((p.hard.length:Int)+S.length).toNat=p.hard.length+S.length:=(by omega);obtain⟨Z,hZ⟩:∃ Z,Z=(List.replicate (p.hard.length+S.length) [AV.int .i64 0,.int .i64 0,.str [],.sl 0 [] .nil]).flatten:=⟨_,rfl⟩;have hZl:Z.length=(p.hard.length+S.length)*4:=(by rw[hZ];simp);have hAl:(p.hard.flatMap qs).length=p.hard.length*4:=Go.Abs.jj (sz:=4) zj p.hard;have hBl:(S.flatMap qs).length=S.length*4:=Go.Abs.jj (sz:=4) zj S;have hA:(p.hard.map qs).flatten=p.hard.flatMap qs:=(by rw[qrQ]);have hB:(S.map qs).flatten=S.flatMap qs:=(by rw[qrQ]);have htA:(p.hard.map qs).take p.hard.length=p.hard.map qs:=qqg (by simp);have htB:(S.map qs).take S.length=S.map qs:=qqg (by simp);have h2:=qaS (p.hard.flatMap qs) (S.flatMap qs) Z (by rw[hZl,hAl,hBl,qq5]);rw[hAl,<- List.flatMap_append]at h2;have hZ1l:(zt Z 0 (p.hard.flatMap qs)).length=(p.hard.length+S.length)*4:=(by rw[YK,hZl]);have hc1:∀ B0:Blk,yA (Dof Tryz.prog) ⟨[B0,.cells Z],[]⟩ 23 (.ms 1 0 (p.hard.length+S.length) 4) (.sl 4 (p.hard.map qs) .none)=some (.int .i64 p.hard.length,⟨[B0,.cells (zt Z 0 (p.hard.flatMap qs))],[]⟩):=fun B0=>by
    by_cases hh0:p.hard=[]
    . simp[yA,WG,hh0,zt]
    . have hm:min p.hard.length (p.hard.length+S.length)=p.hard.length:=(by omega);have hl:p.hard.length*4<=(p.hard.length+S.length)*4:=(by omega);simp[yA,WG,qkK,hm,hh0,htA,hA,hZl,hl]
   have hE:needE p.hard S=(p.hard++S).flatMap qs:=rfl;by_cases hS0:S=[]
   . subst hS0;have hhp:0<p.hard.length:=(by simpa using hpos);have hsl2:=sl_msE p.hard.length hhp;have ho:∀ B0:Blk,jw 1 4 qs [B0,.cells (p.hard.flatMap qs)] (.ms 1 0 p.hard.length 4) p.hard:=fun B0=>.inr ⟨qql.1 hhp,rfl,rfl⟩
     have hpa:zt Z 0 (p.hard.flatMap qs)=p.hard.flatMap qs:=putAt_all _ _ (by rw[hZl,hAl];simp);rw[hpa]at hc1;simp only[qqK,qri,qrz,Int.add_zero]at hw hnz hle hge htn hZ hc1;simp only[qqF]at hs;have hcz:∀ U:St,yA (Dof Tryz.prog) U 23 (.sl 4 [] .none) (.sl 4 [] .none)=some (.int .i64 0,U):=fun U=>by simp[yA,WG]
     generalize p.hard.flatMap qs=FE at *;simp[-getElem?_pos];refine qc.call hs (by simp) ?_;have hhn:¬ p.hard=[]:=qql.1 hhp;simp[-getElem?_pos,hw,hnz,hle,hge,hhn,qw,<- hZ,hc1,hsl2,hcz];exact⟨(ho (.cells (qJ p))).frzNo zj (fun x=>nrE x) ju 7,(ho (.cells (qJ p))).frz zj (fun x=>nrE x) ju 7⟩
   . have hSp:=qql.2 hS0;have hsl2:zw (.ms 1 0 (p.hard.length+S.length) 4) (some (.int .i64 p.hard.length)) none none=some (.ms 1 (p.hard.length*4) S.length 4):=by
      have h3:p.hard.length+S.length-p.hard.length=S.length:=(by omega);rw[sl_ms _ _ (by omega),h3]
     have hc2:∀ B0:Blk,yA (Dof Tryz.prog) ⟨[B0,.cells (zt Z 0 (p.hard.flatMap qs))],[]⟩ 23 (.ms 1 (p.hard.length*4) S.length 4) (.sl 4 (S.map qs) .none)=some (.int .i64 S.length,⟨[B0,.cells ((p.hard++S).flatMap qs)],[]⟩):=fun B0=>by
      have hl:p.hard.length*4+S.length*4<=(p.hard.length+S.length)*4:=(by omega);simp[yA,WG,qkK,hS0,htB,hB,hZ1l,hl,-List.flatMap_append,h2]
     have ho:∀ B0:Blk,jw 1 4 qs [B0,.cells ((p.hard++S).flatMap qs)] (.ms 1 0 (p.hard.length+S.length) 4) (p.hard++S):=fun B0=>.inr ⟨by simp[hS0],by simp,rfl⟩
     generalize (p.hard++S).flatMap qs=FE at *;generalize zt Z 0 (p.hard.flatMap qs)=Z1 at *;simp[-getElem?_pos];refine qc.call hs (by simp) ?_;simp[-getElem?_pos,hw,hnz,hle,hge,qw,htn,<- hZ,hc1,hsl2,hc2];have f1:=(ho (.cells (qJ p))).frz zj (fun x=>nrE x) ju 7;have f2:=(ho (.cells (qJ p))).frzNo zj (fun x=>nrE x) ju 7;rw[qqY]at f1;exact⟨f2,f1⟩
def Jg (e:Ex):Prop:=Wen e/\hgt e<=1000/\(pre e).length<=100000
theorem qov:∀ (e x:Ex),x∈pre e->(pre x).length<=(pre e).length:=by
 refine Ex.ind fun e ih x hx=>?_
 rw[jc]at hx;rcases qqv.1 hx with rfl|hx
 . exact qqf _
 . obtain⟨a,ha,hxa⟩:=wR.1 hx;exact qq9 (ih a ha x hxa) (qdZ ha)
theorem EOk.tame {s:Str}{e:Ex}{h m:Nat}(ho:EOk s h m e)(hs:Fits s)(hh:h<=1000)(hm:m<=100000):Jg e:=by
 refine⟨fun x hx=>?_,qq9 ho.hgt hh,qq9 ho.size hm⟩;have h1:=qov e x hx;have h2:=qeW x;have h3:=ho.size;obtain⟨n1,n2,n3,n4⟩:=ho.nodes x hx;refine⟨by show x.args.length<_;omega,?_⟩;by_cases h:x.op=2
 . rw[n4 h];exact hs
 . have:=(jo n1).2.2.2.2.2.2.2 (by rintro (h' | h' | h');exact h h';exact n2 h';exact n3 h');rw[this];simp[Fits]
theorem qa2 (n:Int):Jg (jr n):=by
 refine⟨fun x hx=>?_,by simp[vo,jr],by rw[Qj];simp⟩;rw[Qj]at hx;simp only[qqv,qry,or_false]at hx;subst hx;exact⟨by simp[jr,Fits,Ex.args],by simp[jr,Fits,Ex.name]⟩
theorem Yj {s:Str}(hs:yW s=true)(hf:Fits s){l:List Rg}(hl:l.length<=128)(hr:∀ r∈l,qeZ r):Jg (jA s l):=by
 unfold jA;split
 . exact qa2 0
 . rename_i h0;have hpos:=qql.2 h0;have h1:=EOk.ins hs (l:=l.take 16) (qql.1 (by rw[qqD];omega)) (by rw[qqD];omega) (fun r h=>hr r (qq0 h));have h2:=EOk.chain hs (zZ 16 l.length (l.drop 16)) (h:=0) h1 (fun c hc=>by
    obtain⟨a,b,c'⟩:=Zh (by omega) _ _ c hc;exact⟨a,b,fun r h=>hr r (qru (c' r h))⟩)
   have h3:=YP (n:=16) (by omega) l.length (l.drop 16) 7 (by rw[qrq];omega);exact h2.tame hf (by omega) (by omega)
theorem qhd {vs:List Var}(hv:∀ v∈vs,jL v=0)(hf:∀ v∈vs,Fits v.name)(d:Dist):Jg (Jp vs d):=by
 unfold Jp;split
 . rename_i v h;have hm:=qp6 h;have h1:=qU (hv v hm);have h2:=Vb v d.weights;have h3:=JT h1.2.2;have h4:=YD (N:=(zi v:Nat)) h2.1 (fun x hx=>by have:=h2.2 x hx;omega) (by omega);exact Yj h1.1 (hf v hm) (by omega) h4.1
 . exact qa2 0
theorem Zm {p:Problem}(h:VQ p)(hv:qi p=0):∀ e∈zA p++p.soft,wS p.vars e=true/\Jg e:=by
 have hx:∀ e∈p.hard++p.soft,zg p.vars e=0:=by
  have:qR (zg p.vars) (p.hard++p.soft)=0:=by
   unfold qi at hv;split at hv
   . exact absurd hv (by assumption)
   . split at hv
     . rename_i h1;exact absurd hv h1
     . rename_i h1;exact qqN.1 h1
  exact zf.1 this
 intro e he;have hs:jW p=wm p:=if_pos hv;rw[zA,hs]at he;rcases qqo.1 he with he|he
 . rcases qqo.1 he with he|he
   . exact⟨decide_eq_true (hx e (qqH _ he)),h.exprs e (qqH _ he)⟩
   . obtain⟨d,hd,rfl⟩:=qqx.1 he;exact⟨decide_eq_true (qfr (zE hv) d),qhd (zE hv) h.names d⟩
 . exact⟨decide_eq_true (hx e (qq6 _ he)),h.exprs e (qq6 _ he)⟩
def Need0 (H:List Blk)(T:List (Option Nat))(r:AV)(U':St):Prop:=r=.sl 4 [] (.chain T.length 0)/\U'.T=T++[some 0]/\∃ u,U'.H=H++u
theorem qfO (p:Problem)(h:VQ p)(hd:p.dists.length<=10000)(h1:p.hard=[])(h2:jW p=[])(H:List Blk)(T:List (Option Nat)):qg Tryz.prog GG 57 [.agg (qJ p)] ⟨H,T⟩ (Need0 H T):=by
 refine qg.k qe Tryz.func57 rfl (by kernel_rfl) ?_;have hs:=Jh p h hd;rw[h2]at hs;have h00:IntKind.i64.wrap 0=0:=by decide
 simp only[qJ,h1]at hs;simp[-getElem?_pos,h1];refine qc.call hs (by simp) ?_;simp[-getElem?_pos,h00,h1,qw,yA,WG,zw,zX,kf,z7];exact⟨rfl,rfl,_,rfl⟩
noncomputable def wT (p:Problem):List Int×Int :=
 if qi p=0 then (if jJ p.vars (zA p)=true then ((wh p.vars (zA p) (JK p.soft)).reverse.map (·.1),0) else ([],11)) else ([],1)
theorem qlv (p:Problem)(h:VQ p)(hv:qi p≠0):Pure Tryz.prog GG 56 [.agg (qJ p)] (.tup [.sl 1 ((wT p).1.map qy) .none,.int .i64 (wT p).2]):=by
 have hr:wT p=([],1):=if_neg hv;rw[hr];refine Pure.kO o0 true qe Tryz.func56 rfl (by kernel_rfl) ?_;have hval:=j4 p h;simp only[qJ]at hval;simp[-getElem?_pos];refine qc.call hval (by simp) ?_;simp[-getElem?_pos,hv];rw[qt (by simp)];exact⟨by simp,by simp[Leq,zm]⟩
theorem qfY (p:Problem)(h:VQ p)(hv:qi p=0)(hv20:p.vars.length<=20)(hb:yB p.vars (qz p)<=18)(hd:p.dists.length<=10000)(hs:jJ p.vars (zA p)=false):Pure Tryz.prog GG 56 [.agg (qJ p)] (.tup [.sl 1 ((wT p).1.map qy) .none,.int .i64 (wT p).2]):=by
 have hr:wT p=([],11):=by unfold wT;rw[if_pos hv,hs,if_neg (by simp)]
 rw[hr];refine Pure.kO o0 true qe Tryz.func56 rfl (by kernel_rfl) ?_;have hval:=j4 p h;have hn:=YX p h hd;have hk:=Zm h hv;have hfn:Fits (zA p):=by
  have h1:=h.hard;have h2:(jW p).length<=10000:=by
   have:jW p=wm p:=if_pos hv;rw[this,wm,qqI];exact hd
  show (zA p).length<_;rw[zA,qqb];omega
 have hso:=QK p (zA p) h hv20 hb hfn (fun e he=>(hk e (qqH _ he)).2);have hsb:JD p (zA p)=false:=by
  unfold JD;rw[hs];simp
 rw[hsb]at hso;generalize zA p=N at *;simp only[qJ]at hval hn hso;simp[-getElem?_pos];refine qc.call hval (by simp) ?_;simp[-getElem?_pos,hv];refine qc.call hn (by simp) ?_;simp[-getElem?_pos];refine qc.call hso (by simp) ?_;simp[-getElem?_pos];rw[qt (by simp)];exact⟨by simp,by simp[Leq,zm]⟩
theorem qio {α:Type}{en:α->List AV}{sz:Nat}{R:List α}{tok:Tok}{n:Int}(hn:n=(R.length:Int))(h:R≠[]\/tok.known=true):zw (.sl sz (R.map en) tok) none (some (.int .i64 n)) (some (.int .i64 n))=some (.sl sz (R.map en) .tight):=by
 subst hn;have h2:(R.map en).take R.length=R.map en:=qqg (by simp);have h3:0<R.length\/tok.known=true:=h.imp qql.2 id;simp[zw,zX,kf,z7,vt,h2,h3]
theorem VE {R:List Ex}{X:Ex}{H:List Blk}{T:List (Option Nat)}(hR:R.length<1000000):qB (Dof Tryz.prog) ⟨H,T⟩ 23 (.sl 4 (R.map qs) .tight) (.sl 4 [qs X] .tight)=some (.sl 4 ((R++[X]).map qs) (.chain T.length 1),⟨H,T++[some 1]⟩):=by
 have h1:R.length+1<=549755813888:=by omega
 simp[qB,zp,h1]
theorem qed (l:List Ex):(JK l).length=l.length:=by simp[JK]
theorem qhV {l:List Ex}{k:Nat}{q:Int×Ex}(h:(JK l)[k]?=some q):k<l.length/\q.1=((l.length-1-k:Nat):Int)/\l[l.length-1-k]?=some q.2:=by
 unfold JK at h;have hk:=(qp5.1 h).1;simp at hk;rw[List.getElem?_reverse (by simpa using hk)]at h;simp only[qqI,List.length_zipIdx,qqp,qsj,qrX]at h
 cases hx:l[l.length-1-k]? with
 | none=>rw[hx]at h;simp at h
 | some x=>rw[hx]at h;simp at h;subst h;exact⟨hk,rfl,rfl⟩
theorem revset {d:List Int}{m:Nat}{v:Int}(h:d.length<m):(List.replicate (m-d.length) (0:Int)++d.reverse).set (m-1-d.length) v=List.replicate (m-(d.length+1)) 0++(d++[v]).reverse:=by
 have h1:List.replicate (m-d.length) (0:Int)=List.replicate (m-(d.length+1)) 0++[0]:=by
  rw[show m-d.length=(m-(d.length+1))+1 by omega,qsk]
 rw[h1,qqC,qrb _ _ (by simp;omega)];have h2:m-1-d.length-(List.replicate (m-(d.length+1)) (0:Int)).length=0:=by simp;omega
 rw[h2];simp
theorem JZ {H:List Blk}{n:Nat}{a r:AV}{k:IntKind}{z:Int}(h1:qC (frz H n a)=true)(h2:Leq (frz H n a) r)(h3:qC a=true->Leq a r) :
 qC (frz H (n+1) (.tup [a,.int k z]))=true/\Leq (frz H (n+1) (.tup [a,.int k z])) (.tup [r,.int k z]):=by
 by_cases hn:qC a=true
 . rw[qt (by simp[hn])];exact⟨by simp[hn],by simp[Leq,zm,h3 hn]⟩
 . have:frz H (n+1) (.tup [a,.int k z])=.tup [frz H n a,.int k z]:=by
    have h0:frz H n (.int k z)=.int k z:=qt rfl;rw[frz,if_neg (by simp[hn])];simp[h0]
   rw[this];exact⟨by simp[h1],by simp[Leq,zm,h2]⟩
def NeedU (p:Problem)(H:List Blk)(r:AV)(U':St):Prop:=∃ tok u T',r=.sl 4 ((zA p).map qs) tok/\(zA p≠[]\/tok.known=true)/\U'=⟨H++u,T'⟩
theorem qfN (p:Problem)(h:VQ p)(hd:p.dists.length<=10000)(H:List Blk)(T:List (Option Nat)):qg Tryz.prog GG 57 [.agg (qJ p)] ⟨H,T⟩ (NeedU p H):=by
 by_cases hN:zA p=[]
 . have h0:p.hard=[]/\jW p=[]:=(by rw[zA]at hN;simpa using hN);refine (qfO p h hd h0.1 h0.2 H T).imp ?_;rintro v ⟨H1,T1⟩ ⟨rfl,hT,u,hH⟩;simp only at hT hH;subst hH;exact⟨_,u,T1,by rw[hN];rfl,.inr rfl,rfl⟩
 . refine qg.call (YX p h hd) (by simp) ?_;exact⟨.none,[],T,rfl,.inl hN,by simp⟩
theorem qjV (p:Problem)(h:VQ p)(hv20:p.vars.length<=20)(hb:yB p.vars (qz p)<=18)(hd:p.dists.length<=10000)(hs5:p.soft.length<=10000) :
 Pure Tryz.prog GG 56 [.agg (qJ p)] (.tup [.sl 1 ((wT p).1.map qy) .none,.int .i64 (wT p).2]):=by
 by_cases hv:qi p=0
 case neg=>exact qlv p h hv
 by_cases hs:jJ p.vars (zA p)=true
 case neg=>exact qfY p h hv hv20 hb hd (by simpa using hs)
 have hr:wT p=((wh p.vars (zA p) (JK p.soft)).reverse.map (·.1),0):=by unfold wT;rw[if_pos hv,if_pos hs]
 rw[hr];dsimp only;obtain⟨RES,hRES⟩:∃ RES,RES=(wh p.vars (zA p) (JK p.soft)).reverse.map (·.1):=⟨_,rfl⟩;rw[<- hRES];refine Pure.kO o0 true qe Tryz.func56 rfl (by kernel_rfl) ?_;have hval:=j4 p h;have hn:=YX p h hd;have hk:=Zm h hv;have h1:=h.hard;have h2:(jW p).length<=10000:=by
  have:jW p=wm p:=if_pos hv;rw[this,wm,qqI];exact hd
 have hNl:(zA p).length<=20000:=by rw[zA,qqb];omega
 have hso:=fun l (hl:l.length<40000) (hx:∀ e∈l,wS p.vars e=true/\Jg e)=>QK p l h hv20 hb (by show l.length<_;omega) (fun e he=>(hx e he).2)
 have hsb:∀ l,(∀ e∈l,wS p.vars e=true/\Jg e)->JD p l=jJ p.vars l:=fun l hl=>by
  have:l.all (wS p.vars)=true:=qqi.2 fun e he=>(hl e he).1
  unfold JD;rw[this];simp[hv]
 have hne:=qfN p h hd [.cells (qJ p)] [];unfold NeedU at hne;have hso0:=hso (zA p) (by omega) (fun e he=>hk e (qqH _ he));rw[hsb _ (fun e he=>hk e (qqH _ he)),hs]at hso0;generalize zA p=N at *;generalize hL:JK p.soft=L at *;have hLl:L.length=p.soft.length:=by rw[<- hL,qed]
 simp only[qJ]at hval hn hso0 hne hso;simp[-getElem?_pos];refine qc.call hval (by simp) ?_;simp[-getElem?_pos,hv];refine qc.acall hne ?_;rintro v U ⟨tok,u,T,rfl,htok,rfl⟩;simp[-getElem?_pos];refine qc.pure hso0 (by cases tok<;>simp) (by cases tok<;>simp[zm,Leq,j6.refl]) ?_;have hsoft:(p.soft.length:Int)-1=(p.soft.length:Int)-1-(([]:List (Int×Ex)).length:Int):=by simp
 have hw1:=wr (n:=(p.soft.length:Int)-1) (by omega) (by omega);simp[-getElem?_pos,hw1];refine qL.listR L (fun d ev U=>ev 1=.ptr 0 0/\ev 6=.int .i64 ((p.soft.length:Int)-1-d.length)/\∃ R K tok u T,(∀ r,L=d++r->wh p.vars N L=K++wh p.vars R r)/\(∀ e∈R,wS p.vars e=true/\Jg e)/\R.length<=20000+d.length/\K.length<=d.length/\ev 4=.sl 4 (R.map qs) tok/\(R≠[]\/tok.known=true)/\KY 0 1 qy T (ev 5) (K.map (·.1))/\U=⟨.cells (qJ p)::u,T⟩) ?_ ?_ ?_
 . refine⟨by simp,by simp,N,[],tok,u,T,fun r hr=>by rw[hr];rfl,fun e he=>hk e (qqH _ he),by simpa using hNl,by simp,by simp,htok,by simpa using KY.nil,by simp⟩
 . rintro d x rest ev U R0 hR hdl hx hlt ⟨e1,e6,R,K,tok2,u2,T2,hkeep,hRk,hRl,hKl,e4,htok2,e5,rfl⟩;have hna:=qhV (l:=p.soft) (k:=d.length) (q:=x) (by rw[hL];exact hx);obtain⟨n1,n2,n3⟩:=hna;have e6':ev 6=.int .i64 ((p.soft.length-1-d.length:Nat):Int):=(by rw[e6];congr 1;omega);have hge:(0:Int)<=((p.soft.length-1-d.length:Nat):Int):=(by omega);have hsl:=qio (en:=qs) (sz:=4) (R:=R) (tok:=tok2) rfl htok2;have hxk:=hk x.2 (qq6 _ (qp6 n3));have hRk2:∀ e∈R++[x.2],wS p.vars e=true/\Jg e:=fun e he=>by
    rcases qqo.1 he with he|he
    . exact hRk e he
    . rw[qqy]at he;rw[he];exact hxk
   have hso2:=hso (R++[x.2]) (by rw[qqb,qqA];omega) hRk2;rw[hsb _ hRk2]at hso2;have hlt2:p.soft.length-1-d.length<p.soft.length:=(by omega);have hap:=fun H T=>VE (R:=R) (X:=x.2) (H:=H) (T:=T) (by omega)
   have ha:=yE x.2;have hl4:=zj x.2;have hnr:=nrEs (R++[x.2]);simp only[qqY,qqk,qqF]at hnr;have htk:(qs x.2).take 4=qs x.2:=qqg (by rw[hl4];exact qqf _);have hw2:=wr (n:=((p.soft.length-1-d.length:Nat):Int)-1) (by omega) (by omega);have hEx:x.1=((p.soft.length-1-d.length:Nat):Int):=n2;generalize hI:p.soft.length-1-d.length=I at *;obtain⟨v5,T5,hap5,h5,hT5⟩:=(e5.ext (T':=T2++[some 1]) (qta _ _)).append (m:=[x.1]) (D:=Dof Tryz.prog) (ty:=44) (tok:=.tight) (T0:=[]) (T:=T2++[some 1]) (List.nil_prefix) (D44) rfl (D3) rfl (by decide) (by rfl) (by decide) (by simp;omega) 1 (.inl rfl);simp only[qqk,qqF,qy]at hap5;simp[-getElem?_pos,-qK,e1,e4,e6',hge,hsl,n3,htk,ha,hl4,qk,qA,hap];refine qc.pure hso2 (by simp[hnr]) (by simp) ?_;have hIm:((I:Int)-1)=((p.soft.length:Int)-1-((d++[x]).length:Nat)):=(by rw[qqb,qqA];omega);have hwx:IntKind.i64.wrap (x.1-1)=(p.soft.length:Int)-1-((d.length:Int)+1):=(by rw[hEx,hw2,hIm,qqb,qqA];omega)
   cases hso3:jJ p.vars (R++[x.2]) with
   | true=>
    simp[-getElem?_pos,-qK,e6',qk,qA,hwx,<- hEx,hap5];refine hR _ _ ⟨by simp[e1],by simp,R++[x.2],K++[x],.chain T2.length 1,u2,T5,fun r hr=>?_,hRk2,by simp;omega,by simp;omega,by simp,.inl (by simp),by simpa using h5,rfl⟩;rw[hkeep (x::r) (by rw[hr];simp),wh,if_pos hso3];simp
   | false=>
    simp[-getElem?_pos,-qK,e6',hw2];refine hR _ _ ⟨by simp[e1],by simp[hIm],R,K,tok2,u2,T2++[some 1],fun r hr=>?_,hRk,by simp;omega,by simp;omega,by simp[e4],htok2,by simpa using e5.ext (qta _ _),rfl⟩;rw[hkeep (x::r) (by rw[hr];simp),wh,if_neg (by rw[hso3];simp)]
 . rintro ev U ⟨e1,e6,R,K,tok2,u2,T2,hkeep,hRk,hRl,hKl,e4,htok2,e5,rfl⟩;rw[hLl]at e6;have e6':ev 6=.int .i64 (-1):=(by rw[e6];congr 1;omega);have hK:=hkeep [] (by simp);rw[show wh p.vars R []=[] from rfl,qqP]at hK;rw[hK,List.map_reverse]at hRES;generalize hKI:K.map (·.1)=KI at *;have hKIl:KI.length<=10000:=(by rw[<- hKI,qqI];omega);subst hRES;rcases e5 with ⟨rfl,e5⟩|⟨hne,t,_,e5,_⟩
   . simp[-getElem?_pos,e6',e5,qw];refine qL.gen (fun m ev U=>ev 8=.sl 1 [] (.chain T2.length 0)/\ev 53=.int .i64 0/\ev 54=.int .i64 0) 0 ⟨by simp,by simp,by simp⟩ ?_;rintro m ev U R hR ⟨e8,e53,e54⟩;simp[-getElem?_pos,e8,e53,e54];have hf:∀ H,frz H 7 (.sl 1 [] (.chain T2.length 0))=.sl 1 [] .none:=fun H=>by rw[frz];simp[qC]
     exact JZ (by rw[hf];rfl) (by rw[hf];exact Leq.refl _) (by simp)
   . have hKn:¬ (KI.length:Int)=0:=(by have:=qql.2 hne;omega);have hKle:(KI.length:Int)<=549755813888:=(by omega);have hKp:=qql.2 hne;simp[-getElem?_pos,e6',e5,qw,hKle,hne];refine qL.listR KI (fun d ev U=>ev 8=.ms (u2.length+1) 0 KI.length 1/\ev 52=.sl 1 (KI.map qy) (.chain t KI.length)/\ev 53=.int .i64 KI.length/\ev 54=.int .i64 d.length/\∃ H T,U=⟨H,T⟩/\H[u2.length+1]?=some (.cells (zF (List.replicate (KI.length-d.length) 0++d.reverse)))) ?_ ?_ ?_
     . refine⟨by simp,by simp,by simp,by simp,_,_,rfl,?_⟩;simp[zF]
     . rintro d x rest ev U R hR hdl hx hlt ⟨e8,e52,e53,e54,H,T,rfl,hH⟩;have hdw:=wr (n:=(d.length:Int)+1) (by omega) (by omega);have hkw:=wr (n:=(KI.length:Int)-1) (by omega) (by omega);have hkw2:=wr (n:=(KI.length:Int)-1-d.length) (by omega) (by omega);have hI:((KI.length:Int)-1-d.length)=((KI.length-1-d.length:Nat):Int):=(by omega);have hlen:(zF (List.replicate (KI.length-d.length) 0++d.reverse)).length=KI.length:=(by rw[qY];simp;omega);have hlt3:KI.length-1-d.length<KI.length:=(by omega);have hlt4:KI.length-1-d.length+1<=KI.length:=(by omega);have hset:=yD (a:=List.replicate (KI.length-d.length) 0++d.reverse) (i:=KI.length-1-d.length) (x:=x);have hHl:=(qp5.1 hH).1;rw[revset hlt]at hset;rw[hI]at hkw2;generalize hJ:KI.length-1-d.length=J at *;simp[-getElem?_pos,e8,e52,e53,e54,hlt,hx,hkw,hI,hkw2,hH,hlen,hlt3,hlt4,hset,hdw];exact hR _ _ ⟨by simp[e8],by simp[e52],by simp[e53],by simp,_,_,rfl,by rw[qqb,qqA,qsE];exact qqa hHl⟩
     . rintro ev U ⟨e8,e52,e53,e54,H,T,rfl,hH⟩;rw[qrl,qs6,qqw]at hH;simp[-getElem?_pos,e8,e53,e54];have hne2:KI.reverse≠[]:=(by simpa using hne);have ho:jw (u2.length+1) 1 qy H (.ms (u2.length+1) 0 KI.length 1) KI.reverse:=.inr ⟨hne2,by simp,by rw[hH,kw]⟩;have f1:=ho.frz (fun x=>by simp) (fun x=>by simp) (fun x=>by simp) 6;have f2:=ho.frzNo (fun x=>by simp) (fun x=>by simp) (fun x=>by simp) 6;rw[List.map_reverse]at f1;exact JZ f2 f1 (by simp)
def vm (vs:List Var)(q:List Int×Int)(i:Int):List Int×Int:=(q.1.set i.toNat q.2,q.2+zK vs i.toNat)
def wg (vs:List Var)(l:List Int):List Int×Int:=l.foldl (vm vs) (List.replicate vs.length (-1),0)
def qT (p:Problem):List Int:=(wg p.vars p.groups.flatten).1
theorem WF (vs:List Var)(l:List Int)(i:Int):wg vs (l++[i])=vm vs (wg vs l) i:=by simp[wg,qrj]
theorem Zp (vs:List Var):∀ l:List Int,(wg vs l).1.length=vs.length:=by
 intro l;have:∀ (l:List Int) (q:List Int×Int),(l.foldl (vm vs) q).1.length=q.1.length:=by
  intro l
  induction l with
  | nil=>intro q;rfl
  | cons a r ih=>intro q;rw[qqV,ih];simp[vm]
 unfold wg;rw[this];simp
theorem j8 {p:Problem}(h:qi p=0):jT p.vars p.groups:=by
 have hd:zG p.vars p.groups=0:=by
  unfold qi at h;split at h
  . exact absurd h (by assumption)
  . split at h
    . rename_i h1;exact absurd h h1
    . split at h
      . rename_i h1;exact absurd h h1
      . exact h
 unfold zG at hd;split at hd
 . assumption
 . cases hd
theorem YE {vs:List Var}{i:Int}(h:yq vs i=true):∃ (n:Nat) (v:Var),i=n/\vs[n]?=some v/\v.mode≠0:=by
 simp only[yq,qp9,decide_eq_true_eq]at h;obtain⟨j,hj⟩:=qqM h.1;have h2:=h.2;rw[hj]at h2;simp only[qq7]at h2
 cases hv:vs[j]? with
 | none=>rw[hv]at h2;simp at h2
 | some v=>rw[hv]at h2;exact⟨j,v,hj,hv,by simpa using h2⟩
theorem qfT {vs:List Var}(hw:∀ v∈vs,0<=v.width/\v.width<=8):∀ l:List Int,0<=(wg vs l).2/\(wg vs l).2<=8*l.length:=by
 intro l;have:∀ (l:List Int) (q:List Int×Int),0<=q.2->0<=(l.foldl (vm vs) q).2/\(l.foldl (vm vs) q).2<=q.2+8*l.length:=by
  intro l
  induction l with
  | nil=>intro q h;simp[h]
  | cons a r ih=>
   intro q h;have hwa:0<=zK vs a.toNat/\zK vs a.toNat<=8:=by
    unfold zK;split
    . rename_i v hv;exact hw v (qp6 hv)
    . omega
   have:=ih (vm vs q a) (by simp only[vm];omega);rw[qqV];simp only[vm,qqm]at this ⊢;omega
 have:=this l (List.replicate vs.length (-1),0) (qty _);simpa[wg] using this
theorem YW:∀ (n:Nat) (l:List Int),l.Nodup->(∀ x∈l,0<=x/\x<n)->l.length<=n
 | 0,l,_,h=>by
  cases l with
  | nil=>simp
  | cons a r=>have:=h a (by simp);omega
 | n+1,l,hn,h=>by
  by_cases hm:(n:Int)∈l
  . have h1:=YW n (l.erase (n:Int)) (hn.erase _) fun x hx=>by
     have h2:=(hn.mem_erase_iff).1 hx;have:=h x h2.2;omega
    rw[qsR hm]at h1;omega
  . have h1:=YW n l hn fun x hx=>by
     have:=h x hx;have h2:x≠(n:Int):=fun e=>hm (e▸hx)
     omega
    omega
theorem WI {p:Problem}(h:qi p=0):p.groups.flatten.length<=p.vars.length:=YW _ _ (j8 h).2.2.1 fun i hi=>by
 obtain⟨n,v,rfl,hn,_⟩:=YE ((j8 h).2.1 i hi);have:=(qp5.1 hn).1;omega
theorem qb1 (p:Problem)(h:VQ p)(hv:qi p=0):Pure Tryz.prog GG 90 [.agg (qJ p)] (.sl 1 ((qT p).map qy) .none):=by
 refine Pure.kO o0 true qe Tryz.func90 rfl (by kernel_rfl) ?_;have hval:=j4 p h;have hg:=j8 hv;have hvars:=h.vars;have hw:∀ v∈p.vars,0<=v.width/\v.width<=8:=fun v hm=>by have:=qU (zE hv v hm);omega
 obtain⟨LV,hLV⟩:∃ LV,LV=qT p:=⟨_,rfl⟩;rw[<- hLV];simp only[qJ]at hval;simp[-getElem?_pos];refine qc.call hval (by simp) ?_;by_cases hv0:p.vars=[]
 . have hg0:p.groups=[]:=by
    apply qs0.2;intro g hgm;have h1:=hg.1 g hgm;obtain⟨i,hi⟩:=qsI g h1;have:=hg.2.1 i (qre.2 ⟨g,hgm,hi⟩);obtain⟨n,v,_,hn,_⟩:=YE this;rw[hv0]at hn;simp at hn
   have hL0:LV=[]:=(by rw[hLV,qT,hg0,hv0];rfl);subst hL0;simp[-getElem?_pos,hv,hv0,hg0,qw];refine qL.gen (fun m ev U=>ev 1=.ptr 0 0/\ev 3=.sl 1 [] (.chain 0 0)/\ev 18=.int .i64 0/\ev 19=.int .i64 0/\∃ u T,U=⟨.cells (qJ p)::u,T⟩) 0 ⟨by simp,by simp,by simp,by simp,_,_,by simp[hv0,hg0];exact⟨rfl,rfl⟩⟩ ?_;rintro m ev U R hR ⟨e1,e3,e18,e19,u,T,rfl⟩;simp[-getElem?_pos,e1,e18,e19,hg0];refine qL.gen (fun m ev U=>ev 3=.sl 1 [] (.chain 0 0)/\ev 28=.int .i64 0/\ev 29=.int .i64 0) 0 ⟨by simp[e3],by simp,by simp⟩ ?_;rintro m ev U R hR ⟨e3,e28,e29⟩;simp[-getElem?_pos,e3,e28,e29];have hf:∀ H,frz H 8 (.sl 1 [] (.chain 0 0))=.sl 1 [] .none:=fun H=>by rw[frz];simp[qC]
   rw[hf];exact⟨rfl,Leq.refl _⟩
 . have hpos:=qql.2 hv0;have hne:¬ (p.vars.length:Int)=0:=(by omega);have hle:(p.vars.length:Int)<=549755813888:=(by omega);simp[-getElem?_pos,hv,hv0,hle,qw];have hnd:=hg.2.2.1;have hfl:p.groups.flatten.length<=1000:=qq9 (WI hv) hvars;have hgl:=h.groups;have hgf:=h.group;refine kx p.vars.length (fun i ev U=>ev 1=.ptr 0 0/\ev 3=.ms 1 0 p.vars.length 1/\ev 18=.int .i64 p.vars.length/\ev 19=.int .i64 (i:Int)/\U=⟨[.cells (qJ p),.cells (zF (List.replicate i (-1)++List.replicate (p.vars.length-i) 0))],[]⟩) ?_ ?_ ?_
   . refine⟨by simp,by simp,by simp,by simp,?_⟩;simp[zF]
   . rintro i ev U R hR hi ⟨e1,e3,e18,e19,rfl⟩;have hw1:=wr (n:=(i:Int)+1) (by omega) (by omega);have hi':(i:Int)<p.vars.length:=(by omega);have hi1:i+1<=p.vars.length:=hi;have hll:(zF (List.replicate i (-1)++List.replicate (p.vars.length-i) 0)).length=p.vars.length:=(by rw[qY];simp;omega);have hset:(zF (List.replicate i (-1)++List.replicate (p.vars.length-i) 0)).set i (.int .i64 (-1))=zF (List.replicate (i+1) (-1)++List.replicate (p.vars.length-(i+1)) 0):=by
      rw[yD,qrb _ _ (by simp)];have:p.vars.length-i=(p.vars.length-(i+1))+1:=by omega
      rw[this,qrr];simp[qsk]
     simp[-getElem?_pos,e3,e18,e19,hi',hi1,hll,hset,hw1];exact hR _ _ ⟨by simp[e1],by simp[e3],by simp[e18],by simp,rfl⟩
   . rintro ev U ⟨e1,e3,e18,e19,rfl⟩;rw[qrl,qs6,qqP];have hL0:(wg p.vars []).1=List.replicate p.vars.length (-1):=rfl;rw[<- hL0];simp[-getElem?_pos,e1,e18,e19];refine qL.listR p.groups (fun dn ev U=>ev 1=.ptr 0 0/\ev 3=.ms 1 0 p.vars.length 1/\ev 5=.int .i64 (wg p.vars dn.flatten).2/\ev 27=.sl 1 (p.groups.map zc) .none/\ev 28=.int .i64 p.groups.length/\ev 29=.int .i64 dn.length/\U=⟨[.cells (qJ p),.cells (zF (wg p.vars dn.flatten).1)],[]⟩) ?_ ?_ ?_
     . exact⟨by simp[e1],by simp[e3],by simp[wg],by simp,by simp,by simp,rfl⟩
     . rintro dn g rest ev U R hR hd hx hlt ⟨e1,e3,e5,e27,e28,e29,rfl⟩;have hdw:=wr (n:=(dn.length:Int)+1) (by omega) (by omega);have hlt':(dn.length:Int)<p.groups.length:=(by omega);have hgm:=qp6 hx;have hgfit:=hgf g hgm;simp[-getElem?_pos,e27,e28,e29,hlt',hx];refine qL.listR g (fun dg ev U=>ev 1=.ptr 0 0/\ev 3=.ms 1 0 p.vars.length 1/\ev 5=.int .i64 (wg p.vars (dn.flatten++dg)).2/\ev 27=.sl 1 (p.groups.map zc) .none/\ev 28=.int .i64 p.groups.length/\ev 29=.int .i64 dn.length/\ev 33=.sl 1 (g.map qy) .none/\ev 34=.int .i64 g.length/\ev 35=.int .i64 dg.length/\U=⟨[.cells (qJ p),.cells (zF (wg p.vars (dn.flatten++dg)).1)],[]⟩) ?_ ?_ ?_
       . exact⟨by simp[e1],by simp[e3],by simp[e5],by simp[e27],by simp[e28],by simp[e29],by simp,by simp,by simp,by simp⟩
       . rintro dg v rest2 ev U R2 hR2 hd2 hx2 hlt2 ⟨e1,e3,e5,e27,e28,e29,e33,e34,e35,rfl⟩;have hm:v∈p.groups.flatten:=qre.2 ⟨g,hgm,qp6 hx2⟩;obtain⟨n,vr,rfl,hn,_⟩:=YE (hg.2.1 v hm);have hnl:=(qp5.1 hn).1;have hdw2:=wr (n:=(dg.length:Int)+1) (by unfold Fits at hgfit;omega) (by unfold Fits at hgfit;omega);have hlt2':(dg.length:Int)<g.length:=(by omega);have hwv:=hw vr (qp6 hn);have hpre:(dn.flatten++dg).length<=1000:=by
          have:(dn.flatten++dg).length<=p.groups.flatten.length:=by
           rw[hd,hd2];simp
          omega
         have hnx:=qfT hw (dn.flatten++dg);have hww:=wr (n:=(wg p.vars (dn.flatten++dg)).2+vr.width) (by omega) (by omega);have hs:=WF p.vars (dn.flatten++dg) (n:Int);have hln:=Zp p.vars (dn.flatten++dg);have hwa:zK p.vars n=vr.width:=(by simp[zK,hn]);simp only[vm,qq7,hwa]at hs;rw[qqC]at hs;generalize hQ:wg p.vars (dn.flatten++dg)=q at *;obtain⟨L,nx⟩:=q;simp only at *;have hll:(zF L).length=p.vars.length:=(by rw[qY,hln]);have hn1:n+1<=p.vars.length:=hnl;have hn0:(n:Int)<p.vars.length:=(by omega);simp[-getElem?_pos,e1,e3,e5,e33,e34,e35,hlt2',hx2,hll,hn1,hn0,hn,yD,hww,hdw2];exact hR2 _ _ ⟨by simp[e1],by simp[e3],by simp[hs],by simp[e27],by simp[e28],by simp[e29],by simp[e33],by simp[e34],by simp,by simp[hs]⟩
       . rintro ev U ⟨e1,e3,e5,e27,e28,e29,e33,e34,e35,rfl⟩;simp[-getElem?_pos,e29,e34,e35,hdw];exact hR _ _ ⟨by simp[e1],by simp[e3],by simp[e5],by simp[e27],by simp[e28],by simp,by simp⟩
     . rintro ev U ⟨e1,e3,e5,e27,e28,e29,rfl⟩;have hLL:(wg p.vars p.groups.flatten).1=LV:=hLV.symm;have hln:=Zp p.vars p.groups.flatten;rw[hLL]at hln ⊢;simp[-getElem?_pos,e3,e28,e29];have hne2:LV≠[]:=fun e=>by rw[e]at hln;simp at hln;omega
       have ho:jw 1 1 qy [.cells (qJ p),.cells (zF LV)] (.ms 1 0 p.vars.length 1) LV:=.inr ⟨hne2,by rw[hln],by rw[kw];rfl⟩;exact⟨ho.frzNo (fun x=>by simp) (fun x=>by simp) (fun x=>by simp) 7,ho.frz (fun x=>by simp) (fun x=>by simp) (fun x=>by simp) 7⟩
theorem j7 {p:Problem}(h:qi p=0):(p.vars.map (·.name)).Nodup:=by
 have hv:z8 p.vars=0:=by
  unfold qi at h;split at h
  . exact absurd h (by assumption)
  . rename_i h1;exact qqN.1 h1
 have hd:qny p.vars=false:=by
  unfold z8 at hv;split at hv
  . cases hv
  . split at hv
    . rename_i h1;exact absurd hv h1
    . split at hv
      . cases hv
      . rename_i h1;simpa using h1
 unfold qny at hd;rw[qrf]at hd;refine qrV.2 fun i j hi hj hij e=>?_
 simp only[qqI]at hi hj;rw[qrA,qrA]at e;have:=hd j (qqT.2 hj);unfold vY at this;rw[qp8 hj]at this;simp only[vC,qqr]at this;exact this ⟨p.vars[i],by rw[qth];exact⟨i,by omega,rfl⟩,by simpa using e⟩
theorem qar {vs:List Var}{m:Nat}{U:St}(hm:U.H[m]?=some (vg vs))(hn:(vs.map (·.name)).Nodup){i:Nat}{v:Var}(hv:vs[i]?=some v):zx (Dof Tryz.prog) U 214 (.map m) (.str v.name) true=some (.tup [.int .i64 (i:Int),.bool true]):=by
 have:=qdt hn hv 0;unfold vg at hm;generalize (vG vs).map Jq=E at *;simp[zx,hm,zC,this]
theorem qoa (p:Problem)(e:Ex)(hn:(p.vars.map (·.name)).Nodup)(hk:zg p.vars e=0)(ht:Jg e){H:List Blk}{M:Nat}(hM:H[M]?=some (vg p.vars))(T:List (Option Nat)) :
 qg Tryz.prog GG 227 [.map M,.agg (qs e)] ⟨H,T⟩ (fun r U'=>r=.int .i64 0/\KpL [] H U'.H):=by
 refine qg.k qe Tryz.func227 rfl (by kernel_rfl) ?_;have ha:=Qa e ht.1 ht.2.2;have hna:=Zn e ht.1 ht.2.2;have he:zk e=0/\ZE e=false/\QQ p.vars e=false:=by
  unfold zg at hk;split at hk
  . rename_i h;exact absurd hk h
  . rename_i h;split at hk
    . cases hk
    . split at hk
      . cases hk
      . rename_i h2 h3;exact⟨qqN.1 h,by simpa using h2,by simpa using h3⟩
 have h0:zJ [3,24] e=[]:=by
  have:=Qq (e:=e);rw[he.2.1]at this
  cases hl:zJ [3,24] e with
  | nil=>rfl
  | cons a r=>rw[hl]at this;simp at this
 have hall:∀ s∈zJ [2] e,∃ (i:Nat) (v:Var),p.vars[i]?=some v/\v.name=s:=fun s hs=>by
  have:=Qn (l:=p.vars) (e:=e);rw[he.2.2,qrf]at this;have h1:=this s hs;simp only[qrH,Bool.not_eq_false,vC,qqr]at h1;obtain⟨v,hv,hvn⟩:=h1;obtain⟨i,hi⟩:=qqJ hv;exact⟨i,v,hi,by simpa using hvn⟩
 have hfit:(zJ [2] e).length<=100000:=YY ht.2.2;rw[h0]at ha;have henc:=qd e;rw[henc]at ha hna ⊢;generalize zJ [2] e=N at *;simp[-getElem?_pos];refine qc.call ha (by simp) ?_;simp[-getElem?_pos];refine qc.call hna (by simp) ?_;simp[-getElem?_pos];refine qL.listR N (fun d ev U=>ev 0=.map M/\ev 14=.sl 1 (N.map ja) .none/\ev 15=.int .i64 N.length/\ev 16=.int .i64 d.length/\KpL [] H U.H) ?_ ?_ ?_
 . exact⟨by simp,by simp,by simp,by simp,KpL.app⟩
 . rintro d s rest ev ⟨H1,T1⟩ R hR hd hx hlt ⟨e0,e14,e15,e16,hkp⟩;dsimp only at hkp;obtain⟨i,v,hi,hvn⟩:=hall s (qp6 hx);have hl:=qar (U:=⟨H1,T1⟩) (hkp.2 _ _ hM (by simp)) hn hi;rw[hvn]at hl;have hdw:=wr (n:=(d.length:Int)+1) (by omega) (by omega);have hlt':(d.length:Int)<N.length:=(by omega);simp[-getElem?_pos,e0,e14,e15,e16,hlt,hlt',hx,hl,hdw];exact hR _ _ ⟨by simp[e0],by simp[e14],by simp[e15],by simp,hkp⟩
 . rintro ev ⟨H1,T1⟩ ⟨e0,e14,e15,e16,hkp⟩;simp[-getElem?_pos,e15,e16];exact hkp
def qk2:List (Nat×Sch×List Nat):=[(7,.step 0 [7,3,2,1] (.step 1 [7,3,2] (.step 2 [7,3] (.step 3 [7] (.step 4 [7,5] (.step 5 [7] (.step 6 [7] (.step 7 [] (.done)))))))),[]),(9,.step 0 [8,7] (.step 1 [8,7,6,4,3,2] (.step 2 [8,7,6,4,3] (.step 3 [8,7,6,4] (.step 4 [8,7,6] (.step 5 [8,7,6] (.step 6 [8,7] (.step 7 [8] (.step 8 [] (.done))))))))),[6])]
def BldQ (d:List Nd)(p:Problem)(H:List Blk)(r:AV)(U':St):Prop :=
 ∃ B M,r=.tup [.ptr B 0,.int .i64 0]/\H.length<=B/\H.length<=M/\M≠B/\KpL [] H U'.H/\U'.H[B]?=some (.cells (.sl 3 (d.map qH) .none::(qJ p++[.sl 1 ((qT p).map qy) .none,.map M])))/\U'.H[M]?=some (vg p.vars)
theorem qfh {vs:List Var}{i:Nat}{v:Var}(hv:vs[i]?=some v):vG (vs.take (i+1))=vG (vs.take i)++[(v.name,.int .i64 (i:Int),i)]:=by
 have hl:=(qp5.1 hv).1;unfold vG;rw[qqE,hv];simp[qr7,qsc (qtK hl)]
theorem qke {vs:List Var}(hn:(vs.map (·.name)).Nodup){i:Nat}{v:Var}(hv:vs[i]?=some v)(k:Nat):jD (.str v.name) ((vG (vs.take i)).map Jq) k=some none:=by
 have hl:=(qp5.1 hv).1;rcases Q6 (s:=v.name) (vG (vs.take i)) k with ⟨h1,_⟩|⟨j,q,h1,h2,_⟩
 . exact h1
 . exfalso;obtain⟨w,hw,rfl⟩:=qdu h1;rw[qqR]at hw;split at hw
   . rename_i hj;obtain⟨hj1,hj2⟩:=qp5.1 hw;obtain⟨_,hi2⟩:=qp5.1 hv;have hp:=qrV.1 hn;have h2:w.name=v.name:=h2;exact hp j i (by simpa using hj1) (by simpa using hl) hj (by rw[qrA,qrA,hj2,hi2,h2])
   . cases hw
theorem qks (d:List Nd)(hd:DagOk d)(p:Problem)(h:VQ p)(hv:qi p=0)(e:Ex)(hk:zg p.vars e=0)(ht:Jg e)(H:List Blk)(T:List (Option Nat)) :
 qg Tryz.prog GG 174 [.agg (zT d),.agg (qJ p),.agg (qs e)] ⟨H,T⟩ (BldQ d p H):=by
 refine qg.kO ⟨false,qk2,[],[]⟩ qe Tryz.func174 rfl (by kernel_rfl) ?_;have hdv:=qbO d hd;have hpv:=j4 p h;have hev:=Yh e ht.1 (by have:=ht.2.1;omega);have hlv:=qb1 p h hv;have hn:=j7 hv;have he:zk e=0:=by
  unfold zg at hk;split at hk
  . rename_i h;exact absurd hk h
  . rename_i h;exact qqN.1 h
 have hvl:=h.vars;have huse:=fun H M (hM:H[M]?=some (vg p.vars)) T=>qoa p e hn hk ht hM T
 rw[hv]at hpv;rw[he]at hev;generalize hLV:qT p=LV at *;rw[qd e]at hev huse ⊢;simp only[zT]at hdv;simp only[qJ]at hpv hlv;simp[-getElem?_pos];refine qc.call hdv (by simp) ?_;simp[-getElem?_pos,unA];refine qc.call hpv (by simp) ?_;simp[-getElem?_pos];refine qc.call hev (by simp) ?_;simp[-getElem?_pos];rw[QP (by rfl)];simp[-getElem?_pos];refine qc.call hlv (by simp) ?_;simp[-getElem?_pos,qV,zu,qv];refine qL.listR p.vars (fun dn ev U=>ev 4=.ptr (H.length+1) 0/\ev 5=.ptr (H.length+2) 0/\ev 8=.ptr (H.length+4) 0/\ev 32=.sl 4 (p.vars.map qo) .none/\ev 33=.int .i64 p.vars.length/\ev 34=.int .i64 dn.length /\
  KpL [] H U.H/\U.H[H.length+1]?=some (.cells (qJ p))/\U.H[H.length+2]?=some (.cells [.int .i64 e.op,.int .i64 e.n,.str e.name,.sl 4 (e.args.map qs) .none])/\U.H[H.length+3]?=some (.map ((vG (p.vars.take dn.length)).map Jq) dn.length) /\
  U.H[H.length+4]?=some (.cells (.sl 3 (d.map qH) .none::(qJ p++[.sl 1 (LV.map qy) .none,.map (H.length+3)])))) ?_ ?_ ?_
 . refine⟨by simp,by simp,by simp,by simp,by simp,by simp,KpL.app,?_,?_,?_,?_⟩
   . exact lk1
   . exact lk2
   . exact lk3
   . exact lk4
 . rintro dn v rest ev ⟨H1,T1⟩ R hR hd hx hlt ⟨e4,e5,e8,e32,e33,e34,hkp,bP,bE,bM,bB⟩;dsimp only at hkp bP bE bM bB;have hdw:=wr (n:=(dn.length:Int)+1) (by omega) (by omega);have hlt':(dn.length:Int)<p.vars.length:=(by omega);have hf:=qke hn hx 0;have ht1:=qfh hx;have hMl:=(qp5.1 bM).1;have hup:∀ (u:List Blk) (T:List (Option Nat)),za (Dof Tryz.prog) ⟨H1++u,T⟩ 214 (.map (H.length+3)) (.str v.name) (.int .i64 (dn.length:Int))=some ⟨H1.set (H.length+3) (.map ((vG (p.vars.take (dn.length+1))).map Jq) (dn.length+1))++u,T⟩:=fun u T=>by
    rw[ht1,qqY];generalize (vG (p.vars.take dn.length)).map Jq=E at *;simp[za,qa bM,zC,hf,yO bM,Jq]
   generalize hE2:(vG (p.vars.take (dn.length+1))).map Jq=E2 at *;simp only[qJ,qqB,qqw]at bB;simp[-getElem?_pos,e4,e5,e8,e32,e33,e34,hlt,hlt',hx];rw[qG rfl];simp[-getElem?_pos,qM,e4,e5,e8,e32,e33,e34,qa bB,hup,hdw];refine hR _ _ ⟨by simp[e4],by simp[e5],by simp[e8],by simp[e32],by simp[e33],by simp,(hkp.setF (by omega)).trans KpL.app,qa (by rw[qp7 (by omega)];exact bP) _,qa (by rw[qp7 (by omega)];exact bE) _,?_,qa (by rw[qp7 (by omega)];exact bB) _⟩;rw[qqb,qqA,hE2];exact qa (qqa hMl) _
 . rintro ev ⟨H1,T1⟩ ⟨e4,e5,e8,e32,e33,e34,hkp,bP,bE,bM,bB⟩;dsimp only at hkp bP bE bM bB;rw[qr5]at bM;have bM':H1[H.length+3]?=some (vg p.vars):=bM;have bB':=bB;simp only[qJ,qqB,qqw]at bB;simp[-getElem?_pos,e4,e5,e8,e32,e33,e34];rw[qG rfl];simp[-getElem?_pos,qM,e4,e5,e8,e32,e33,e34,bB,bE];refine qc.acall (huse H1 (H.length+3) bM' T1) ?_;rintro v ⟨H2,T2⟩ ⟨rfl,hk2⟩;dsimp only at hk2;simp[-getElem?_pos,qM,e8];exact⟨H.length+4,H.length+3,rfl,by omega,by omega,by omega,hkp.trans hk2,by rw[hLV];exact hk2.2 _ _ bB' (by simp),hk2.2 _ _ bM' (by simp)⟩
def yN (vs:List Var)(l:List Int):Int:=(l.map fun i=>zK vs i.toNat).sum
theorem We (vs:List Var)(l:List Int)(i:Int):yN vs (l++[i])=yN vs l+zK vs i.toNat:=by simp[yN]
theorem ZK {vs:List Var}(hw:∀ v∈vs,0<=v.width)(n:Nat):0<=zK vs n:=by
 unfold zK;split
 . rename_i v hv;exact hw v (qp6 hv)
 . omega
theorem JS {vs:List Var}(hw:∀ v∈vs,0<=v.width):∀ l:List Int,0<=yN vs l
 | []=>by simp[yN]
 | a::r=>by
  have:=JS hw r;have:=ZK hw a.toNat;simp only[yN,qqk,qss]at *;omega
theorem qaA (vs:List Var)(l m:List Int):yN vs (l++m)=yN vs l+yN vs m:=by simp[yN]
theorem Wd {vs:List Var}(hw:∀ v∈vs,0<=v.width)(l:List Int)(k:Nat):yN vs (l.take k)<=yN vs l:=by
 have h1:=qaA vs (l.take k) (l.drop k);rw[qqQ]at h1;have:=JS hw (l.drop k);omega
theorem qek {vs:List Var}{l:List Int}(hl:∀ i∈l,∃ n:Nat,i=n/\n<vs.length)(hnd:l.Nodup):∀ m,m<=l.length->(wg vs (l.take m)).2=yN vs (l.take m)/\∀ k (i:Int),k<m->l[k]?=some i->(wg vs (l.take m)).1[i.toNat]?=some (yN vs (l.take k))
 | 0,_=>⟨by simp[wg,yN],fun k i h=>by omega⟩
 | m+1,hm=>by
  obtain⟨ih1,ih2⟩:=qek hl hnd m (by omega);obtain⟨j,hj⟩:∃ j,l[m]?=some j:=⟨_,qp8 (by omega)⟩;have ht:l.take (m+1)=l.take m++[j]:=by rw[qqE,hj];rfl
  obtain⟨n,rfl,hn⟩:=hl j (qp6 hj);have hlen:=Zp vs (l.take m);rw[ht,WF,We];refine⟨by simp only[vm,ih1],fun k i hk hi=>?_⟩;simp only[vm,qq7];by_cases hkm:k=m
  . subst hkm;rw[hj]at hi;cases hi;rw[qq7,qqa (by omega),ih1]
  . obtain⟨n2,rfl,hn2⟩:=hl i (qp6 hi);have hne:n≠n2:=by
     rintro rfl;have hp:=qrV.1 hnd;obtain⟨a1,a2⟩:=qp5.1 hj;obtain⟨b1,b2⟩:=qp5.1 hi;exact hp k m b1 a1 (by omega) (by rw[a2,b2])
    rw[qq7,qp7 hne];exact ih2 k _ (by omega) hi
theorem qay {f:Int->Int}:∀ {l:List Int} {a:Int},a∈l->((l.erase a).map f).sum+f a=(l.map f).sum
 | x::r,a,h=>by
  rw[List.erase_cons];split
  . rename_i hx;have:x=a:=by simpa using hx
    subst this;simp;omega
  . rename_i hx;have hx:¬ x=a:=(by simpa using hx);have h2:a∈r:=(qqv.1 h).resolve_left (Ne.symm hx);have:=qay (f:=f) h2;simp;omega
theorem qcj {f:Int->Int}(hf:∀ i,0<=f i):∀ (n:Nat) (l:List Int),l.Nodup->(∀ x∈l,0<=x/\x<n)->(l.map f).sum<=((List.range n).map fun k:Nat=>f k).sum
 | 0,l,_,h=>by
  cases l with
  | nil=>simp
  | cons a r=>have:=h a (by simp);omega
 | n+1,l,hn,h=>by
  rw[qrE,qqY,List.sum_append];simp only[qqk,qqF,qss,qtL];by_cases hm:(n:Int)∈l
  . have h1:=qcj hf n (l.erase (n:Int)) (hn.erase _) fun x hx=>by
     have h2:=(hn.mem_erase_iff).1 hx;have:=h x h2.2;omega
    have:=qay (f:=f) hm;omega
  . have h1:=qcj hf n l hn fun x hx=>by
     have:=h x hx;have h2:x≠(n:Int):=fun e=>hm (e▸hx)
     omega
    have:=hf n;omega
def qoq (vs:List Var)(i:Int):Int:=if yq vs i=true then zK vs i.toNat else 0
theorem qjs:∀ (vs:List Var),((List.range vs.length).map fun k:Nat=>qoq vs k).sum=yg vs:=by
 have gen:∀ (vs pre:List Var),((List.range' pre.length vs.length).map fun k:Nat=>qoq (pre++vs) k).sum=yg vs:=by
  intro vs
  induction vs with
  | nil=>intro pre;rfl
  | cons v r ih=>
   intro pre;have:=ih (pre++[v]);rw[qqC,qsa,qqb,qqA]at this;rw[qqm,qrx,qqk,qss,this];simp only[yg];congr 1;have h1:(pre++v::r)[pre.length]?=some v:=(by rw[qqd (qqf _),qrl];rfl);simp only[qoq,yq,zK,qq7,h1];by_cases hm:v.mode=0<;>simp[hm]
 intro vs;have:=gen vs []
 rwa[qqK,<- qrv,qqw]at this
theorem qfk {p:Problem}(h:qi p=0):yg p.vars<=20:=by
 have hv:z8 p.vars=0:=by
  unfold qi at h;split at h
  . exact absurd h (by assumption)
  . rename_i h1;exact qqN.1 h1
 unfold z8 at hv;split at hv
 . cases hv
 . split at hv
   . rename_i h1;exact absurd hv h1
   . split at hv
     . cases hv
     . split at hv
       . cases hv
       . split at hv
         . cases hv
         . omega
theorem J1 {p:Problem}(h:qi p=0):∀ i∈p.groups.flatten,∃ n:Nat,i=n/\n<p.vars.length:=fun i hi=>by
 obtain⟨n,v,rfl,hn,_⟩:=YE ((j8 h).2.1 i hi);exact⟨n,rfl,(qp5.1 hn).1⟩
theorem Qc {p:Problem}(h:qi p=0):∀ v∈p.vars,0<=v.width:=fun v hm=>by have:=qU (zE h v hm);omega
theorem Kj {p:Problem}(h:qi p=0):yN p.vars p.groups.flatten<=20:=by
 have h1:=qcj (f:=qoq p.vars) (fun i=>by unfold qoq;split;exact ZK (Qc h) _;omega) p.vars.length p.groups.flatten (j8 h).2.2.1 (fun i hi=>by
  obtain⟨n,rfl,hn⟩:=J1 h i hi;omega)
 rw[qjs]at h1;have h2:=qfk h;have h3:(p.groups.flatten.map (qoq p.vars)).sum=yN p.vars p.groups.flatten:=by
  unfold yN;congr 1;exact qrd fun i hi=>by unfold qoq;rw[if_pos ((j8 h).2.1 i hi)]
 omega
theorem y9 (p:Problem):(qT p).length=p.vars.length:=Zp p.vars _
theorem Y3 {p:Problem}(h:qi p=0){k:Nat}{n:Nat}(hk:p.groups.flatten[k]?=some (n:Int)):(qT p)[n]?=some (yN p.vars (p.groups.flatten.take k)):=by
 have h1:=(qek (J1 h) (j8 h).2.2.1 p.groups.flatten.length (qqf _)).2 k _ (qp5.1 hk).1 hk;rw[qr5,qq7]at h1;exact h1
theorem qhz {p:Problem}(h:qi p=0){n:Nat}{v:Var}(hv:p.vars[n]?=some v)(hm:v.mode≠0):∃ k:Nat,p.groups.flatten[k]?=some (n:Int):=by
 have:=(j8 h).2.2.2 n (qp5.1 hv).1 (by simp[yq,hv,hm]);exact qqJ this
theorem qih {p:Problem}(h:qi p=0):∀ (i:Nat) (v:Var) (l:Int),p.vars[i]?=some v->(qT p)[i]?=some l->v.mode≠0->0<=l/\l+v.width<=20:=fun i v l hv hl hm=>by
 obtain⟨k,hk⟩:=qhz h hv hm;have h1:=Y3 h hk;rw[hl]at h1;cases h1;have h2:=JS (Qc h) (p.groups.flatten.take k);have h3:=Wd (Qc h) p.groups.flatten (k+1);have h4:p.groups.flatten.take (k+1)=p.groups.flatten.take k++[(i:Int)]:=by rw[qqE,hk];rfl
 rw[h4,We]at h3;have h5:zK p.vars (i:Int).toNat=v.width:=by simp[zK,hv]
 have h6:=Kj h;omega
def NedM (p:Problem)(H:List Blk)(r:AV)(U':St):Prop:=KpL [] H U'.H/\((zA p=[]/\r=.sl 4 [] .tight)\/∃ b,zA p≠[]/\r=.ms b 0 (zA p).length 4/\U'.H[b]?=some (.cells ((zA p).flatMap qs))/\H.length<=b)
theorem lk1b {α:Type}{H:List α}{p q:α}:(H++[p,q])[H.length+1]?=some q:=by rw[qqd (by omega),qq2];rfl
theorem sl_msB (b N k:Nat)(h:k<N):zw (.ms b 0 N 4) (some (.int .i64 (k:Int))) none none=some (.ms b (k*4) (N-k) 4):=by
 show (if (0:Int)<=k/\(k:Int)<=N/\(N:Int)<=N/\((k:Int)=0\/(k:Int)<N) then some (AV.ms b (0+(k:Int).toNat*4) ((N:Int).toNat-(k:Int).toNat) 4) else if (k:Int)=N/\(N:Int)=N then some (.sl 4 [] .none) else none)=_;rw[if_pos ⟨by omega,by omega,by omega,by omega⟩];simp
theorem qoj (b N:Nat)(h:0<N):zw (.ms b 0 N 4) (some (.int .i64 (N:Int))) none none=some (.sl 4 [] .none):=by
 show (if (0:Int)<=N/\(N:Int)<=N/\(N:Int)<=N/\((N:Int)=0\/(N:Int)<N) then some (AV.ms b (0+(N:Int).toNat*4) ((N:Int).toNat-(N:Int).toNat) 4) else if (N:Int)=N/\(N:Int)=N then some (.sl 4 [] .none) else none)=_;rw[if_neg (by omega),if_pos ⟨rfl,rfl⟩]
theorem WE (p:Problem)(h:VQ p)(hd:p.dists.length<=10000)(H:List Blk)(T:List (Option Nat)):qg Tryz.prog GG 57 [.agg (qJ p)] ⟨H,T⟩ (NedM p H):=by
 refine qg.kO ⟨true,[],[],[]⟩ qe Tryz.func57 rfl (by kernel_rfl) ?_;have hs:=Jh p h hd;have hh:=h.hard;have hsl:(jW p).length<=10000:=by
  unfold jW;split
  . simp[wm,hd]
  . simp
 have hn:zA p=p.hard++jW p:=rfl;generalize jW p=S at *;obtain⟨Q,hQ⟩:∃ Q,Q=NedM p H:=⟨_,rfl⟩;rw[<- hQ];have fin0:p.hard++S=[]->∀ u T',Q (.sl 4 [] .tight) ⟨H++u,T'⟩:=fun he u T'=>by rw[hQ];exact⟨KpL.app,.inl ⟨by rw[hn,he],rfl⟩⟩
 have kv:p.hard++S≠[]->∀ (B0:Blk) (T':List (Option Nat)),Q (.ms (H.length+1) 0 (p.hard.length+S.length) 4) ⟨H++[B0,.cells ((p.hard++S).flatMap qs)],T'⟩:=fun he B0 T'=>by
  rw[hQ];refine⟨KpL.app,.inr ⟨H.length+1,by rw[hn];exact he,by rw[hn,qqb],?_,by omega⟩⟩;rw[hn];exact lk1b
 simp only[qJ]at hs;have hw:=wr (n:=(p.hard.length:Int)+S.length) (by omega) (by omega);have h00:IntKind.i64.wrap 0=0:=by decide
 by_cases h0:p.hard=[]/\S=[]
 . obtain⟨h1,h2⟩:=h0;subst h2;have fin0:=fin0 (by rw[h1];rfl);rw[h1]at hs hw;simp[-getElem?_pos,h1];refine qc.call hs (by simp) ?_;simp[-getElem?_pos,h00,h1,mkX,qw,yA,WG,zw,zX,kf,z7];exact fin0 _ _
 . have hpos:0<p.hard.length+S.length:=by
    rcases qrh (p.hard.length+S.length) with h|h
    . exact absurd ⟨qqj (by omega),qqj (by omega)⟩ h0
    . exact h
   have hne2:p.hard++S≠[]:=(by simpa using h0);have kv:=kv hne2;have hnz:¬ (p.hard.length:Int)+S.length=0:=(by omega);have hle:(p.hard.length:Int)+S.length<=549755813888:=(by omega);have hge:(0:Int)<=(p.hard.length:Int)+S.length:=(by omega);have htn:((p.hard.length:Int)+S.length).toNat=p.hard.length+S.length:=(by omega);have hmk:∀ U:St,mkX (Dof Tryz.prog) true U 23 (.int .i64 ((p.hard.length:Int)+S.length)) (.int .i64 ((p.hard.length:Int)+S.length))=none:=fun U=>by
    have:∀ z:Int,z≠0->mkX (Dof Tryz.prog) true U 23 (.int .i64 z) (.int .i64 z)=none:=fun z hz=>by
     unfold mkX;split
     . rename_i h1 _;simp at h1;exact absurd h1.2 hz
     . rfl
    exact this _ hnz
   obtain⟨Z,hZ⟩:∃ Z,Z=(List.replicate (p.hard.length+S.length) [AV.int .i64 0,.int .i64 0,.str [],.sl 0 [] .nil]).flatten:=⟨_,rfl⟩;have hZl:Z.length=(p.hard.length+S.length)*4:=(by rw[hZ];simp);have hAl:(p.hard.flatMap qs).length=p.hard.length*4:=Go.Abs.jj (sz:=4) zj p.hard;have hBl:(S.flatMap qs).length=S.length*4:=Go.Abs.jj (sz:=4) zj S;have hA:(p.hard.map qs).flatten=p.hard.flatMap qs:=(by rw[qrQ]);have hB:(S.map qs).flatten=S.flatMap qs:=(by rw[qrQ]);have htA:(p.hard.map qs).take p.hard.length=p.hard.map qs:=qqg (by simp);have htB:(S.map qs).take S.length=S.map qs:=qqg (by simp);have h2:=qaS (p.hard.flatMap qs) (S.flatMap qs) Z (by rw[hZl,hAl,hBl,qq5]);rw[hAl,<- List.flatMap_append]at h2;have hZ1l:(zt Z 0 (p.hard.flatMap qs)).length=(p.hard.length+S.length)*4:=(by rw[YK,hZl]);have la:∀ (B0 C:Blk),(H++[B0,C])[H.length+1]?=some C:=fun B0 C=>by rw[qqd (by omega),qq2];rfl
   have ls:∀ (B0 C D:Blk),(H++[B0,C]).set (H.length+1) D=H++[B0,D]:=fun B0 C D=>by rw[qrb _ _ (by omega),qq2];rfl
   have hc1:∀ B0:Blk,yA (Dof Tryz.prog) ⟨H++[B0,.cells Z],T⟩ 23 (.ms (H.length+1) 0 (p.hard.length+S.length) 4) (.sl 4 (p.hard.map qs) .none)=some (.int .i64 p.hard.length,⟨H++[B0,.cells (zt Z 0 (p.hard.flatMap qs))],T⟩):=fun B0=>by
    by_cases hh0:p.hard=[]
    . simp[yA,WG,hh0,zt]
    . have hm:min p.hard.length (p.hard.length+S.length)=p.hard.length:=(by omega);have hl:p.hard.length*4<=(p.hard.length+S.length)*4:=(by omega);simp[yA,WG,qkK,hm,hh0,htA,hA,hZl,hl,la,ls]
   by_cases hS0:S=[]
   . subst hS0;have hhp:0<p.hard.length:=(by simpa using hpos);have hsl2:=qoj (H.length+1) p.hard.length hhp;have hpa:zt Z 0 (p.hard.flatMap qs)=p.hard.flatMap qs:=putAt_all _ _ (by rw[hZl,hAl];simp);rw[hpa]at hc1;simp only[qqK,qri,qrz,Int.add_zero]at hw hnz hle hge htn hZ hc1 hmk;simp only[qqF]at hs;have hcz:∀ U:St,yA (Dof Tryz.prog) U 23 (.sl 4 [] .none) (.sl 4 [] .none)=some (.int .i64 0,U):=fun U=>by simp[yA,WG]
     have hhn:¬ p.hard=[]:=qql.1 hhp;simp only[qqP,qqK,qri]at kv;generalize p.hard.flatMap qs=FE at *;simp[-getElem?_pos];refine qc.call hs (by simp) ?_;simp[-getElem?_pos,hw,hnz,hle,hge,hhn,hmk,qw,<- hZ,hc1,hsl2,hcz];exact kv _ _
   . have hSp:=qql.2 hS0;have hsl2:zw (.ms (H.length+1) 0 (p.hard.length+S.length) 4) (some (.int .i64 p.hard.length)) none none=some (.ms (H.length+1) (p.hard.length*4) S.length 4):=by
      have h3:p.hard.length+S.length-p.hard.length=S.length:=(by omega);rw[sl_msB _ _ _ (by omega),h3]
     have hc2:∀ B0:Blk,yA (Dof Tryz.prog) ⟨H++[B0,.cells (zt Z 0 (p.hard.flatMap qs))],T⟩ 23 (.ms (H.length+1) (p.hard.length*4) S.length 4) (.sl 4 (S.map qs) .none)=some (.int .i64 S.length,⟨H++[B0,.cells ((p.hard++S).flatMap qs)],T⟩):=fun B0=>by
      have hl:p.hard.length*4+S.length*4<=(p.hard.length+S.length)*4:=(by omega);simp[yA,WG,qkK,hS0,htB,hB,hZ1l,hl,-List.flatMap_append,h2,la,ls]
     have hlen:(p.hard++S).length=p.hard.length+S.length:=(by simp);generalize (p.hard++S).flatMap qs=FE at *;generalize zt Z 0 (p.hard.flatMap qs)=Z1 at *;generalize p.hard++S=PS at *;simp[-getElem?_pos];refine qc.call hs (by simp) ?_;simp[-getElem?_pos,hw,hnz,hle,hge,hmk,qw,htn,<- hZ,hc1,hsl2,hc2];exact kv hne2 _ _
theorem qeD {α:Type}{sz:Nat}{en:α->List AV}(hl:∀ x,(en x).length=sz):∀ {l:List α} {i:Nat} {v:α},l[i]?=some v->((l.flatMap en).drop (i*sz)).take sz=en v
 | [],i,v,h=>by simp at h
 | a::r,0,v,h=>by
  simp at h;subst h;rw[qqs,qrG,qrB,qq3 (by rw[hl];exact qqf _),qqg (by rw[hl];exact qqf _)]
 | a::r,i+1,v,h=>by
  have ih:=qeD hl (l:=r) (i:=i) (v:=v) (by simpa using h);have e:(i+1)*sz=sz+i*sz:=by rw[qsM,qrO]
  rw[qqs,e,qrK,qqL (by rw[hl];omega),hl,qqw,qq2,ih]
def qnM (b:Nat)(H:List Blk)(v:AV)(l:List Ex):Prop:=(l=[]/\v=.sl 4 [] .tight)\/(l≠[]/\v=.ms b 0 l.length 4/\H[b]?=some (.cells (l.flatMap qs)))
theorem qnM.append {b:Nat}{H:List Blk}{T:List (Option Nat)}{v:AV}{l:List Ex}(h:qnM b H v l)(x:Ex)(hl:l.length<=1000000) :
 ∃ H',zs (Dof Tryz.prog) ⟨H,T⟩ 23 23 v (.sl 4 [qs x] .tight)=some (.ms H.length 0 (l.length+1) 4,⟨H',T⟩)/\qnM H.length H' (.ms H.length 0 (l.length+1) 4) (l++[x])/\(∀ (k:Nat) (y:Blk),H[k]?=some y->(l=[]\/k≠b)->H'[k]?=some y)/\H.length<=H'.length:=by
 have hl4:=zj x;rcases h with ⟨rfl,rfl⟩|⟨hne,rfl,hb⟩
 . refine⟨H++[.cells (qs x)],?_,?_,fun k y hk _=>qa hk _,by simp⟩
   . simp[zs,z6,KK,qS]
   . exact .inr ⟨by simp,by simp,by simp⟩
 . have h1:l.length+1<=549755813888:=(by omega);have hfl:=Go.Abs.jj (sz:=4) zj l;have ht:(l.flatMap qs).take (l.length*4)=l.flatMap qs:=qqg (by omega);have hle:l.length*4<=(l.flatMap qs).length:=(by omega);refine⟨H.set b .dead++[.cells (l.flatMap qs++qs x)],?_,?_,fun k y hk hkb=>?_,by simp⟩
   . rw[hfl]at hle;simp[zs,z6,KK,qS,hb,h1,ht,hfl]
   . exact .inr ⟨by simp,by simp,by simp⟩
   . exact qa (by rw[qp7 (Ne.symm (hkb.resolve_left hne))];exact hk) _
theorem qnM.len {b:Nat}{H:List Blk}{v:AV}{l:List Ex}(h:qnM b H v l)(U:St):KL (Dof Tryz.prog) U 23 v=some (.int .i64 (l.length:Nat)):=by
 rcases h with ⟨rfl,rfl⟩|⟨_,rfl,_⟩<;>simp
theorem Y7 (vs:List Var):∀ (L:List (Int×Ex)) (R:List Ex),∀ q∈wh vs R L,q∈L
 | [],R,q,h=>by simp[wh]at h
 | x::r,R,q,h=>by
  unfold wh at h;split at h
  . rcases qqv.1 h with rfl|h
    . simp
    . exact qrn _ (Y7 vs r _ q h)
  . exact qrn _ (Y7 vs r _ q h)
theorem Y8 (vs:List Var):∀ (L:List (Int×Ex)) (R:List Ex),(wh vs R L).length<=L.length
 | [],R=>by simp[wh]
 | x::r,R=>by
  unfold wh;split
  . have:=Y8 vs r (R++[x.2]);simp;omega
  . have:=Y8 vs r R;simp;omega
theorem qld {l:List Ex}{q:Int×Ex}(h:q∈JK l):∃ k:Nat,q.1=k/\l[k]?=some q.2:=by
 obtain⟨k,hk⟩:=qqJ h;obtain⟨_,h2,h3⟩:=qhV hk;exact⟨_,h2,h3⟩
theorem qip {p:Problem}{q:Int×Ex}(h:q∈ZT p):∃ k:Nat,q.1=k/\p.soft[k]?=some q.2:=qld (Y7 _ _ _ q (by simpa[ZT] using h))
theorem qeo (p:Problem):(ZT p).length<=p.soft.length:=by
 unfold ZT;rw[List.length_reverse];exact qq9 (Y8 _ _ _) (by rw[qed];exact qqf _)
noncomputable def qp (p:Problem):List Ex×Int :=
 if qi p=0 then (if jJ p.vars (zA p)=true then (qhy p,0) else ([],11)) else ([],1)
theorem Qg (p:Problem):(qp p).2=(wT p).2:=by
 unfold qp wT;split
 . split<;>rfl
 . rfl
theorem Zc {p:Problem}(h:(wT p).2=0):qi p=0/\jJ p.vars (zA p)=true/\qp p=(zA p++(ZT p).map (·.2),0)/\(wT p).1=(ZT p).map (·.1):=by
 unfold wT at h;split at h
 . rename_i hv;split at h
   . rename_i hs;have hn:zA p=qcG p:=by
      show p.hard++jW p=_;rw[jW,if_pos hv];rfl
     refine⟨hv,hs,?_,?_⟩
     . unfold qp qhy;rw[if_pos hv,if_pos hs,hn]
     . unfold wT ZT;rw[if_pos hv,if_pos hs,hn]
   . simp at h
 . simp at h
theorem KJ (p:Problem)(h:VQ p)(hv20:p.vars.length<=20)(hb:yB p.vars (qz p)<=18)(hd:p.dists.length<=10000)(hs5:p.soft.length<=10000) :
 Pure Tryz.prog GG 29 [.agg (qJ p)] (.tup [.sl 4 ((qp p).1.map qs) .none,.int .i64 (qp p).2]):=by
 have hkp:=qjV p h hv20 hb hd hs5;by_cases he:(wT p).2=0
 case neg=>
  have hre:=Qg p;have hr0:(qp p).1=[]:=by
   unfold qp wT at *;split
   . rename_i hv;split
     . rename_i hs;rw[if_pos hv,if_pos hs]at he;exact absurd rfl he
     . rfl
   . rfl
  rw[hr0,hre];refine Pure.kO o0 true qe Tryz.func29 rfl (by kernel_rfl) ?_;simp only[qJ]at hkp;simp[-getElem?_pos];refine qc.call hkp (by simp) ?_;simp[-getElem?_pos,he];rw[qt (by simp)];exact⟨by simp,by simp[Leq,zm]⟩
 obtain⟨hv,hs,hrr,hk1⟩:=Zc he;rw[hk1,he]at hkp;rw[hrr];dsimp only;have hkl:=qeo p;have hka:=fun q (hq:q∈ZT p)=>qip hq
 generalize hKS:ZT p=KS at *;refine Pure.kO ⟨true,[],[],[]⟩ true qe Tryz.func29 rfl (by kernel_rfl) ?_;have hnd:=WE p h hd [.cells (qJ p)] [];have hknow:=Zm h hv;have h1:=h.hard;have h2:(jW p).length<=10000:=by
  have:jW p=wm p:=if_pos hv;rw[this,wm,qqI];exact hd
 have hNl:(zA p).length<=20000:=by rw[zA,qqb];omega
 obtain⟨RES,hRES⟩:∃ RES,RES=zA p++KS.map (·.2):=⟨_,rfl⟩;have hRt:∀ e∈RES,(pre e).length<=100000:=fun e hm=>by
  rw[hRES]at hm;rcases qqo.1 hm with hm|hm
  . exact (hknow e (qqH _ hm)).2.2.2
  . obtain⟨q,hq,rfl⟩:=qqx.1 hm;obtain⟨k,_,hk⟩:=hka q hq;exact (hknow q.2 (qq6 _ (qp6 hk))).2.2.2
 rw[<- hRES];simp only[qJ]at hkp hnd;simp[-getElem?_pos];refine qc.call hkp (by simp) ?_;simp[-getElem?_pos];refine qc.acall hnd ?_;rintro v ⟨H1,T1⟩ ⟨hk,hr⟩;dsimp only at hk hr;have bP:H1[0]?=some (.cells (qJ p)):=hk.2 0 _ (by simp[qJ]) (by simp);obtain⟨b,ho,hb0⟩:∃ b,qnM b H1 v (zA p)/\b≠0:=by
  rcases hr with ⟨hn,rfl⟩|⟨b,hne,rfl,hb1,hb2⟩
  . exact⟨1,.inl ⟨hn,rfl⟩,by omega⟩
  . exact⟨b,.inr ⟨hne,rfl,hb1⟩,by simp at hb2;omega⟩
 clear hr hk;generalize zA p=N at *;simp[-getElem?_pos];refine qL.listR KS (fun d ev U=>ev 1=.ptr 0 0/\ev 20=.sl 1 (KS.map fun q=>[AV.int .i64 q.1]) .none/\ev 21=.int .i64 KS.length/\ev 22=.int .i64 d.length/\∃ H b T,U=⟨H,T⟩/\H[0]?=some (.cells (qJ p))/\b≠0/\qnM b H (ev 6) (N++d.map (·.2))) ?_ ?_ ?_
 . refine⟨by simp,by simp,by simp,by simp,H1,b,T1,rfl,bP,hb0,by simpa using ho⟩
 . rintro d q rest ev U R hR hdl hx hlt ⟨e1,e20,e21,e22,H,b,T,rfl,bP,hb0,ho⟩;have hdw:=wr (n:=(d.length:Int)+1) (by omega) (by omega);have hlt':(d.length:Int)<KS.length:=(by omega);obtain⟨k,hk1,hk2⟩:=hka q (qp6 hx);have hkl2:=(qp5.1 hk2).1;have hkl3:(k:Int)<p.soft.length:=(by omega);obtain⟨H',hap,ho',hkeep,hlen⟩:=ho.append (T:=T) q.2 (by rw[qqb,qqI];omega);have hHl:=(qp5.1 bP).1;have ha:=yE q.2;have hl4:=zj q.2;have htk:(qs q.2).take 4=qs q.2:=qqg (by rw[hl4];exact qqf _);have bP2:=hkeep 0 _ bP (by right;exact Ne.symm hb0);have hsn:N++(d++[q]).map (·.2)=N++d.map (·.2)++[q.2]:=(by simp);simp only[qJ]at bP;generalize hv6:ev 6=v6 at *;simp[-getElem?_pos,-qK,e1,e20,e21,e22,hlt',hx,hk1,hk2,bP,htk,ha,hl4,qk,qA,hap,hv6,hdw];refine hR _ _ ⟨by simp[e1],by simp[e20],by simp[e21],by simp,H',H.length,T,rfl,bP2,by omega,?_⟩;rw[hsn];simpa using ho'
 . rintro ev U ⟨e1,e20,e21,e22,H,b,T,rfl,bP,hb0,ho⟩;rw[<- hRES]at ho;have hlen:=ho.len ⟨H,T⟩;have hRl:RES.length<=1000000:=(by rw[hRES,qqb,qqI];omega);generalize hv6:ev 6=v6 at *;simp[-getElem?_pos,-KL,e21,e22,hv6,hlen];refine qL.listR RES (fun d ev U=>ev 6=v6/\ev 36=.int .i64 RES.length/\ev 37=.int .i64 d.length/\∃ H T,U=⟨H,T⟩/\qnM b H v6 RES) ?_ ?_ ?_
   . exact⟨by simp[hv6],by simp,by simp,H,T,rfl,ho⟩
   . rintro d x rest ev U R hR hdl hx hlt ⟨e6,e36,e37,H,T,rfl,ho⟩;have hdw:=wr (n:=(d.length:Int)+1) (by omega) (by omega);have hlt':(d.length:Int)<RES.length:=(by omega);have hcp:=qjc x (hRt x (qp6 hx));rcases ho with ⟨h0,_⟩|⟨hne,rfl,hbk⟩
     . rw[h0]at hx;simp at hx
     have hfl:=Go.Abs.jj (sz:=4) zj RES;have hl4:=zj x;have ha:=yE x;have hput:zt (RES.flatMap qs) (d.length*4) (qs x)=RES.flatMap qs:=by
      rw[Qi zj RES d.length x hlt];have:RES.set d.length x=RES:=by
       apply qqW;intro j;by_cases hj:d.length=j
       . subst hj;rw[qqa hlt,hx]
       . rw[qp7 hj]
      rw[this]
     have hcut:((RES.flatMap qs).drop (d.length*4)).take 4=qs x:=qeD zj hx;have hfit:d.length*4+4<=RES.length*4:=(by omega);have hset:H.set b (.cells (RES.flatMap qs))=H:=by
      apply qqW;intro j;by_cases hj:b=j
      . subst hj;rw[qqa (qp5.1 hbk).1,hbk]
      . rw[qp7 hj]
     generalize hFF:RES.flatMap qs=F at *;simp[-getElem?_pos,-qK,e6,e36,e37,hlt',hbk,hfl,hfit,hcut];refine qc.call hcp (by simp) ?_;simp[-getElem?_pos,-qK,e37,hlt',hbk,hfl,hfit,hl4,ha,hput,hset,hdw];exact hR _ _ ⟨by simp[e6],by simp[e36],by simp,H,T,rfl,.inr ⟨hne,rfl,by rw[hFF];exact hbk⟩⟩
   . rintro ev U ⟨e6,e36,e37,H,T,rfl,ho⟩;simp[-getElem?_pos,e6,e36,e37];rcases ho with ⟨h0,rfl⟩|⟨hne,rfl,hbk⟩
     . rw[h0];have hf:frz H 7 (.sl 4 [] .tight)=.sl 4 [] .tight:=qt rfl;exact JZ (by rw[hf];rfl) (by rw[hf];simp[Leq]) (by simp[Leq])
     . have hoo:jw b 4 qs H (.ms b 0 RES.length 4) RES:=.inr ⟨hne,rfl,hbk⟩;exact JZ (hoo.frzNo zj (fun x=>nrE x) ju 6) (hoo.frz zj (fun x=>nrE x) ju 6) (by simp)
def RulU (l:List Ex)(H:List Blk)(r:AV)(U':St):Prop:=∃ tok,r=.tup [.sl 4 (l.map qs) tok,.int .i64 0]/\(l≠[]\/tok=.tight)/\KpL [] H U'.H
theorem qmN (p:Problem)(h:VQ p)(hv20:p.vars.length<=20)(hb:yB p.vars (qz p)<=18)(hd:p.dists.length<=10000)(hs5:p.soft.length<=10000)(he:(qp p).2=0)(H:List Blk)(T:List (Option Nat)) :
 qg Tryz.prog GG 29 [.agg (qJ p)] ⟨H,T⟩ (RulU (qp p).1 H):=by
 by_cases hR:(qp p).1=[]
 case neg=>
  refine qg.call (KJ p h hv20 hb hd hs5) (by simp) ?_;rw[he];exact⟨.none,rfl,.inl hR,KpL.refl⟩
 have hkp:=qjV p h hv20 hb hd hs5;rw[Qg]at he;obtain⟨hv,hs,hrr,hk1⟩:=Zc he;rw[hrr]at hR;have hR:zA p=[]/\ZT p=[]:=by simpa using hR
 rw[hrr,hR.1,hR.2];rw[hk1,he,hR.2]at hkp;have hnd:=fun H T=>WE p h hd H T
 refine qg.kO ⟨true,[],[],[]⟩ qe Tryz.func29 rfl (by kernel_rfl) ?_;simp only[qJ]at hkp hnd;simp[-getElem?_pos];refine qc.call hkp (by simp) ?_;simp[-getElem?_pos];refine qc.acall (hnd _ _) ?_;rintro v ⟨H1,T1⟩ ⟨hk,hr⟩;dsimp only at hk;rcases hr with ⟨_,rfl⟩|⟨b,hne,_⟩
 case inr=>exact absurd hR.1 hne
 simp[-getElem?_pos];refine qL.gen (fun m ev U=>ev 6=.sl 4 [] .tight/\ev 21=.int .i64 0/\ev 22=.int .i64 0/\KpL [] H U.H) 0 ⟨by simp,by simp,by simp,KpL.app.trans hk⟩ ?_;rintro m ev ⟨H2,T2⟩ R hRR ⟨e6,e21,e22,hk2⟩;simp[-getElem?_pos,e6,e21,e22];refine qL.gen (fun m ev U=>ev 6=.sl 4 [] .tight/\ev 36=.int .i64 0/\ev 37=.int .i64 0/\KpL [] H U.H) 0 ⟨by simp[e6],by simp,by simp,hk2⟩ ?_;rintro m ev ⟨H3,T3⟩ R hRR ⟨e6,e36,e37,hk3⟩;simp[-getElem?_pos,e6,e36,e37];exact⟨.tight,rfl,.inr rfl,hk3⟩
end Go.Proofs.YtoibbcnfhhggnaaGreatDoor
end
