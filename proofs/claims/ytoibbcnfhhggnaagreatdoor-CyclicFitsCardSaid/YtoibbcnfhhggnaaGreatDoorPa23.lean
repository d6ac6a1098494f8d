/- A part of the proof. -/
import Derived.Test.YtoibbcnfhhggnaaGreatDoorPa22
set_option maxHeartbeats 16000000
set_option linter.unusedVariables false
set_option linter.unusedSimpArgs false
set_option maxRecDepth 100000
set_option linter.defProp false
section
namespace Go.Proofs.YtoibbcnfhhggnaaGreatDoor
open Go Go.Abs
theorem qbD {α:Type}(p:α->Bool):∀ (l:List α) (i:Nat),(zr p l i = -1/\l.find? p=none)\/∃ k w,zr p l i=((i+k:Nat):Int)/\l[k]?=some w/\l.find? p=some w
 | [],i=>.inl ⟨rfl,rfl⟩
 | a::r,i=>by
  by_cases h:p a=true
  . exact .inr ⟨0,a,by simp[zr,h],by simp,by simp[h]⟩
  . have ih:=qbD p r (i+1);have e:zr p (a::r) i=zr p r ((i+1:Nat):Int):=(by simp[zr,h]);rw[e];rcases ih with ⟨h1,h2⟩|⟨k,w,h1,h2,h3⟩
    . exact .inl ⟨h1,by simp[h,h2]⟩
    . exact .inr ⟨k+1,w,by rw[h1];congr 1;omega,by simpa using h2,by simp[h,h3]⟩
theorem in329 (w:Weight)(n:Int):Pure Tryz.prog GG 169 [.agg (qG w),.rptr [.int .i64 n]] (.bool (inW n w)):=by
 refine Pure.k qe Tryz.func169 rfl (by kernel_rfl) ?_;unfold inW;by_cases h:w.lo<=n<;>simp[-getElem?_pos,h]
theorem app37h (H:List Blk)(s:List Int)(n:Int)(hs:s.length<2 ^ 30):qD (Dof Tryz.prog) ⟨H,kR [] s⟩ 44 (YG 1 qo 0 s) (.sl 1 [[.int .i64 n]] .tight)=some (YG 1 qo 0 (s++[n]),⟨H,kR [] (s++[n])⟩) :=
 yx (D:=Dof Tryz.prog) (sz:=1) (T:=[]) (H:=H) (m:=[n]) (en:=qo) D44 rfl D3 rfl (by decide) rfl (by decide) (by simp only[qqO];omega) 1 (.inl rfl)
def qle:List (Nat×Sch×List Nat):=[(10,.step 0 [5,4,1] (.step 1 [5,4] (.step 2 [5,4,3] (.step 3 [5,4] (.step 4 [5] (.step 5 [] (.done)))))),[])]
theorem qft (p:Problem)(d:Dist)(v:Var)(i:Nat)(hi:d.var=i)(hv:p.vars[i]?=some v)(hvl:p.vars.length<=1000)(hw0:0<=v.width)(hw8:v.width<=8)(hf:Fits d.weights) :
 Pure Tryz.prog GG 124 [.agg (qL p),.agg (zH d)] (.agg (qu (KB p.vars d))):=by
 refine Pure.kO ⟨false,qle,[],[]⟩ false qe Tryz.func124 rfl (by kernel_rfl) ?_;have hs:=kQ (w:=v.width) hw0 (by omega);have hsz:=WY hw8;have hsup:KB p.vars d=ye v.name (kv (qci v d.weights)):=by unfold KB;rw[hi,qrg,hv]
 have hok:=qch v d.weights;have hrk:=W4 (N:=(zZ v:Nat)) hok.1 (fun x hx=>by have:=hok.2 x hx;omega) (by omega);have hsl:(qci v d.weights).length<=1000:=by
  have:(qci v d.weights).length<=zZ v:=by unfold qci;exact qro (qr8 _ _) (by simp)
  omega
 have hrg:=qhA (qci v d.weights) hsl (fun n hn=>by have:=hok.2 n hn;omega);have hun:=qkn v.name (kv (qci v d.weights)) (by omega);have hsn:qci v d.weights=(Qv v.width).filter (qd2 d.weights):=rfl;rw[hsup];generalize ye v.name (kv (qci v d.weights))=U_ at *;generalize kv (qci v d.weights)=RG at *;rw[hsn]at hrg;have hlen:=Zh v.width;have hget:∀ {d r:List Int} {x:Int},Qv v.width=d++x::r->x=d.length:=YI;have hwn:¬ v.width<0:=by omega
 have hil:i<p.vars.length:=(qql.1 hv).1;have hszd:zZ v=2 ^ v.width.toNat:=rfl;rw[<- hszd]at hs hlen;generalize hN:zZ v=N at *;generalize Qv v.width=nums at *;have hE:=qc U_;simp only[hE]at hun ⊢;simp[-getElem?_pos,hi,hv,hil,hwn,IntKind.bits,hs];refine qM.listR nums (fun dd ev U=>ev 3=.ptr 1 0/\ev 4=.ptr 2 0/\ev 5=.ptr 3 0/\ev 6=YG 1 qo 0 (dd.filter (qd2 d.weights))/\ev 17=.int .i64 N/\ev 18=.int .i64 dd.length/\∃ H,U=⟨H,kR [] (dd.filter (qd2 d.weights))⟩ /\
  H[1]?=some (.cells [.int .i64 i,.sl 4 (d.weights.map qG) .none])/\H[2]?=some (.cells [.int .i64 0,.int .i64 0,.str [],.sl 0 [] .nil])/\H[3]?=some (.cells (qp v))/\qq [AV.int .i64 0]=true) ?_ ?_ ?_
 . exact⟨by simp,by simp,by simp,by simp,by simp,by simp,_,by simp;rfl,by simp,by simp,by simp,rfl⟩
 . rintro dd n rest ev U R hR hd hx hlt ⟨e3,e4,e5,e6,e17,e18,H,rfl,H1,H2,H3,_⟩;have hnd:=hget hd;subst hnd;have hlt':dd.length<N:=(by omega);have hw:=wr (n:=(dd.length:Int)+1) (by omega) (by omega);have hfs:=QT (qd2 d.weights) dd (dd.length:Int);have hfl:(dd.filter (qd2 d.weights)).length<2 ^ 30:=qsp (qr8 _ _) (by omega);have hgo:∀ (ev':Env) H' (L:List Int),L=(dd++[(dd.length:Int)]).filter (qd2 d.weights)->ev' 3=.ptr 1 0->ev' 4=.ptr 2 0->ev' 5=.ptr 3 0->ev' 6=YG 1 qo 0 L->ev' 17=.int .i64 N->ev' 18=.int .i64 (dd.length+1:Nat)->(∃ u,H'=H++u)->R ev' ⟨H',kR [] L⟩:=by
    rintro ev' H' L rfl a3 a4 a5 a6 a17 a18 ⟨u,rfl⟩;exact hR _ _ ⟨a3,a4,a5,a6,a17,by simpa using a18,_,rfl,qb H1 u,qb H2 u,qb H3 u,rfl⟩
   simp[-getElem?_pos,e3,e4,e5,e6,e17,e18,hlt',qb H1,qb H2,qb H3];refine qd.lent (vS GG d.weights (inW dd.length) 169 [] [.rptr [.int .i64 dd.length]] hf rfl (by simp) fun w _=>in329 w dd.length) rfl ?_ ?_
   . simp[frz]
   . have hff:=qbD (inW dd.length) d.weights 0;simp only[qse]at hff;rcases hff with ⟨k1,k2⟩|⟨k,w,k1,k2,k3⟩
     . have hp:qd2 d.weights dd.length=false:=(by unfold qd2;rw[k2]);have k1:zr (inW dd.length) d.weights 0 = -1:=k1;rw[k1];rw[hp]at hfs;simp only[qqF,if_false]at hfs;simp[-getElem?_pos,e3,e4,e5,e6,e17,e18,hw];exact hgo _ _ _ hfs.symm (by simp[e3]) (by simp[e4]) (by simp[e5]) (by simp[e6]) (by simp[e17]) (by simp) ⟨_,rfl⟩
     . have k1:zr (inW dd.length) d.weights 0=(k:Nat):=k1;have hkl:=(qql.1 k2).1;rw[k1];by_cases hp0:0<w.weight
       . have hp:qd2 d.weights dd.length=true:=(by unfold qd2;rw[k3];simpa using hp0);rw[if_pos hp]at hfs;simp[-getElem?_pos,e3,e4,e5,e6,e17,e18,hw,qb H1,k2,hkl,hp0,app37h _ _ _ hfl];exact hgo _ _ _ hfs.symm (by simp[e3]) (by simp[e4]) (by simp[e5]) (by simp) (by simp[e17]) (by simp) ⟨_,rfl⟩
       . have hp:qd2 d.weights dd.length=false:=(by unfold qd2;rw[k3];simpa using hp0);rw[hp]at hfs;simp only[qqF,if_false]at hfs;simp[-getElem?_pos,e3,e4,e5,e6,e17,e18,hw,qb H1,k2,hkl,hp0];exact hgo _ _ _ hfs.symm (by simp[e3]) (by simp[e4]) (by simp[e5]) (by simp[e6]) (by simp[e17]) (by simp) ⟨_,rfl⟩
 . rintro ev U ⟨e3,e4,e5,e6,e17,e18,H,rfl,H1,H2,H3,_⟩;rw[hlen]at e18;have H2l:=(qql.1 H2).1;simp[-getElem?_pos,e3,e4,e5,e6,e17,e18];rw[qH rfl];simp[-getElem?_pos,qP,e3,e4,e5,e6,e17,e18,H3];refine qd.pure hrg (by simp only[qqx,qqQ,Wd,qq,qr1];exact qfL (fun x=>by simp)) (by simp only[qqx,qqQ,Wd,zj,and_true];exact qer) ?_;simp[-getElem?_pos,qP,e3,e4,e5,e6,e17,e18,H3];refine qd.call hun (by simp) ?_;simp[-getElem?_pos,qP,e3,e4,e5,e6,e17,e18,H2,H2l]
theorem qgY {p:Problem}(h:qk p=0):∀ d∈p.dists,∃ (i:Nat) (v:Var),d.var=i/\p.vars[i]?=some v:=by
 have hd:yl p.vars p.dists=0:=by
  unfold qk at h;split at h
  . exact absurd h (by assumption)
  . split at h
    . rename_i h1;exact absurd h h1
    . split at h
      . rename_i h1;exact absurd h h1
      . rename_i h1;exact qq8.1 h1
 intro d hm;obtain⟨k,hk⟩:=qq2 hm;have hkl:=(qql.1 hk).1;unfold yl at hd;have:=zl.1 hd k (by simp;omega);unfold jH at this;rw[hk]at this;simp only at this;split at this
 . cases this
 . rename_i hr;have hr:yA p.vars d.var=true:=(by simpa using hr);simp only[yA,qqq,decide_eq_true_eq]at hr;obtain⟨j,hj⟩:=qqR hr.1;rw[hj]at hr;simp only[qrg]at hr
   cases hv:p.vars[j]? with
   | none=>rw[hv]at hr;simp at hr
   | some v=>exact⟨j,v,hj,hv⟩
noncomputable def yq (p:Problem):List Ex:=if qk p=0 then vH p else []
theorem Jc (p:Problem)(h:VQ p)(hd:p.dists.length<=10000):Pure Tryz.prog GG 88 [.agg (qL p)] (.sl 4 ((yq p).map qu) .none):=by
 refine Pure.k qe Tryz.func88 rfl (by kernel_rfl) ?_;have hval:=jW p h;simp only[qL]at hval;by_cases hv:qk p=0
 case neg=>
  have:yq p=[]:=if_neg hv;rw[this];simp[-getElem?_pos];refine qd.call hval (by simp) ?_;simp[-getElem?_pos,hv,Leq]
 have hs:yq p=p.dists.map (KB p.vars):=if_pos hv;rw[hs];have hdl:(p.dists.length:Int)<=549755813888:=by omega
 simp[-getElem?_pos];refine qd.call hval (by simp) ?_;simp[-getElem?_pos,hv,qA,hdl];have hvd:=qgY hv;refine qM.listR p.dists (fun d ev U=>ev 1=.ptr 0 0/\ev 3=.sl 4 ((d.map (KB p.vars)).map qu) (.chain 0 d.length)/\ev 14=.sl 2 (p.dists.map zH) .none/\ev 15=.int .i64 p.dists.length/\ev 16=.int .i64 d.length/\∃ t,U=⟨.cells (qL p)::t,[some d.length]⟩) ?_ ?_ ?_
 . exact⟨by simp,by simp,by simp,by simp,by simp,[],by simp⟩
 . rintro d x rest ev U R hR hd2 hx hlt ⟨e1,e3,e14,e15,e16,t,rfl⟩;have hdw:=wr (n:=(d.length:Int)+1) (by omega) (by omega);have hm:=qqm hx;obtain⟨i,v,hi,hvi⟩:=hvd x hm;have hvw:=qR (zJ hv v (qqm hvi));have hsup:=qft p x v i hi hvi h.vars (by omega) (by omega) (h.weights x hm);have hsn:(d++[x]).map (KB p.vars)=d.map (KB p.vars)++[KB p.vars x]:=(by simp);have hml:(d.map (KB p.vars)).length=d.length:=(by simp);have ha:=yD (KB p.vars x);have hl4:=zi (KB p.vars x);generalize KB p.vars x=X at *;generalize d.map (KB p.vars)=D at *;have happ:∀ H,qD (Dof Tryz.prog) ⟨H,[some d.length]⟩ 23 (.sl 4 (D.map qu) (.chain 0 d.length)) (.sl 4 [qu X] .tight)=some (.sl 4 ((D++[X]).map qu) (.chain 0 (d.length+1)),⟨H,[some (d.length+1)]⟩):=fun H=>by
    have h1:D.length+1<=549755813888:=(by omega);simp[qD,zg,h1]
   simp only[qL]at hsup;simp[-getElem?_pos,-qO,e1,e3,e14,e15,e16,hlt,hx];refine qd.call hsup (by simp) ?_;simp[-getElem?_pos,-qO,ha,hl4,e1,e3,e14,e15,e16,hdw,qh,qw,happ];refine hR _ _ ⟨by simp[e1],by rw[hsn];simp,by simp[e14],by simp[e15],by simp,t++[.cells (zH x)],?_⟩;simp
 . rintro ev U ⟨e1,e3,e14,e15,e16,t,rfl⟩;have hn:=nrEs (p.dists.map (KB p.vars));rw[qrD]at hn;simp[-getElem?_pos,e3,e15,e16,hn]
theorem Yy:∀ (new c:List AV) (off:Nat),(zp c off new).length=c.length
 | [],c,off=>rfl
 | v::r,c,off=>by rw[zp,Yy r];simp
theorem qaM (A B Z:List AV)(h:Z.length=A.length+B.length):zp (zp Z 0 A) A.length B=A++B:=by
 obtain⟨Z1,Z2,rfl,h1⟩:∃ Z1 Z2,Z=Z1++Z2/\Z1.length=A.length:=⟨Z.take A.length,Z.drop A.length,(qre _ _).symm,by rw[qqY];omega⟩;rw[wG A Z1 Z2 h1];have:=vL (c:=Z2) B A 0;rw[qrx]at this;rw[this,putAt_all Z2 B (by simp at h;omega)]
def needE (a b:List Ex):List AV:=(a++b).flatMap qu
theorem sl_ms (N k:Nat)(h:k<N):zt (.ms 1 0 N 4) (some (.int .i64 (k:Int))) none none=some (.ms 1 (k*4) (N-k) 4):=by
 show (if (0:Int)<=k/\(k:Int)<=N/\(N:Int)<=N/\((k:Int)=0\/(k:Int)<N) then some (AV.ms 1 (0+(k:Int).toNat*4) ((N:Int).toNat-(k:Int).toNat) 4) else if (k:Int)=N/\(N:Int)=N then some (.sl 4 [] .none) else none)=_;rw[if_pos ⟨by omega,by omega,by omega,by omega⟩];simp
theorem sl_msE (N:Nat)(h:0<N):zt (.ms 1 0 N 4) (some (.int .i64 (N:Int))) none none=some (.sl 4 [] .none):=by
 show (if (0:Int)<=N/\(N:Int)<=N/\(N:Int)<=N/\((N:Int)=0\/(N:Int)<N) then some (AV.ms 1 (0+(N:Int).toNat*4) ((N:Int).toNat-(N:Int).toNat) 4) else if (N:Int)=N/\(N:Int)=N then some (.sl 4 [] .none) else none)=_;rw[if_neg (by omega),if_pos ⟨rfl,rfl⟩]
noncomputable def zP (p:Problem):List Ex:=p.hard++yq p
theorem YL (p:Problem)(h:VQ p)(hd:p.dists.length<=10000):Pure Tryz.prog GG 57 [.agg (qL p)] (.sl 4 ((zP p).map qu) .none):=by
 refine Pure.kO o0 true qe Tryz.func57 rfl (by kernel_rfl) ?_;have hs:=Jc p h hd;have hh:=h.hard;have hsl:(yq p).length<=10000:=by
  unfold yq;split
  . simp[vH,hd]
  . simp
 have hn:zP p=p.hard++yq p:=rfl;rw[hn];generalize yq p=S at *;simp only[qL]at hs;have hw:=wr (n:=(p.hard.length:Int)+S.length) (by omega) (by omega);by_cases h0:p.hard=[]/\S=[]
 . obtain⟨h1,h2⟩:=h0;subst h2;rw[h1]at hs hw ⊢;simp[-getElem?_pos,h1];refine qd.call hs (by simp) ?_;have h00:IntKind.i64.wrap 0=0:=(by decide);simp[-getElem?_pos,h00,h1,qA,yw,Wv,zt,zS,yY,z5];have hfc:∀ H,frz H 8 (.sl 4 [] (.chain 0 0))=.sl 4 [] .none:=fun H=>by rw[frz];simp[qF]
   rw[hfc];exact⟨by simp,Leq.refl _⟩
 . have hpos:0<p.hard.length+S.length:=by
    rcases qrv (p.hard.length+S.length) with h|h
    . exact absurd ⟨qqA (by omega),qqA (by omega)⟩ h0
    . exact h
   have hnz:¬ (p.hard.length:Int)+S.length=0:=(by omega);have hle:(p.hard.length:Int)+S.length<=549755813888:=(by omega);have hge:(0:Int)<=(p.hard.length:Int)+S.length:=(by omega);have htn:((p.hard.length:Int)+S.length).toNat=p.hard.length+S.length:=(by omega);obtain⟨Z,hZ⟩:∃ Z,Z=(List.replicate (p.hard.length+S.length) [AV.int .i64 0,.int .i64 0,.str [],.sl 0 [] .nil]).flatten:=⟨_,rfl⟩;have hZl:Z.length=(p.hard.length+S.length)*4:=(by rw[hZ];simp);have hAl:(p.hard.flatMap qu).length=p.hard.length*4:=Go.Abs.jg (sz:=4) zi p.hard;have hBl:(S.flatMap qu).length=S.length*4:=Go.Abs.jg (sz:=4) zi S;have hA:(p.hard.map qu).flatten=p.hard.flatMap qu:=(by rw[qr5]);have hB:(S.map qu).flatten=S.flatMap qu:=(by rw[qr5]);have htA:(p.hard.map qu).take p.hard.length=p.hard.map qu:=qqu (by simp);have htB:(S.map qu).take S.length=S.map qu:=qqu (by simp);have h2:=qaM (p.hard.flatMap qu) (S.flatMap qu) Z (by rw[hZl,hAl,hBl,qri]);rw[hAl,<- List.flatMap_append]at h2;have hZ1l:(zp Z 0 (p.hard.flatMap qu)).length=(p.hard.length+S.length)*4:=(by rw[Yy,hZl]);have hc1:∀ B0:Blk,yw (Dof Tryz.prog) ⟨[B0,.cells Z],[]⟩ 23 (.ms 1 0 (p.hard.length+S.length) 4) (.sl 4 (p.hard.map qu) .none)=some (.int .i64 p.hard.length,⟨[B0,.cells (zp Z 0 (p.hard.flatMap qu))],[]⟩):=fun B0=>by
    by_cases hh0:p.hard=[]
    . simp[yw,Wv,hh0,zp]
    . have hm:min p.hard.length (p.hard.length+S.length)=p.hard.length:=(by omega);have hl:p.hard.length*4<=(p.hard.length+S.length)*4:=(by omega);simp[yw,Wv,qkV,hm,hh0,htA,hA,hZl,hl]
   have hE:needE p.hard S=(p.hard++S).flatMap qu:=rfl;by_cases hS0:S=[]
   . subst hS0;have hhp:0<p.hard.length:=(by simpa using hpos);have hsl2:=sl_msE p.hard.length hhp;have ho:∀ B0:Blk,jt 1 4 qu [B0,.cells (p.hard.flatMap qu)] (.ms 1 0 p.hard.length 4) p.hard:=fun B0=>.inr ⟨qqB.1 hhp,rfl,rfl⟩
     have hpa:zp Z 0 (p.hard.flatMap qu)=p.hard.flatMap qu:=putAt_all _ _ (by rw[hZl,hAl];simp);rw[hpa]at hc1;simp only[qq1,qrx,qrJ,Int.add_zero]at hw hnz hle hge htn hZ hc1;simp only[qqQ]at hs;have hcz:∀ U:St,yw (Dof Tryz.prog) U 23 (.sl 4 [] .none) (.sl 4 [] .none)=some (.int .i64 0,U):=fun U=>by simp[yw,Wv]
     generalize p.hard.flatMap qu=FE at *;simp[-getElem?_pos];refine qd.call hs (by simp) ?_;have hhn:¬ p.hard=[]:=qqB.1 hhp;simp[-getElem?_pos,hw,hnz,hle,hge,hhn,qA,<- hZ,hc1,hsl2,hcz];exact⟨(ho (.cells (qL p))).frzNo zi (fun x=>nrE x) js 7,(ho (.cells (qL p))).frz zi (fun x=>nrE x) js 7⟩
   . have hSp:=qqB.2 hS0;have hsl2:zt (.ms 1 0 (p.hard.length+S.length) 4) (some (.int .i64 p.hard.length)) none none=some (.ms 1 (p.hard.length*4) S.length 4):=by
      have h3:p.hard.length+S.length-p.hard.length=S.length:=(by omega);rw[sl_ms _ _ (by omega),h3]
     have hc2:∀ B0:Blk,yw (Dof Tryz.prog) ⟨[B0,.cells (zp Z 0 (p.hard.flatMap qu))],[]⟩ 23 (.ms 1 (p.hard.length*4) S.length 4) (.sl 4 (S.map qu) .none)=some (.int .i64 S.length,⟨[B0,.cells ((p.hard++S).flatMap qu)],[]⟩):=fun B0=>by
      have hl:p.hard.length*4+S.length*4<=(p.hard.length+S.length)*4:=(by omega);simp[yw,Wv,qkV,hS0,htB,hB,hZ1l,hl,-List.flatMap_append,h2]
     have ho:∀ B0:Blk,jt 1 4 qu [B0,.cells ((p.hard++S).flatMap qu)] (.ms 1 0 (p.hard.length+S.length) 4) (p.hard++S):=fun B0=>.inr ⟨by simp[hS0],by simp,rfl⟩
     generalize (p.hard++S).flatMap qu=FE at *;generalize zp Z 0 (p.hard.flatMap qu)=Z1 at *;simp[-getElem?_pos];refine qd.call hs (by simp) ?_;simp[-getElem?_pos,hw,hnz,hle,hge,qA,htn,<- hZ,hc1,hsl2,hc2];have f1:=(ho (.cells (qL p))).frz zi (fun x=>nrE x) js 7;have f2:=(ho (.cells (qL p))).frzNo zi (fun x=>nrE x) js 7;rw[qrc]at f1;exact⟨f2,f1⟩
def Jb (e:Ex):Prop:=Wen e/\hgt e<=1000/\(pre e).length<=100000
theorem qoS:∀ (e x:Ex),x∈pre e->(pre x).length<=(pre e).length:=by
 refine Ex.ind fun e ih x hx=>?_
 rw[jk]at hx;rcases qqM.1 hx with rfl|hx
 . exact qqw _
 . obtain⟨a,ha,hxa⟩:=Qi.1 hx;exact qro (ih a ha x hxa) (qd1 ha)
theorem EOk.tame {s:Str}{e:Ex}{h m:Nat}(ho:EOk s h m e)(hs:Fits s)(hh:h<=1000)(hm:m<=100000):Jb e:=by
 refine⟨fun x hx=>?_,qro ho.hgt hh,qro ho.size hm⟩;have h1:=qoS e x hx;have h2:=qe0 x;have h3:=ho.size;obtain⟨n1,n2,n3,n4⟩:=ho.nodes x hx;refine⟨by show x.args.length<_;omega,?_⟩;by_cases h:x.op=2
 . rw[n4 h];exact hs
 . have:=(z9 n1).2.2.2.2.2.2.2 (by rintro (h' | h' | h');exact h h';exact n2 h';exact n3 h');rw[this];simp[Fits]
theorem qa0 (n:Int):Jb (jq n):=by
 refine⟨fun x hx=>?_,by simp[ve,jq],by rw[Ze];simp⟩;rw[Ze]at hx;simp only[qqM,qrI,or_false]at hx;subst hx;exact⟨by simp[jq,Fits,Ex.args],by simp[jq,Fits,Ex.name]⟩
theorem Ya {s:Str}(hs:ku s=true)(hf:Fits s){l:List Rg}(hl:l.length<=128)(hr:∀ r∈l,qjS r):Jb (ye s l):=by
 unfold ye;split
 . exact qa0 0
 . rename_i h0;have hpos:=qqB.2 h0;have h1:=EOk.ins hs (l:=l.take 16) (qqB.1 (by rw[qqY];omega)) (by rw[qqY];omega) (fun r h=>hr r (qrk h));have h2:=EOk.chain hs (z6 16 l.length (l.drop 16)) (h:=0) h1 (fun c hc=>by
    obtain⟨a,b,c'⟩:=YD (by omega) _ _ c hc;exact⟨a,b,fun r h=>hr r (qrP (c' r h))⟩)
   have h3:=YE (n:=16) (by omega) l.length (l.drop 16) 7 (by rw[qrE];omega);exact h2.tame hf (by omega) (by omega)
theorem qhc {vs:List Var}(hv:∀ v∈vs,jF v=0)(hf:∀ v∈vs,Fits v.name)(d:Dist):Jb (KB vs d):=by
 unfold KB;split
 . rename_i v h;have hm:=qqm h;have h1:=qR (hv v hm);have h2:=qch v d.weights;have h3:=WY h1.2.2;have h4:=W4 (N:=(zZ v:Nat)) h2.1 (fun x hx=>by have:=h2.2 x hx;omega) (by omega);exact Ya h1.1 (hf v hm) (by omega) h4.1
 . exact qa0 0
theorem Zj {p:Problem}(h:VQ p)(hv:qk p=0):∀ e∈zP p++p.soft,wO p.vars e=true/\Jb e:=by
 have hx:∀ e∈p.hard++p.soft,zm p.vars e=0:=by
  have:qU (zm p.vars) (p.hard++p.soft)=0:=by
   unfold qk at hv;split at hv
   . exact absurd hv (by assumption)
   . split at hv
     . rename_i h1;exact absurd hv h1
     . rename_i h1;exact qq8.1 h1
  exact zl.1 this
 intro e he;have hs:yq p=vH p:=if_pos hv;rw[zP,hs]at he;rcases qqE.1 he with he|he
 . rcases qqE.1 he with he|he
   . exact⟨decide_eq_true (hx e (qqX _ he)),h.exprs e (qqX _ he)⟩
   . obtain⟨d,hd,rfl⟩:=qqS.1 he;exact⟨decide_eq_true (qfu (zJ hv) d),qhc (zJ hv) h.names d⟩
 . exact⟨decide_eq_true (hx e (qrp _ he)),h.exprs e (qrp _ he)⟩
def Need0 (H:List Blk)(T:List (Option Nat))(r:AV)(U':St):Prop:=r=.sl 4 [] (.chain T.length 0)/\U'.T=T++[some 0]/\∃ u,U'.H=H++u
theorem qfP (p:Problem)(h:VQ p)(hd:p.dists.length<=10000)(h1:p.hard=[])(h2:yq p=[])(H:List Blk)(T:List (Option Nat)):qg Tryz.prog GG 57 [.agg (qL p)] ⟨H,T⟩ (Need0 H T):=by
 refine qg.k qe Tryz.func57 rfl (by kernel_rfl) ?_;have hs:=Jc p h hd;rw[h2]at hs;have h00:IntKind.i64.wrap 0=0:=by decide
 simp only[qL,h1]at hs;simp[-getElem?_pos,h1];refine qd.call hs (by simp) ?_;simp[-getElem?_pos,h00,h1,qA,yw,Wv,zt,zS,yY,z5];exact⟨rfl,rfl,_,rfl⟩
noncomputable def wP (p:Problem):List Int×Int :=
 if qk p=0 then (if jT p.vars (zP p)=true then ((kV p.vars (zP p) (JF p.soft)).reverse.map (·.1),0) else ([],11)) else ([],1)
theorem qlG (p:Problem)(h:VQ p)(hv:qk p≠0):Pure Tryz.prog GG 56 [.agg (qL p)] (.tup [.sl 1 ((wP p).1.map qo) .none,.int .i64 (wP p).2]):=by
 have hr:wP p=([],1):=if_neg hv;rw[hr];refine Pure.kO o0 true qe Tryz.func56 rfl (by kernel_rfl) ?_;have hval:=jW p h;simp only[qL]at hval;simp[-getElem?_pos];refine qd.call hval (by simp) ?_;simp[-getElem?_pos,hv];rw[qv (by simp)];exact⟨by simp,by simp[Leq,zj]⟩
theorem qfY (p:Problem)(h:VQ p)(hv:qk p=0)(hv20:p.vars.length<=20)(hb:yJ p.vars (qC p)<=18)(hd:p.dists.length<=10000)(hs:jT p.vars (zP p)=false):Pure Tryz.prog GG 56 [.agg (qL p)] (.tup [.sl 1 ((wP p).1.map qo) .none,.int .i64 (wP p).2]):=by
 have hr:wP p=([],11):=by unfold wP;rw[if_pos hv,hs,if_neg (by simp)]
 rw[hr];refine Pure.kO o0 true qe Tryz.func56 rfl (by kernel_rfl) ?_;have hval:=jW p h;have hn:=YL p h hd;have hk:=Zj h hv;have hfn:Fits (zP p):=by
  have h1:=h.hard;have h2:(yq p).length<=10000:=by
   have:yq p=vH p:=if_pos hv;rw[this,vH,qqZ];exact hd
  show (zP p).length<_;rw[zP,qqr];omega
 have hso:=QI p (zP p) h hv20 hb hfn (fun e he=>(hk e (qqX _ he)).2);have hsb:Jy p (zP p)=false:=by
  unfold Jy;rw[hs];simp
 rw[hsb]at hso;generalize zP p=N at *;simp only[qL]at hval hn hso;simp[-getElem?_pos];refine qd.call hval (by simp) ?_;simp[-getElem?_pos,hv];refine qd.call hn (by simp) ?_;simp[-getElem?_pos];refine qd.call hso (by simp) ?_;simp[-getElem?_pos];rw[qv (by simp)];exact⟨by simp,by simp[Leq,zj]⟩
theorem qio {α:Type}{en:α->List AV}{sz:Nat}{R:List α}{tok:Tok}{n:Int}(hn:n=(R.length:Int))(h:R≠[]\/tok.known=true):zt (.sl sz (R.map en) tok) none (some (.int .i64 n)) (some (.int .i64 n))=some (.sl sz (R.map en) .tight):=by
 subst hn;have h2:(R.map en).take R.length=R.map en:=qqu (by simp);have h3:0<R.length\/tok.known=true:=h.imp qqB.2 id;simp[zt,zS,yY,z5,vk,h2,h3]
theorem Vu {R:List Ex}{X:Ex}{H:List Blk}{T:List (Option Nat)}(hR:R.length<1000000):qD (Dof Tryz.prog) ⟨H,T⟩ 23 (.sl 4 (R.map qu) .tight) (.sl 4 [qu X] .tight)=some (.sl 4 ((R++[X]).map qu) (.chain T.length 1),⟨H,T++[some 1]⟩):=by
 have h1:R.length+1<=549755813888:=by omega
 simp[qD,zg,h1]
theorem qej (l:List Ex):(JF l).length=l.length:=by simp[JF]
theorem qhW {l:List Ex}{k:Nat}{q:Int×Ex}(h:(JF l)[k]?=some q):k<l.length/\q.1=((l.length-1-k:Nat):Int)/\l[l.length-1-k]?=some q.2:=by
 unfold JF at h;have hk:=(qql.1 h).1;simp at hk;rw[List.getElem?_reverse (by simpa using hk)]at h;simp only[qqZ,List.length_zipIdx,qqI,qsw,qse]at h
 cases hx:l[l.length-1-k]? with
 | none=>rw[hx]at h;simp at h
 | some x=>rw[hx]at h;simp at h;subst h;exact⟨hk,rfl,rfl⟩
theorem revset {d:List Int}{m:Nat}{v:Int}(h:d.length<m):(List.replicate (m-d.length) (0:Int)++d.reverse).set (m-1-d.length) v=List.replicate (m-(d.length+1)) 0++(d++[v]).reverse:=by
 have h1:List.replicate (m-d.length) (0:Int)=List.replicate (m-(d.length+1)) 0++[0]:=by
  rw[show m-d.length=(m-(d.length+1))+1 by omega,qsL]
 rw[h1,qqV,qrn _ _ (by simp;omega)];have h2:m-1-d.length-(List.replicate (m-(d.length+1)) (0:Int)).length=0:=by simp;omega
 rw[h2];simp
theorem JT {H:List Blk}{n:Nat}{a r:AV}{k:IntKind}{z:Int}(h1:qF (frz H n a)=true)(h2:Leq (frz H n a) r)(h3:qF a=true->Leq a r) :
 qF (frz H (n+1) (.tup [a,.int k z]))=true/\Leq (frz H (n+1) (.tup [a,.int k z])) (.tup [r,.int k z]):=by
 by_cases hn:qF a=true
 . rw[qv (by simp[hn])];exact⟨by simp[hn],by simp[Leq,zj,h3 hn]⟩
 . have:frz H (n+1) (.tup [a,.int k z])=.tup [frz H n a,.int k z]:=by
    have h0:frz H n (.int k z)=.int k z:=qv rfl;rw[frz,if_neg (by simp[hn])];simp[h0]
   rw[this];exact⟨by simp[h1],by simp[Leq,zj,h2]⟩
def NeedU (p:Problem)(H:List Blk)(r:AV)(U':St):Prop:=∃ tok u T',r=.sl 4 ((zP p).map qu) tok/\(zP p≠[]\/tok.known=true)/\U'=⟨H++u,T'⟩
theorem qfO (p:Problem)(h:VQ p)(hd:p.dists.length<=10000)(H:List Blk)(T:List (Option Nat)):qg Tryz.prog GG 57 [.agg (qL p)] ⟨H,T⟩ (NeedU p H):=by
 by_cases hN:zP p=[]
 . have h0:p.hard=[]/\yq p=[]:=(by rw[zP]at hN;simpa using hN);refine (qfP p h hd h0.1 h0.2 H T).imp ?_;rintro v ⟨H1,T1⟩ ⟨rfl,hT,u,hH⟩;simp only at hT hH;subst hH;exact⟨_,u,T1,by rw[hN];rfl,.inr rfl,rfl⟩
 . refine qg.call (YL p h hd) (by simp) ?_;exact⟨.none,[],T,rfl,.inl hN,by simp⟩
theorem qjY (p:Problem)(h:VQ p)(hv20:p.vars.length<=20)(hb:yJ p.vars (qC p)<=18)(hd:p.dists.length<=10000)(hs5:p.soft.length<=10000) :
 Pure Tryz.prog GG 56 [.agg (qL p)] (.tup [.sl 1 ((wP p).1.map qo) .none,.int .i64 (wP p).2]):=by
 by_cases hv:qk p=0
 case neg=>exact qlG p h hv
 by_cases hs:jT p.vars (zP p)=true
 case neg=>exact qfY p h hv hv20 hb hd (by simpa using hs)
 have hr:wP p=((kV p.vars (zP p) (JF p.soft)).reverse.map (·.1),0):=by unfold wP;rw[if_pos hv,if_pos hs]
 rw[hr];dsimp only;obtain⟨RES,hRES⟩:∃ RES,RES=(kV p.vars (zP p) (JF p.soft)).reverse.map (·.1):=⟨_,rfl⟩;rw[<- hRES];refine Pure.kO o0 true qe Tryz.func56 rfl (by kernel_rfl) ?_;have hval:=jW p h;have hn:=YL p h hd;have hk:=Zj h hv;have h1:=h.hard;have h2:(yq p).length<=10000:=by
  have:yq p=vH p:=if_pos hv;rw[this,vH,qqZ];exact hd
 have hNl:(zP p).length<=20000:=by rw[zP,qqr];omega
 have hso:=fun l (hl:l.length<40000) (hx:∀ e∈l,wO p.vars e=true/\Jb e)=>QI p l h hv20 hb (by show l.length<_;omega) (fun e he=>(hx e he).2)
 have hsb:∀ l,(∀ e∈l,wO p.vars e=true/\Jb e)->Jy p l=jT p.vars l:=fun l hl=>by
  have:l.all (wO p.vars)=true:=qqy.2 fun e he=>(hl e he).1
  unfold Jy;rw[this];simp[hv]
 have hne:=qfO p h hd [.cells (qL p)] [];unfold NeedU at hne;have hso0:=hso (zP p) (by omega) (fun e he=>hk e (qqX _ he));rw[hsb _ (fun e he=>hk e (qqX _ he)),hs]at hso0;generalize zP p=N at *;generalize hL:JF p.soft=L at *;have hLl:L.length=p.soft.length:=by rw[<- hL,qej]
 simp only[qL]at hval hn hso0 hne hso;simp[-getElem?_pos];refine qd.call hval (by simp) ?_;simp[-getElem?_pos,hv];refine qd.acall hne ?_;rintro v U ⟨tok,u,T,rfl,htok,rfl⟩;simp[-getElem?_pos];refine qd.pure hso0 (by cases tok<;>simp) (by cases tok<;>simp[zj,Leq,jZ.refl]) ?_;have hsoft:(p.soft.length:Int)-1=(p.soft.length:Int)-1-(([]:List (Int×Ex)).length:Int):=by simp
 have hw1:=wr (n:=(p.soft.length:Int)-1) (by omega) (by omega);simp[-getElem?_pos,hw1];refine qM.listR L (fun d ev U=>ev 1=.ptr 0 0/\ev 6=.int .i64 ((p.soft.length:Int)-1-d.length)/\∃ R K tok u T,(∀ r,L=d++r->kV p.vars N L=K++kV p.vars R r)/\(∀ e∈R,wO p.vars e=true/\Jb e)/\R.length<=20000+d.length/\K.length<=d.length/\ev 4=.sl 4 (R.map qu) tok/\(R≠[]\/tok.known=true)/\KK 0 1 qo T (ev 5) (K.map (·.1))/\U=⟨.cells (qL p)::u,T⟩) ?_ ?_ ?_
 . refine⟨by simp,by simp,N,[],tok,u,T,fun r hr=>by rw[hr];rfl,fun e he=>hk e (qqX _ he),by simpa using hNl,by simp,by simp,htok,by simpa using KK.nil,by simp⟩
 . rintro d x rest ev U R0 hR hdl hx hlt ⟨e1,e6,R,K,tok2,u2,T2,hkeep,hRk,hRl,hKl,e4,htok2,e5,rfl⟩;have hna:=qhW (l:=p.soft) (k:=d.length) (q:=x) (by rw[hL];exact hx);obtain⟨n1,n2,n3⟩:=hna;have e6':ev 6=.int .i64 ((p.soft.length-1-d.length:Nat):Int):=(by rw[e6];congr 1;omega);have hge:(0:Int)<=((p.soft.length-1-d.length:Nat):Int):=(by omega);have hsl:=qio (en:=qu) (sz:=4) (R:=R) (tok:=tok2) rfl htok2;have hxk:=hk x.2 (qrp _ (qqm n3));have hRk2:∀ e∈R++[x.2],wO p.vars e=true/\Jb e:=fun e he=>by
    rcases qqE.1 he with he|he
    . exact hRk e he
    . rw[qqU]at he;rw[he];exact hxk
   have hso2:=hso (R++[x.2]) (by rw[qqr,qqO];omega) hRk2;rw[hsb _ hRk2]at hso2;have hlt2:p.soft.length-1-d.length<p.soft.length:=(by omega);have hap:=fun H T=>Vu (R:=R) (X:=x.2) (H:=H) (T:=T) (by omega)
   have ha:=yD x.2;have hl4:=zi x.2;have hnr:=nrEs (R++[x.2]);simp only[qrc,qqx,qqQ]at hnr;have htk:(qu x.2).take 4=qu x.2:=qqu (by rw[hl4];exact qqw _);have hw2:=wr (n:=((p.soft.length-1-d.length:Nat):Int)-1) (by omega) (by omega);have hEx:x.1=((p.soft.length-1-d.length:Nat):Int):=n2;generalize hI:p.soft.length-1-d.length=I at *;obtain⟨v5,T5,hap5,h5,hT5⟩:=(e5.ext (T':=T2++[some 1]) (qtm _ _)).append (m:=[x.1]) (D:=Dof Tryz.prog) (ty:=44) (tok:=.tight) (T0:=[]) (T:=T2++[some 1]) (List.nil_prefix) (D44) rfl (D3) rfl (by decide) (by rfl) (by decide) (by simp;omega) 1 (.inl rfl);simp only[qqx,qqQ,qo]at hap5;simp[-getElem?_pos,-qO,e1,e4,e6',hge,hsl,n3,htk,ha,hl4,qh,qw,hap];refine qd.pure hso2 (by simp[hnr]) (by simp) ?_;have hIm:((I:Int)-1)=((p.soft.length:Int)-1-((d++[x]).length:Nat)):=(by rw[qqr,qqO];omega);have hwx:IntKind.i64.wrap (x.1-1)=(p.soft.length:Int)-1-((d.length:Int)+1):=(by rw[hEx,hw2,hIm,qqr,qqO];omega)
   cases hso3:jT p.vars (R++[x.2]) with
   | true=>
    simp[-getElem?_pos,-qO,e6',qh,qw,hwx,<- hEx,hap5];refine hR _ _ ⟨by simp[e1],by simp,R++[x.2],K++[x],.chain T2.length 1,u2,T5,fun r hr=>?_,hRk2,by simp;omega,by simp;omega,by simp,.inl (by simp),by simpa using h5,rfl⟩;rw[hkeep (x::r) (by rw[hr];simp),kV,if_pos hso3];simp
   | false=>
    simp[-getElem?_pos,-qO,e6',hw2];refine hR _ _ ⟨by simp[e1],by simp[hIm],R,K,tok2,u2,T2++[some 1],fun r hr=>?_,hRk,by simp;omega,by simp;omega,by simp[e4],htok2,by simpa using e5.ext (qtm _ _),rfl⟩;rw[hkeep (x::r) (by rw[hr];simp),kV,if_neg (by rw[hso3];simp)]
 . rintro ev U ⟨e1,e6,R,K,tok2,u2,T2,hkeep,hRk,hRl,hKl,e4,htok2,e5,rfl⟩;rw[hLl]at e6;have e6':ev 6=.int .i64 (-1):=(by rw[e6];congr 1;omega);have hK:=hkeep [] (by simp);rw[show kV p.vars R []=[] from rfl,qq5]at hK;rw[hK,List.map_reverse]at hRES;generalize hKI:K.map (·.1)=KI at *;have hKIl:KI.length<=10000:=(by rw[<- hKI,qqZ];omega);subst hRES;rcases e5 with ⟨rfl,e5⟩|⟨hne,t,_,e5,_⟩
   . simp[-getElem?_pos,e6',e5,qA];refine qM.gen (fun m ev U=>ev 8=.sl 1 [] (.chain T2.length 0)/\ev 53=.int .i64 0/\ev 54=.int .i64 0) 0 ⟨by simp,by simp,by simp⟩ ?_;rintro m ev U R hR ⟨e8,e53,e54⟩;simp[-getElem?_pos,e8,e53,e54];have hf:∀ H,frz H 7 (.sl 1 [] (.chain T2.length 0))=.sl 1 [] .none:=fun H=>by rw[frz];simp[qF]
     exact JT (by rw[hf];rfl) (by rw[hf];exact Leq.refl _) (by simp)
   . have hKn:¬ (KI.length:Int)=0:=(by have:=qqB.2 hne;omega);have hKle:(KI.length:Int)<=549755813888:=(by omega);have hKp:=qqB.2 hne;simp[-getElem?_pos,e6',e5,qA,hKle,hne];refine qM.listR KI (fun d ev U=>ev 8=.ms (u2.length+1) 0 KI.length 1/\ev 52=.sl 1 (KI.map qo) (.chain t KI.length)/\ev 53=.int .i64 KI.length/\ev 54=.int .i64 d.length/\∃ H T,U=⟨H,T⟩/\H[u2.length+1]?=some (.cells (zB (List.replicate (KI.length-d.length) 0++d.reverse)))) ?_ ?_ ?_
     . refine⟨by simp,by simp,by simp,by simp,_,_,rfl,?_⟩;simp[zB]
     . rintro d x rest ev U R hR hdl hx hlt ⟨e8,e52,e53,e54,H,T,rfl,hH⟩;have hdw:=wr (n:=(d.length:Int)+1) (by omega) (by omega);have hkw:=wr (n:=(KI.length:Int)-1) (by omega) (by omega);have hkw2:=wr (n:=(KI.length:Int)-1-d.length) (by omega) (by omega);have hI:((KI.length:Int)-1-d.length)=((KI.length-1-d.length:Nat):Int):=(by omega);have hlen:(zB (List.replicate (KI.length-d.length) 0++d.reverse)).length=KI.length:=(by rw[za];simp;omega);have hlt3:KI.length-1-d.length<KI.length:=(by omega);have hlt4:KI.length-1-d.length+1<=KI.length:=(by omega);have hset:=yC (a:=List.replicate (KI.length-d.length) 0++d.reverse) (i:=KI.length-1-d.length) (x:=x);have hHl:=(qql.1 hH).1;rw[revset hlt]at hset;rw[hI]at hkw2;generalize hJ:KI.length-1-d.length=J at *;simp[-getElem?_pos,e8,e52,e53,e54,hlt,hx,hkw,hI,hkw2,hH,hlen,hlt3,hlt4,hset,hdw];exact hR _ _ ⟨by simp[e8],by simp[e52],by simp[e53],by simp,_,_,rfl,by rw[qqr,qqO,qsP];exact qqp hHl⟩
     . rintro ev U ⟨e8,e52,e53,e54,H,T,rfl,hH⟩;rw[qrB,qth,qqJ]at hH;simp[-getElem?_pos,e8,e53,e54];have hne2:KI.reverse≠[]:=(by simpa using hne);have ho:jt (u2.length+1) 1 qo H (.ms (u2.length+1) 0 KI.length 1) KI.reverse:=.inr ⟨hne2,by simp,by rw[hH,kh]⟩;have f1:=ho.frz (fun x=>by simp) (fun x=>by simp) (fun x=>by simp) 6;have f2:=ho.frzNo (fun x=>by simp) (fun x=>by simp) (fun x=>by simp) 6;rw[List.map_reverse]at f1;exact JT f2 f1 (by simp)
def vd (vs:List Var)(q:List Int×Int)(i:Int):List Int×Int:=(q.1.set i.toNat q.2,q.2+zG vs i.toNat)
def kU (vs:List Var)(l:List Int):List Int×Int:=l.foldl (vd vs) (List.replicate vs.length (-1),0)
def qV (p:Problem):List Int:=(kU p.vars p.groups.flatten).1
theorem Wu (vs:List Var)(l:List Int)(i:Int):kU vs (l++[i])=vd vs (kU vs l) i:=by simp[kU,qrC]
theorem Zm (vs:List Var):∀ l:List Int,(kU vs l).1.length=vs.length:=by
 intro l;have:∀ (l:List Int) (q:List Int×Int),(l.foldl (vd vs) q).1.length=q.1.length:=by
  intro l
  induction l with
  | nil=>intro q;rfl
  | cons a r ih=>intro q;rw[qq7,ih];simp[vd]
 unfold kU;rw[this];simp
theorem j4 {p:Problem}(h:qk p=0):jS p.vars p.groups:=by
 have hd:zC p.vars p.groups=0:=by
  unfold qk at h;split at h
  . exact absurd h (by assumption)
  . split at h
    . rename_i h1;exact absurd h h1
    . split at h
      . rename_i h1;exact absurd h h1
      . exact h
 unfold zC at hd;split at hd
 . assumption
 . cases hd
theorem Ys {vs:List Var}{i:Int}(h:yA vs i=true):∃ (n:Nat) (v:Var),i=n/\vs[n]?=some v/\v.mode≠0:=by
 simp only[yA,qqq,decide_eq_true_eq]at h;obtain⟨j,hj⟩:=qqR h.1;have h2:=h.2;rw[hj]at h2;simp only[qrg]at h2
 cases hv:vs[j]? with
 | none=>rw[hv]at h2;simp at h2
 | some v=>rw[hv]at h2;exact⟨j,v,hj,hv,by simpa using h2⟩
theorem qfT {vs:List Var}(hw:∀ v∈vs,0<=v.width/\v.width<=8):∀ l:List Int,0<=(kU vs l).2/\(kU vs l).2<=8*l.length:=by
 intro l;have:∀ (l:List Int) (q:List Int×Int),0<=q.2->0<=(l.foldl (vd vs) q).2/\(l.foldl (vd vs) q).2<=q.2+8*l.length:=by
  intro l
  induction l with
  | nil=>intro q h;simp[h]
  | cons a r ih=>
   intro q h;have hwa:0<=zG vs a.toNat/\zG vs a.toNat<=8:=by
    unfold zG;split
    . rename_i v hv;exact hw v (qqm hv)
    . omega
   have:=ih (vd vs q a) (by simp only[vd];omega);rw[qq7];simp only[vd,qqC]at this ⊢;omega
 have:=this l (List.replicate vs.length (-1),0) (qtP _);simpa[kU] using this
theorem YK:∀ (n:Nat) (l:List Int),l.Nodup->(∀ x∈l,0<=x/\x<n)->l.length<=n
 | 0,l,_,h=>by
  cases l with
  | nil=>simp
  | cons a r=>have:=h a (by simp);omega
 | n+1,l,hn,h=>by
  by_cases hm:(n:Int)∈l
  . have h1:=YK n (l.erase (n:Int)) (hn.erase _) fun x hx=>by
     have h2:=(hn.mem_erase_iff).1 hx;have:=h x h2.2;omega
    rw[qs4 hm]at h1;omega
  . have h1:=YK n l hn fun x hx=>by
     have:=h x hx;have h2:x≠(n:Int):=fun e=>hm (e▸hx)
     omega
    omega
theorem ZT {p:Problem}(h:qk p=0):p.groups.flatten.length<=p.vars.length:=YK _ _ (j4 h).2.2.1 fun i hi=>by
 obtain⟨n,v,rfl,hn,_⟩:=Ys ((j4 h).2.1 i hi);have:=(qql.1 hn).1;omega
theorem qbX (p:Problem)(h:VQ p)(hv:qk p=0):Pure Tryz.prog GG 90 [.agg (qL p)] (.sl 1 ((qV p).map qo) .none):=by
 refine Pure.kO o0 true qe Tryz.func90 rfl (by kernel_rfl) ?_;have hval:=jW p h;have hg:=j4 hv;have hvars:=h.vars;have hw:∀ v∈p.vars,0<=v.width/\v.width<=8:=fun v hm=>by have:=qR (zJ hv v hm);omega
 obtain⟨LV,hLV⟩:∃ LV,LV=qV p:=⟨_,rfl⟩;rw[<- hLV];simp only[qL]at hval;simp[-getElem?_pos];refine qd.call hval (by simp) ?_;by_cases hv0:p.vars=[]
 . have hg0:p.groups=[]:=by
    apply qtd.2;intro g hgm;have h1:=hg.1 g hgm;obtain⟨i,hi⟩:=qtz g h1;have:=hg.2.1 i (qrs.2 ⟨g,hgm,hi⟩);obtain⟨n,v,_,hn,_⟩:=Ys this;rw[hv0]at hn;simp at hn
   have hL0:LV=[]:=(by rw[hLV,qV,hg0,hv0];rfl);subst hL0;simp[-getElem?_pos,hv,hv0,hg0,qA];refine qM.gen (fun m ev U=>ev 1=.ptr 0 0/\ev 3=.sl 1 [] (.chain 0 0)/\ev 18=.int .i64 0/\ev 19=.int .i64 0/\∃ u T,U=⟨.cells (qL p)::u,T⟩) 0 ⟨by simp,by simp,by simp,by simp,_,_,by simp[hv0,hg0];exact⟨rfl,rfl⟩⟩ ?_;rintro m ev U R hR ⟨e1,e3,e18,e19,u,T,rfl⟩;simp[-getElem?_pos,e1,e18,e19,hg0];refine qM.gen (fun m ev U=>ev 3=.sl 1 [] (.chain 0 0)/\ev 28=.int .i64 0/\ev 29=.int .i64 0) 0 ⟨by simp[e3],by simp,by simp⟩ ?_;rintro m ev U R hR ⟨e3,e28,e29⟩;simp[-getElem?_pos,e3,e28,e29];have hf:∀ H,frz H 8 (.sl 1 [] (.chain 0 0))=.sl 1 [] .none:=fun H=>by rw[frz];simp[qF]
   rw[hf];exact⟨rfl,Leq.refl _⟩
 . have hpos:=qqB.2 hv0;have hne:¬ (p.vars.length:Int)=0:=(by omega);have hle:(p.vars.length:Int)<=549755813888:=(by omega);simp[-getElem?_pos,hv,hv0,hle,qA];have hnd:=hg.2.2.1;have hfl:p.groups.flatten.length<=1000:=qro (ZT hv) hvars;have hgl:=h.groups;have hgf:=h.group;refine ki p.vars.length (fun i ev U=>ev 1=.ptr 0 0/\ev 3=.ms 1 0 p.vars.length 1/\ev 18=.int .i64 p.vars.length/\ev 19=.int .i64 (i:Int)/\U=⟨[.cells (qL p),.cells (zB (List.replicate i (-1)++List.replicate (p.vars.length-i) 0))],[]⟩) ?_ ?_ ?_
   . refine⟨by simp,by simp,by simp,by simp,?_⟩;simp[zB]
   . rintro i ev U R hR hi ⟨e1,e3,e18,e19,rfl⟩;have hw1:=wr (n:=(i:Int)+1) (by omega) (by omega);have hi':(i:Int)<p.vars.length:=(by omega);have hi1:i+1<=p.vars.length:=hi;have hll:(zB (List.replicate i (-1)++List.replicate (p.vars.length-i) 0)).length=p.vars.length:=(by rw[za];simp;omega);have hset:(zB (List.replicate i (-1)++List.replicate (p.vars.length-i) 0)).set i (.int .i64 (-1))=zB (List.replicate (i+1) (-1)++List.replicate (p.vars.length-(i+1)) 0):=by
      rw[yC,qrn _ _ (by simp)];have:p.vars.length-i=(p.vars.length-(i+1))+1:=by omega
      rw[this,qrF];simp[qsL]
     simp[-getElem?_pos,e3,e18,e19,hi',hi1,hll,hset,hw1];exact hR _ _ ⟨by simp[e1],by simp[e3],by simp[e18],by simp,rfl⟩
   . rintro ev U ⟨e1,e3,e18,e19,rfl⟩;rw[qrB,qth,qq5];have hL0:(kU p.vars []).1=List.replicate p.vars.length (-1):=rfl;rw[<- hL0];simp[-getElem?_pos,e1,e18,e19];refine qM.listR p.groups (fun dn ev U=>ev 1=.ptr 0 0/\ev 3=.ms 1 0 p.vars.length 1/\ev 5=.int .i64 (kU p.vars dn.flatten).2/\ev 27=.sl 1 (p.groups.map qN) .none/\ev 28=.int .i64 p.groups.length/\ev 29=.int .i64 dn.length/\U=⟨[.cells (qL p),.cells (zB (kU p.vars dn.flatten).1)],[]⟩) ?_ ?_ ?_
     . exact⟨by simp[e1],by simp[e3],by simp[kU],by simp,by simp,by simp,rfl⟩
     . rintro dn g rest ev U R hR hd hx hlt ⟨e1,e3,e5,e27,e28,e29,rfl⟩;have hdw:=wr (n:=(dn.length:Int)+1) (by omega) (by omega);have hlt':(dn.length:Int)<p.groups.length:=(by omega);have hgm:=qqm hx;have hgfit:=hgf g hgm;simp[-getElem?_pos,e27,e28,e29,hlt',hx];refine qM.listR g (fun dg ev U=>ev 1=.ptr 0 0/\ev 3=.ms 1 0 p.vars.length 1/\ev 5=.int .i64 (kU p.vars (dn.flatten++dg)).2/\ev 27=.sl 1 (p.groups.map qN) .none/\ev 28=.int .i64 p.groups.length/\ev 29=.int .i64 dn.length/\ev 33=.sl 1 (g.map qo) .none/\ev 34=.int .i64 g.length/\ev 35=.int .i64 dg.length/\U=⟨[.cells (qL p),.cells (zB (kU p.vars (dn.flatten++dg)).1)],[]⟩) ?_ ?_ ?_
       . exact⟨by simp[e1],by simp[e3],by simp[e5],by simp[e27],by simp[e28],by simp[e29],by simp,by simp,by simp,by simp⟩
       . rintro dg v rest2 ev U R2 hR2 hd2 hx2 hlt2 ⟨e1,e3,e5,e27,e28,e29,e33,e34,e35,rfl⟩;have hm:v∈p.groups.flatten:=qrs.2 ⟨g,hgm,qqm hx2⟩;obtain⟨n,vr,rfl,hn,_⟩:=Ys (hg.2.1 v hm);have hnl:=(qql.1 hn).1;have hdw2:=wr (n:=(dg.length:Int)+1) (by unfold Fits at hgfit;omega) (by unfold Fits at hgfit;omega);have hlt2':(dg.length:Int)<g.length:=(by omega);have hwv:=hw vr (qqm hn);have hpre:(dn.flatten++dg).length<=1000:=by
          have:(dn.flatten++dg).length<=p.groups.flatten.length:=by
           rw[hd,hd2];simp
          omega
         have hnx:=qfT hw (dn.flatten++dg);have hww:=wr (n:=(kU p.vars (dn.flatten++dg)).2+vr.width) (by omega) (by omega);have hs:=Wu p.vars (dn.flatten++dg) (n:Int);have hln:=Zm p.vars (dn.flatten++dg);have hwa:zG p.vars n=vr.width:=(by simp[zG,hn]);simp only[vd,qrg,hwa]at hs;rw[qqV]at hs;generalize hQ:kU p.vars (dn.flatten++dg)=q at *;obtain⟨L,nx⟩:=q;simp only at *;have hll:(zB L).length=p.vars.length:=(by rw[za,hln]);have hn1:n+1<=p.vars.length:=hnl;have hn0:(n:Int)<p.vars.length:=(by omega);simp[-getElem?_pos,e1,e3,e5,e33,e34,e35,hlt2',hx2,hll,hn1,hn0,hn,yC,hww,hdw2];exact hR2 _ _ ⟨by simp[e1],by simp[e3],by simp[hs],by simp[e27],by simp[e28],by simp[e29],by simp[e33],by simp[e34],by simp,by simp[hs]⟩
       . rintro ev U ⟨e1,e3,e5,e27,e28,e29,e33,e34,e35,rfl⟩;simp[-getElem?_pos,e29,e34,e35,hdw];exact hR _ _ ⟨by simp[e1],by simp[e3],by simp[e5],by simp[e27],by simp[e28],by simp,by simp⟩
     . rintro ev U ⟨e1,e3,e5,e27,e28,e29,rfl⟩;have hLL:(kU p.vars p.groups.flatten).1=LV:=hLV.symm;have hln:=Zm p.vars p.groups.flatten;rw[hLL]at hln ⊢;simp[-getElem?_pos,e3,e28,e29];have hne2:LV≠[]:=fun e=>by rw[e]at hln;simp at hln;omega
       have ho:jt 1 1 qo [.cells (qL p),.cells (zB LV)] (.ms 1 0 p.vars.length 1) LV:=.inr ⟨hne2,by rw[hln],by rw[kh];rfl⟩;exact⟨ho.frzNo (fun x=>by simp) (fun x=>by simp) (fun x=>by simp) 7,ho.frz (fun x=>by simp) (fun x=>by simp) (fun x=>by simp) 7⟩
theorem yo {p:Problem}(h:qk p=0):(p.vars.map (·.name)).Nodup:=by
 have hv:zX p.vars=0:=by
  unfold qk at h;split at h
  . exact absurd h (by assumption)
  . rename_i h1;exact qq8.1 h1
 have hd:qnK p.vars=false:=by
  unfold zX at hv;split at hv
  . cases hv
  . split at hv
    . rename_i h1;exact absurd hv h1
    . split at hv
      . cases hv
      . rename_i h1;simpa using h1
 unfold qnK at hd;rw[qrz]at hd;refine qsa.2 fun i j hi hj hij e=>?_
 simp only[qqZ]at hi hj;rw[qrK,qrK]at e;have:=hd j (qra.2 hj);unfold vX at this;rw[qqo hj]at this;simp only[vz,qqN]at this;exact this ⟨p.vars[i],by rw[qtA];exact⟨i,by omega,rfl⟩,by simpa using e⟩
theorem qal {vs:List Var}{m:Nat}{U:St}(hm:U.H[m]?=some (wY vs))(hn:(vs.map (·.name)).Nodup){i:Nat}{v:Var}(hv:vs[i]?=some v):zw (Dof Tryz.prog) U 214 (.map m) (.str v.name) true=some (.tup [.int .i64 (i:Int),.bool true]):=by
 have:=qdw hn hv 0;unfold wY at hm;generalize (vD vs).map Jj=E at *;simp[zw,hm,zA,this]
theorem qom (p:Problem)(e:Ex)(hn:(p.vars.map (·.name)).Nodup)(hk:zm p.vars e=0)(ht:Jb e){H:List Blk}{M:Nat}(hM:H[M]?=some (wY p.vars))(T:List (Option Nat)) :
 qg Tryz.prog GG 227 [.map M,.agg (qu e)] ⟨H,T⟩ (fun r U'=>r=.int .i64 0/\KpL [] H U'.H):=by
 refine qg.k qe Tryz.func227 rfl (by kernel_rfl) ?_;have ha:=v9 e ht.1 ht.2.2;have hna:=Zk e ht.1 ht.2.2;have he:zh e=0/\Jx e=false/\QQ p.vars e=false:=by
  unfold zm at hk;split at hk
  . rename_i h;exact absurd hk h
  . rename_i h;split at hk
    . cases hk
    . split at hk
      . cases hk
      . rename_i h2 h3;exact⟨qq8.1 h,by simpa using h2,by simpa using h3⟩
 have h0:zF [3,24] e=[]:=by
  have:=Qr (e:=e);rw[he.2.1]at this
  cases hl:zF [3,24] e with
  | nil=>rfl
  | cons a r=>rw[hl]at this;simp at this
 have hall:∀ s∈zF [2] e,∃ (i:Nat) (v:Var),p.vars[i]?=some v/\v.name=s:=fun s hs=>by
  have:=Qm (l:=p.vars) (e:=e);rw[he.2.2,qrz]at this;have h1:=this s hs;simp only[qrV,Bool.not_eq_false,vz,qqN]at h1;obtain⟨v,hv,hvn⟩:=h1;obtain⟨i,hi⟩:=qq2 hv;exact⟨i,v,hi,by simpa using hvn⟩
 have hfit:(zF [2] e).length<=100000:=YM ht.2.2;rw[h0]at ha;have henc:=qc e;rw[henc]at ha hna ⊢;generalize zF [2] e=N at *;simp[-getElem?_pos];refine qd.call ha (by simp) ?_;simp[-getElem?_pos];refine qd.call hna (by simp) ?_;simp[-getElem?_pos];refine qM.listR N (fun d ev U=>ev 0=.map M/\ev 14=.sl 1 (N.map jc) .none/\ev 15=.int .i64 N.length/\ev 16=.int .i64 d.length/\KpL [] H U.H) ?_ ?_ ?_
 . exact⟨by simp,by simp,by simp,by simp,KpL.app⟩
 . rintro d s rest ev ⟨H1,T1⟩ R hR hd hx hlt ⟨e0,e14,e15,e16,hkp⟩;dsimp only at hkp;obtain⟨i,v,hi,hvn⟩:=hall s (qqm hx);have hl:=qal (U:=⟨H1,T1⟩) (hkp.2 _ _ hM (by simp)) hn hi;rw[hvn]at hl;have hdw:=wr (n:=(d.length:Int)+1) (by omega) (by omega);have hlt':(d.length:Int)<N.length:=(by omega);simp[-getElem?_pos,e0,e14,e15,e16,hlt,hlt',hx,hl,hdw];exact hR _ _ ⟨by simp[e0],by simp[e14],by simp[e15],by simp,hkp⟩
 . rintro ev ⟨H1,T1⟩ ⟨e0,e14,e15,e16,hkp⟩;simp[-getElem?_pos,e15,e16];exact hkp
def qld:List (Nat×Sch×List Nat):=[(7,.step 0 [7,3,2,1] (.step 1 [7,3,2] (.step 2 [7,3] (.step 3 [7] (.step 4 [7,5] (.step 5 [7] (.step 6 [7] (.step 7 [] (.done)))))))),[]),(9,.step 0 [8,7] (.step 1 [8,7,6,4,3,2] (.step 2 [8,7,6,4,3] (.step 3 [8,7,6,4] (.step 4 [8,7,6] (.step 5 [8,7,6] (.step 6 [8,7] (.step 7 [8] (.step 8 [] (.done))))))))),[6])]
def BldQ (d:List Nd)(p:Problem)(H:List Blk)(r:AV)(U':St):Prop :=
 ∃ B M,r=.tup [.ptr B 0,.int .i64 0]/\H.length<=B/\H.length<=M/\M≠B/\KpL [] H U'.H/\U'.H[B]?=some (.cells (.sl 3 (d.map qI) .none::(qL p++[.sl 1 ((qV p).map qo) .none,.map M])))/\U'.H[M]?=some (wY p.vars)
theorem qfi {vs:List Var}{i:Nat}{v:Var}(hv:vs[i]?=some v):vD (vs.take (i+1))=vD (vs.take i)++[(v.name,.int .i64 (i:Int),i)]:=by
 have hl:=(qql.1 hv).1;unfold vD;rw[qqT,hv];simp[qso,qsr (qt1 hl)]
theorem qkh {vs:List Var}(hn:(vs.map (·.name)).Nodup){i:Nat}{v:Var}(hv:vs[i]?=some v)(k:Nat):jA (.str v.name) ((vD (vs.take i)).map Jj) k=some none:=by
 have hl:=(qql.1 hv).1;rcases Q4 (s:=v.name) (vD (vs.take i)) k with ⟨h1,_⟩|⟨j,q,h1,h2,_⟩
 . exact h1
 . exfalso;obtain⟨w,hw,rfl⟩:=qdx h1;rw[qq4]at hw;split at hw
   . rename_i hj;obtain⟨hj1,hj2⟩:=qql.1 hw;obtain⟨_,hi2⟩:=qql.1 hv;have hp:=qsa.1 hn;have h2:w.name=v.name:=h2;exact hp j i (by simpa using hj1) (by simpa using hl) hj (by rw[qrK,qrK,hj2,hi2,h2])
   . cases hw
theorem qkw (d:List Nd)(hd:DagOk d)(p:Problem)(h:VQ p)(hv:qk p=0)(e:Ex)(hk:zm p.vars e=0)(ht:Jb e)(H:List Blk)(T:List (Option Nat)) :
 qg Tryz.prog GG 174 [.agg (zR d),.agg (qL p),.agg (qu e)] ⟨H,T⟩ (BldQ d p H):=by
 refine qg.kO ⟨false,qld,[],[]⟩ qe Tryz.func174 rfl (by kernel_rfl) ?_;have hdv:=qbJ d hd;have hpv:=jW p h;have hev:=J9 e ht.1 (by have:=ht.2.1;omega);have hlv:=qbX p h hv;have hn:=yo hv;have he:zh e=0:=by
  unfold zm at hk;split at hk
  . rename_i h;exact absurd hk h
  . rename_i h;exact qq8.1 h
 have hvl:=h.vars;have huse:=fun H M (hM:H[M]?=some (wY p.vars)) T=>qom p e hn hk ht hM T
 rw[hv]at hpv;rw[he]at hev;generalize hLV:qV p=LV at *;rw[qc e]at hev huse ⊢;simp only[zR]at hdv;simp only[qL]at hpv hlv;simp[-getElem?_pos];refine qd.call hdv (by simp) ?_;simp[-getElem?_pos,unA];refine qd.call hpv (by simp) ?_;simp[-getElem?_pos];refine qd.call hev (by simp) ?_;simp[-getElem?_pos];rw[QP (by rfl)];simp[-getElem?_pos];refine qd.call hlv (by simp) ?_;simp[-getElem?_pos,qX,zu,qy];refine qM.listR p.vars (fun dn ev U=>ev 4=.ptr (H.length+1) 0/\ev 5=.ptr (H.length+2) 0/\ev 8=.ptr (H.length+4) 0/\ev 32=.sl 4 (p.vars.map qp) .none/\ev 33=.int .i64 p.vars.length/\ev 34=.int .i64 dn.length /\
  KpL [] H U.H/\U.H[H.length+1]?=some (.cells (qL p))/\U.H[H.length+2]?=some (.cells [.int .i64 e.op,.int .i64 e.n,.str e.name,.sl 4 (e.args.map qu) .none])/\U.H[H.length+3]?=some (.map ((vD (p.vars.take dn.length)).map Jj) dn.length) /\
  U.H[H.length+4]?=some (.cells (.sl 3 (d.map qI) .none::(qL p++[.sl 1 (LV.map qo) .none,.map (H.length+3)])))) ?_ ?_ ?_
 . refine⟨by simp,by simp,by simp,by simp,by simp,by simp,KpL.app,?_,?_,?_,?_⟩
   . exact lk1
   . exact lk2
   . exact lk3
   . exact lk4
 . rintro dn v rest ev ⟨H1,T1⟩ R hR hd hx hlt ⟨e4,e5,e8,e32,e33,e34,hkp,bP,bE,bM,bB⟩;dsimp only at hkp bP bE bM bB;have hdw:=wr (n:=(dn.length:Int)+1) (by omega) (by omega);have hlt':(dn.length:Int)<p.vars.length:=(by omega);have hf:=qkh hn hx 0;have ht1:=qfi hx;have hMl:=(qql.1 bM).1;have hup:∀ (u:List Blk) (T:List (Option Nat)),ze (Dof Tryz.prog) ⟨H1++u,T⟩ 214 (.map (H.length+3)) (.str v.name) (.int .i64 (dn.length:Int))=some ⟨H1.set (H.length+3) (.map ((vD (p.vars.take (dn.length+1))).map Jj) (dn.length+1))++u,T⟩:=fun u T=>by
    rw[ht1,qrc];generalize (vD (p.vars.take dn.length)).map Jj=E at *;simp[ze,qb bM,zA,hf,yN bM,Jj]
   generalize hE2:(vD (p.vars.take (dn.length+1))).map Jj=E2 at *;simp only[qL,qqP,qqJ]at bB;simp[-getElem?_pos,e4,e5,e8,e32,e33,e34,hlt,hlt',hx];rw[qH rfl];simp[-getElem?_pos,qP,e4,e5,e8,e32,e33,e34,qb bB,hup,hdw];refine hR _ _ ⟨by simp[e4],by simp[e5],by simp[e8],by simp[e32],by simp[e33],by simp,(hkp.setF (by omega)).trans KpL.app,qb (by rw[qqn (by omega)];exact bP) _,qb (by rw[qqn (by omega)];exact bE) _,?_,qb (by rw[qqn (by omega)];exact bB) _⟩;rw[qqr,qqO,hE2];exact qb (qqp hMl) _
 . rintro ev ⟨H1,T1⟩ ⟨e4,e5,e8,e32,e33,e34,hkp,bP,bE,bM,bB⟩;dsimp only at hkp bP bE bM bB;rw[qr0]at bM;have bM':H1[H.length+3]?=some (wY p.vars):=bM;have bB':=bB;simp only[qL,qqP,qqJ]at bB;simp[-getElem?_pos,e4,e5,e8,e32,e33,e34];rw[qH rfl];simp[-getElem?_pos,qP,e4,e5,e8,e32,e33,e34,bB,bE];refine qd.acall (huse H1 (H.length+3) bM' T1) ?_;rintro v ⟨H2,T2⟩ ⟨rfl,hk2⟩;dsimp only at hk2;simp[-getElem?_pos,qP,e8];exact⟨H.length+4,H.length+3,rfl,by omega,by omega,by omega,hkp.trans hk2,by rw[hLV];exact hk2.2 _ _ bB' (by simp),hk2.2 _ _ bM' (by simp)⟩
def yM (vs:List Var)(l:List Int):Int:=(l.map fun i=>zG vs i.toNat).sum
theorem KX (vs:List Var)(l:List Int)(i:Int):yM vs (l++[i])=yM vs l+zG vs i.toNat:=by simp[yM]
theorem ZG {vs:List Var}(hw:∀ v∈vs,0<=v.width)(n:Nat):0<=zG vs n:=by
 unfold zG;split
 . rename_i v hv;exact hw v (qqm hv)
 . omega
theorem JN {vs:List Var}(hw:∀ v∈vs,0<=v.width):∀ l:List Int,0<=yM vs l
 | []=>by simp[yM]
 | a::r=>by
  have:=JN hw r;have:=ZG hw a.toNat;simp only[yM,qqx,qsE]at *;omega
theorem qau (vs:List Var)(l m:List Int):yM vs (l++m)=yM vs l+yM vs m:=by simp[yM]
theorem KW {vs:List Var}(hw:∀ v∈vs,0<=v.width)(l:List Int)(k:Nat):yM vs (l.take k)<=yM vs l:=by
 have h1:=qau vs (l.take k) (l.drop k);rw[qre]at h1;have:=JN hw (l.drop k);omega
theorem qep {vs:List Var}{l:List Int}(hl:∀ i∈l,∃ n:Nat,i=n/\n<vs.length)(hnd:l.Nodup):∀ m,m<=l.length->(kU vs (l.take m)).2=yM vs (l.take m)/\∀ k (i:Int),k<m->l[k]?=some i->(kU vs (l.take m)).1[i.toNat]?=some (yM vs (l.take k))
 | 0,_=>⟨by simp[kU,yM],fun k i h=>by omega⟩
 | m+1,hm=>by
  obtain⟨ih1,ih2⟩:=qep hl hnd m (by omega);obtain⟨j,hj⟩:∃ j,l[m]?=some j:=⟨_,qqo (by omega)⟩;have ht:l.take (m+1)=l.take m++[j]:=by rw[qqT,hj];rfl
  obtain⟨n,rfl,hn⟩:=hl j (qqm hj);have hlen:=Zm vs (l.take m);rw[ht,Wu,KX];refine⟨by simp only[vd,ih1],fun k i hk hi=>?_⟩;simp only[vd,qrg];by_cases hkm:k=m
  . subst hkm;rw[hj]at hi;cases hi;rw[qrg,qqp (by omega),ih1]
  . obtain⟨n2,rfl,hn2⟩:=hl i (qqm hi);have hne:n≠n2:=by
     rintro rfl;have hp:=qsa.1 hnd;obtain⟨a1,a2⟩:=qql.1 hj;obtain⟨b1,b2⟩:=qql.1 hi;exact hp k m b1 a1 (by omega) (by rw[a2,b2])
    rw[qrg,qqn hne];exact ih2 k _ (by omega) hi
theorem qas {f:Int->Int}:∀ {l:List Int} {a:Int},a∈l->((l.erase a).map f).sum+f a=(l.map f).sum
 | x::r,a,h=>by
  rw[List.erase_cons];split
  . rename_i hx;have:x=a:=by simpa using hx
    subst this;simp;omega
  . rename_i hx;have hx:¬ x=a:=(by simpa using hx);have h2:a∈r:=(qqM.1 h).resolve_left (Ne.symm hx);have:=qas (f:=f) h2;simp;omega
theorem qcj {f:Int->Int}(hf:∀ i,0<=f i):∀ (n:Nat) (l:List Int),l.Nodup->(∀ x∈l,0<=x/\x<n)->(l.map f).sum<=((List.range n).map fun k:Nat=>f k).sum
 | 0,l,_,h=>by
  cases l with
  | nil=>simp
  | cons a r=>have:=h a (by simp);omega
 | n+1,l,hn,h=>by
  rw[qrN,qrc,List.sum_append];simp only[qqx,qqQ,qsE,qt2];by_cases hm:(n:Int)∈l
  . have h1:=qcj hf n (l.erase (n:Int)) (hn.erase _) fun x hx=>by
     have h2:=(hn.mem_erase_iff).1 hx;have:=h x h2.2;omega
    have:=qas (f:=f) hm;omega
  . have h1:=qcj hf n l hn fun x hx=>by
     have:=h x hx;have h2:x≠(n:Int):=fun e=>hm (e▸hx)
     omega
    have:=hf n;omega
def qoJ (vs:List Var)(i:Int):Int:=if yA vs i=true then zG vs i.toNat else 0
theorem qjs:∀ (vs:List Var),((List.range vs.length).map fun k:Nat=>qoJ vs k).sum=yc vs:=by
 have gen:∀ (vs pre:List Var),((List.range' pre.length vs.length).map fun k:Nat=>qoJ (pre++vs) k).sum=yc vs:=by
  intro vs
  induction vs with
  | nil=>intro pre;rfl
  | cons v r ih=>
   intro pre;have:=ih (pre++[v]);rw[qqV,qsq,qqr,qqO]at this;rw[qqC,qrQ,qqx,qsE,this];simp only[yc];congr 1;have h1:(pre++v::r)[pre.length]?=some v:=(by rw[qqt (qqw _),qrB];rfl);simp only[qoJ,yA,zG,qrg,h1];by_cases hm:v.mode=0<;>simp[hm]
 intro vs;have:=gen vs []
 rwa[qq1,<- qrR,qqJ]at this
theorem qfm {p:Problem}(h:qk p=0):yc p.vars<=20:=by
 have hv:zX p.vars=0:=by
  unfold qk at h;split at h
  . exact absurd h (by assumption)
  . rename_i h1;exact qq8.1 h1
 unfold zX at hv;split at hv
 . cases hv
 . split at hv
   . rename_i h1;exact absurd hv h1
   . split at hv
     . cases hv
     . split at hv
       . cases hv
       . split at hv
         . cases hv
         . omega
theorem JV {p:Problem}(h:qk p=0):∀ i∈p.groups.flatten,∃ n:Nat,i=n/\n<p.vars.length:=fun i hi=>by
 obtain⟨n,v,rfl,hn,_⟩:=Ys ((j4 h).2.1 i hi);exact⟨n,rfl,(qql.1 hn).1⟩
theorem Qc {p:Problem}(h:qk p=0):∀ v∈p.vars,0<=v.width:=fun v hm=>by have:=qR (zJ h v hm);omega
theorem Y4 {p:Problem}(h:qk p=0):yM p.vars p.groups.flatten<=20:=by
 have h1:=qcj (f:=qoJ p.vars) (fun i=>by unfold qoJ;split;exact ZG (Qc h) _;omega) p.vars.length p.groups.flatten (j4 h).2.2.1 (fun i hi=>by
  obtain⟨n,rfl,hn⟩:=JV h i hi;omega)
 rw[qjs]at h1;have h2:=qfm h;have h3:(p.groups.flatten.map (qoJ p.vars)).sum=yM p.vars p.groups.flatten:=by
  unfold yM;congr 1;exact qrw fun i hi=>by unfold qoJ;rw[if_pos ((j4 h).2.1 i hi)]
 omega
theorem yT (p:Problem):(qV p).length=p.vars.length:=Zm p.vars _
theorem YQ {p:Problem}(h:qk p=0){k:Nat}{n:Nat}(hk:p.groups.flatten[k]?=some (n:Int)):(qV p)[n]?=some (yM p.vars (p.groups.flatten.take k)):=by
 have h1:=(qep (JV h) (j4 h).2.2.1 p.groups.flatten.length (qqw _)).2 k _ (qql.1 hk).1 hk;rw[qr0,qrg]at h1;exact h1
theorem qhw {p:Problem}(h:qk p=0){n:Nat}{v:Var}(hv:p.vars[n]?=some v)(hm:v.mode≠0):∃ k:Nat,p.groups.flatten[k]?=some (n:Int):=by
 have:=(j4 h).2.2.2 n (qql.1 hv).1 (by simp[yA,hv,hm]);exact qq2 this
theorem qih {p:Problem}(h:qk p=0):∀ (i:Nat) (v:Var) (l:Int),p.vars[i]?=some v->(qV p)[i]?=some l->v.mode≠0->0<=l/\l+v.width<=20:=fun i v l hv hl hm=>by
 obtain⟨k,hk⟩:=qhw h hv hm;have h1:=YQ h hk;rw[hl]at h1;cases h1;have h2:=JN (Qc h) (p.groups.flatten.take k);have h3:=KW (Qc h) p.groups.flatten (k+1);have h4:p.groups.flatten.take (k+1)=p.groups.flatten.take k++[(i:Int)]:=by rw[qqT,hk];rfl
 rw[h4,KX]at h3;have h5:zG p.vars (i:Int).toNat=v.width:=by simp[zG,hv]
 have h6:=Y4 h;omega
def NedM (p:Problem)(H:List Blk)(r:AV)(U':St):Prop:=KpL [] H U'.H/\((zP p=[]/\r=.sl 4 [] .tight)\/∃ b,zP p≠[]/\r=.ms b 0 (zP p).length 4/\U'.H[b]?=some (.cells ((zP p).flatMap qu))/\H.length<=b)
theorem lk1b {α:Type}{H:List α}{p q:α}:(H++[p,q])[H.length+1]?=some q:=by rw[qqt (by omega),qrd];rfl
theorem sl_msB (b N k:Nat)(h:k<N):zt (.ms b 0 N 4) (some (.int .i64 (k:Int))) none none=some (.ms b (k*4) (N-k) 4):=by
 show (if (0:Int)<=k/\(k:Int)<=N/\(N:Int)<=N/\((k:Int)=0\/(k:Int)<N) then some (AV.ms b (0+(k:Int).toNat*4) ((N:Int).toNat-(k:Int).toNat) 4) else if (k:Int)=N/\(N:Int)=N then some (.sl 4 [] .none) else none)=_;rw[if_pos ⟨by omega,by omega,by omega,by omega⟩];simp
theorem qoy (b N:Nat)(h:0<N):zt (.ms b 0 N 4) (some (.int .i64 (N:Int))) none none=some (.sl 4 [] .none):=by
 show (if (0:Int)<=N/\(N:Int)<=N/\(N:Int)<=N/\((N:Int)=0\/(N:Int)<N) then some (AV.ms b (0+(N:Int).toNat*4) ((N:Int).toNat-(N:Int).toNat) 4) else if (N:Int)=N/\(N:Int)=N then some (.sl 4 [] .none) else none)=_;rw[if_neg (by omega),if_pos ⟨rfl,rfl⟩]
theorem Wt (p:Problem)(h:VQ p)(hd:p.dists.length<=10000)(H:List Blk)(T:List (Option Nat)):qg Tryz.prog GG 57 [.agg (qL p)] ⟨H,T⟩ (NedM p H):=by
 refine qg.kO ⟨true,[],[],[]⟩ qe Tryz.func57 rfl (by kernel_rfl) ?_;have hs:=Jc p h hd;have hh:=h.hard;have hsl:(yq p).length<=10000:=by
  unfold yq;split
  . simp[vH,hd]
  . simp
 have hn:zP p=p.hard++yq p:=rfl;generalize yq p=S at *;obtain⟨Q,hQ⟩:∃ Q,Q=NedM p H:=⟨_,rfl⟩;rw[<- hQ];have fin0:p.hard++S=[]->∀ u T',Q (.sl 4 [] .tight) ⟨H++u,T'⟩:=fun he u T'=>by rw[hQ];exact⟨KpL.app,.inl ⟨by rw[hn,he],rfl⟩⟩
 have kg:p.hard++S≠[]->∀ (B0:Blk) (T':List (Option Nat)),Q (.ms (H.length+1) 0 (p.hard.length+S.length) 4) ⟨H++[B0,.cells ((p.hard++S).flatMap qu)],T'⟩:=fun he B0 T'=>by
  rw[hQ];refine⟨KpL.app,.inr ⟨H.length+1,by rw[hn];exact he,by rw[hn,qqr],?_,by omega⟩⟩;rw[hn];exact lk1b
 simp only[qL]at hs;have hw:=wr (n:=(p.hard.length:Int)+S.length) (by omega) (by omega);have h00:IntKind.i64.wrap 0=0:=by decide
 by_cases h0:p.hard=[]/\S=[]
 . obtain⟨h1,h2⟩:=h0;subst h2;have fin0:=fin0 (by rw[h1];rfl);rw[h1]at hs hw;simp[-getElem?_pos,h1];refine qd.call hs (by simp) ?_;simp[-getElem?_pos,h00,h1,mkX,qA,yw,Wv,zt,zS,yY,z5];exact fin0 _ _
 . have hpos:0<p.hard.length+S.length:=by
    rcases qrv (p.hard.length+S.length) with h|h
    . exact absurd ⟨qqA (by omega),qqA (by omega)⟩ h0
    . exact h
   have hne2:p.hard++S≠[]:=(by simpa using h0);have kg:=kg hne2;have hnz:¬ (p.hard.length:Int)+S.length=0:=(by omega);have hle:(p.hard.length:Int)+S.length<=549755813888:=(by omega);have hge:(0:Int)<=(p.hard.length:Int)+S.length:=(by omega);have htn:((p.hard.length:Int)+S.length).toNat=p.hard.length+S.length:=(by omega);have hmk:∀ U:St,mkX (Dof Tryz.prog) true U 23 (.int .i64 ((p.hard.length:Int)+S.length)) (.int .i64 ((p.hard.length:Int)+S.length))=none:=fun U=>by
    have:∀ z:Int,z≠0->mkX (Dof Tryz.prog) true U 23 (.int .i64 z) (.int .i64 z)=none:=fun z hz=>by
     unfold mkX;split
     . rename_i h1 _;simp at h1;exact absurd h1.2 hz
     . rfl
    exact this _ hnz
   obtain⟨Z,hZ⟩:∃ Z,Z=(List.replicate (p.hard.length+S.length) [AV.int .i64 0,.int .i64 0,.str [],.sl 0 [] .nil]).flatten:=⟨_,rfl⟩;have hZl:Z.length=(p.hard.length+S.length)*4:=(by rw[hZ];simp);have hAl:(p.hard.flatMap qu).length=p.hard.length*4:=Go.Abs.jg (sz:=4) zi p.hard;have hBl:(S.flatMap qu).length=S.length*4:=Go.Abs.jg (sz:=4) zi S;have hA:(p.hard.map qu).flatten=p.hard.flatMap qu:=(by rw[qr5]);have hB:(S.map qu).flatten=S.flatMap qu:=(by rw[qr5]);have htA:(p.hard.map qu).take p.hard.length=p.hard.map qu:=qqu (by simp);have htB:(S.map qu).take S.length=S.map qu:=qqu (by simp);have h2:=qaM (p.hard.flatMap qu) (S.flatMap qu) Z (by rw[hZl,hAl,hBl,qri]);rw[hAl,<- List.flatMap_append]at h2;have hZ1l:(zp Z 0 (p.hard.flatMap qu)).length=(p.hard.length+S.length)*4:=(by rw[Yy,hZl]);have la:∀ (B0 C:Blk),(H++[B0,C])[H.length+1]?=some C:=fun B0 C=>by rw[qqt (by omega),qrd];rfl
   have ls:∀ (B0 C D:Blk),(H++[B0,C]).set (H.length+1) D=H++[B0,D]:=fun B0 C D=>by rw[qrn _ _ (by omega),qrd];rfl
   have hc1:∀ B0:Blk,yw (Dof Tryz.prog) ⟨H++[B0,.cells Z],T⟩ 23 (.ms (H.length+1) 0 (p.hard.length+S.length) 4) (.sl 4 (p.hard.map qu) .none)=some (.int .i64 p.hard.length,⟨H++[B0,.cells (zp Z 0 (p.hard.flatMap qu))],T⟩):=fun B0=>by
    by_cases hh0:p.hard=[]
    . simp[yw,Wv,hh0,zp]
    . have hm:min p.hard.length (p.hard.length+S.length)=p.hard.length:=(by omega);have hl:p.hard.length*4<=(p.hard.length+S.length)*4:=(by omega);simp[yw,Wv,qkV,hm,hh0,htA,hA,hZl,hl,la,ls]
   by_cases hS0:S=[]
   . subst hS0;have hhp:0<p.hard.length:=(by simpa using hpos);have hsl2:=qoy (H.length+1) p.hard.length hhp;have hpa:zp Z 0 (p.hard.flatMap qu)=p.hard.flatMap qu:=putAt_all _ _ (by rw[hZl,hAl];simp);rw[hpa]at hc1;simp only[qq1,qrx,qrJ,Int.add_zero]at hw hnz hle hge htn hZ hc1 hmk;simp only[qqQ]at hs;have hcz:∀ U:St,yw (Dof Tryz.prog) U 23 (.sl 4 [] .none) (.sl 4 [] .none)=some (.int .i64 0,U):=fun U=>by simp[yw,Wv]
     have hhn:¬ p.hard=[]:=qqB.1 hhp;simp only[qq5,qq1,qrx]at kg;generalize p.hard.flatMap qu=FE at *;simp[-getElem?_pos];refine qd.call hs (by simp) ?_;simp[-getElem?_pos,hw,hnz,hle,hge,hhn,hmk,qA,<- hZ,hc1,hsl2,hcz];exact kg _ _
   . have hSp:=qqB.2 hS0;have hsl2:zt (.ms (H.length+1) 0 (p.hard.length+S.length) 4) (some (.int .i64 p.hard.length)) none none=some (.ms (H.length+1) (p.hard.length*4) S.length 4):=by
      have h3:p.hard.length+S.length-p.hard.length=S.length:=(by omega);rw[sl_msB _ _ _ (by omega),h3]
     have hc2:∀ B0:Blk,yw (Dof Tryz.prog) ⟨H++[B0,.cells (zp Z 0 (p.hard.flatMap qu))],T⟩ 23 (.ms (H.length+1) (p.hard.length*4) S.length 4) (.sl 4 (S.map qu) .none)=some (.int .i64 S.length,⟨H++[B0,.cells ((p.hard++S).flatMap qu)],T⟩):=fun B0=>by
      have hl:p.hard.length*4+S.length*4<=(p.hard.length+S.length)*4:=(by omega);simp[yw,Wv,qkV,hS0,htB,hB,hZ1l,hl,-List.flatMap_append,h2,la,ls]
     have hlen:(p.hard++S).length=p.hard.length+S.length:=(by simp);generalize (p.hard++S).flatMap qu=FE at *;generalize zp Z 0 (p.hard.flatMap qu)=Z1 at *;generalize p.hard++S=PS at *;simp[-getElem?_pos];refine qd.call hs (by simp) ?_;simp[-getElem?_pos,hw,hnz,hle,hge,hmk,qA,htn,<- hZ,hc1,hsl2,hc2];exact kg hne2 _ _
theorem qeI {α:Type}{sz:Nat}{en:α->List AV}(hl:∀ x,(en x).length=sz):∀ {l:List α} {i:Nat} {v:α},l[i]?=some v->((l.flatMap en).drop (i*sz)).take sz=en v
 | [],i,v,h=>by simp at h
 | a::r,0,v,h=>by
  simp at h;subst h;rw[qqG,qrT,qrL,qrf (by rw[hl];exact qqw _),qqu (by rw[hl];exact qqw _)]
 | a::r,i+1,v,h=>by
  have ih:=qeI hl (l:=r) (i:=i) (v:=v) (by simpa using h);have e:(i+1)*sz=sz+i*sz:=by rw[qsZ,qr4]
  rw[qqG,e,qrZ,qq0 (by rw[hl];omega),hl,qqJ,qrd,ih]
def qnZ (b:Nat)(H:List Blk)(v:AV)(l:List Ex):Prop:=(l=[]/\v=.sl 4 [] .tight)\/(l≠[]/\v=.ms b 0 l.length 4/\H[b]?=some (.cells (l.flatMap qu)))
theorem qnZ.append {b:Nat}{H:List Blk}{T:List (Option Nat)}{v:AV}{l:List Ex}(h:qnZ b H v l)(x:Ex)(hl:l.length<=1000000) :
 ∃ H',zs (Dof Tryz.prog) ⟨H,T⟩ 23 23 v (.sl 4 [qu x] .tight)=some (.ms H.length 0 (l.length+1) 4,⟨H',T⟩)/\qnZ H.length H' (.ms H.length 0 (l.length+1) 4) (l++[x])/\(∀ (k:Nat) (y:Blk),H[k]?=some y->(l=[]\/k≠b)->H'[k]?=some y)/\H.length<=H'.length:=by
 have hl4:=zi x;rcases h with ⟨rfl,rfl⟩|⟨hne,rfl,hb⟩
 . refine⟨H++[.cells (qu x)],?_,?_,fun k y hk _=>qb hk _,by simp⟩
   . simp[zs,z4,Ku,qS]
   . exact .inr ⟨by simp,by simp,by simp⟩
 . have h1:l.length+1<=549755813888:=(by omega);have hfl:=Go.Abs.jg (sz:=4) zi l;have ht:(l.flatMap qu).take (l.length*4)=l.flatMap qu:=qqu (by omega);have hle:l.length*4<=(l.flatMap qu).length:=(by omega);refine⟨H.set b .dead++[.cells (l.flatMap qu++qu x)],?_,?_,fun k y hk hkb=>?_,by simp⟩
   . rw[hfl]at hle;simp[zs,z4,Ku,qS,hb,h1,ht,hfl]
   . exact .inr ⟨by simp,by simp,by simp⟩
   . exact qb (by rw[qqn (Ne.symm (hkb.resolve_left hne))];exact hk) _
theorem qnZ.len {b:Nat}{H:List Blk}{v:AV}{l:List Ex}(h:qnZ b H v l)(U:St):Kv (Dof Tryz.prog) U 23 v=some (.int .i64 (l.length:Nat)):=by
 rcases h with ⟨rfl,rfl⟩|⟨_,rfl,_⟩<;>simp
theorem YT (vs:List Var):∀ (L:List (Int×Ex)) (R:List Ex),∀ q∈kV vs R L,q∈L
 | [],R,q,h=>by simp[kV]at h
 | x::r,R,q,h=>by
  unfold kV at h;split at h
  . rcases qqM.1 h with rfl|h
    . simp
    . exact qrH _ (YT vs r _ q h)
  . exact qrH _ (YT vs r _ q h)
theorem YU (vs:List Var):∀ (L:List (Int×Ex)) (R:List Ex),(kV vs R L).length<=L.length
 | [],R=>by simp[kV]
 | x::r,R=>by
  unfold kV;split
  . have:=YU vs r (R++[x.2]);simp;omega
  . have:=YU vs r R;simp;omega
theorem qlq {l:List Ex}{q:Int×Ex}(h:q∈JF l):∃ k:Nat,q.1=k/\l[k]?=some q.2:=by
 obtain⟨k,hk⟩:=qq2 h;obtain⟨_,h2,h3⟩:=qhW hk;exact⟨_,h2,h3⟩
theorem qip {p:Problem}{q:Int×Ex}(h:q∈ZN p):∃ k:Nat,q.1=k/\p.soft[k]?=some q.2:=qlq (YT _ _ _ q (by simpa[ZN] using h))
theorem qet (p:Problem):(ZN p).length<=p.soft.length:=by
 unfold ZN;rw[List.length_reverse];exact qro (YU _ _ _) (by rw[qej];exact qqw _)
noncomputable def qB (p:Problem):List Ex×Int :=
 if qk p=0 then (if jT p.vars (zP p)=true then (qhu p,0) else ([],11)) else ([],1)
theorem Qe (p:Problem):(qB p).2=(wP p).2:=by
 unfold qB wP;split
 . split<;>rfl
 . rfl
theorem Q9 {p:Problem}(h:(wP p).2=0):qk p=0/\jT p.vars (zP p)=true/\qB p=(zP p++(ZN p).map (·.2),0)/\(wP p).1=(ZN p).map (·.1):=by
 unfold wP at h;split at h
 . rename_i hv;split at h
   . rename_i hs;have hn:zP p=qcI p:=by
      show p.hard++yq p=_;rw[yq,if_pos hv];rfl
     refine⟨hv,hs,?_,?_⟩
     . unfold qB qhu;rw[if_pos hv,if_pos hs,hn]
     . unfold wP ZN;rw[if_pos hv,if_pos hs,hn]
   . simp at h
 . simp at h
theorem Kt (p:Problem)(h:VQ p)(hv20:p.vars.length<=20)(hb:yJ p.vars (qC p)<=18)(hd:p.dists.length<=10000)(hs5:p.soft.length<=10000) :
 Pure Tryz.prog GG 29 [.agg (qL p)] (.tup [.sl 4 ((qB p).1.map qu) .none,.int .i64 (qB p).2]):=by
 have hkp:=qjY p h hv20 hb hd hs5;by_cases he:(wP p).2=0
 case neg=>
  have hre:=Qe p;have hr0:(qB p).1=[]:=by
   unfold qB wP at *;split
   . rename_i hv;split
     . rename_i hs;rw[if_pos hv,if_pos hs]at he;exact absurd rfl he
     . rfl
   . rfl
  rw[hr0,hre];refine Pure.kO o0 true qe Tryz.func29 rfl (by kernel_rfl) ?_;simp only[qL]at hkp;simp[-getElem?_pos];refine qd.call hkp (by simp) ?_;simp[-getElem?_pos,he];rw[qv (by simp)];exact⟨by simp,by simp[Leq,zj]⟩
 obtain⟨hv,hs,hrr,hk1⟩:=Q9 he;rw[hk1,he]at hkp;rw[hrr];dsimp only;have hkl:=qet p;have hka:=fun q (hq:q∈ZN p)=>qip hq
 generalize hKS:ZN p=KS at *;refine Pure.kO ⟨true,[],[],[]⟩ true qe Tryz.func29 rfl (by kernel_rfl) ?_;have hnd:=Wt p h hd [.cells (qL p)] [];have hknow:=Zj h hv;have h1:=h.hard;have h2:(yq p).length<=10000:=by
  have:yq p=vH p:=if_pos hv;rw[this,vH,qqZ];exact hd
 have hNl:(zP p).length<=20000:=by rw[zP,qqr];omega
 obtain⟨RES,hRES⟩:∃ RES,RES=zP p++KS.map (·.2):=⟨_,rfl⟩;have hRt:∀ e∈RES,(pre e).length<=100000:=fun e hm=>by
  rw[hRES]at hm;rcases qqE.1 hm with hm|hm
  . exact (hknow e (qqX _ hm)).2.2.2
  . obtain⟨q,hq,rfl⟩:=qqS.1 hm;obtain⟨k,_,hk⟩:=hka q hq;exact (hknow q.2 (qrp _ (qqm hk))).2.2.2
 rw[<- hRES];simp only[qL]at hkp hnd;simp[-getElem?_pos];refine qd.call hkp (by simp) ?_;simp[-getElem?_pos];refine qd.acall hnd ?_;rintro v ⟨H1,T1⟩ ⟨hk,hr⟩;dsimp only at hk hr;have bP:H1[0]?=some (.cells (qL p)):=hk.2 0 _ (by simp[qL]) (by simp);obtain⟨b,ho,hb0⟩:∃ b,qnZ b H1 v (zP p)/\b≠0:=by
  rcases hr with ⟨hn,rfl⟩|⟨b,hne,rfl,hb1,hb2⟩
  . exact⟨1,.inl ⟨hn,rfl⟩,by omega⟩
  . exact⟨b,.inr ⟨hne,rfl,hb1⟩,by simp at hb2;omega⟩
 clear hr hk;generalize zP p=N at *;simp[-getElem?_pos];refine qM.listR KS (fun d ev U=>ev 1=.ptr 0 0/\ev 20=.sl 1 (KS.map fun q=>[AV.int .i64 q.1]) .none/\ev 21=.int .i64 KS.length/\ev 22=.int .i64 d.length/\∃ H b T,U=⟨H,T⟩/\H[0]?=some (.cells (qL p))/\b≠0/\qnZ b H (ev 6) (N++d.map (·.2))) ?_ ?_ ?_
 . refine⟨by simp,by simp,by simp,by simp,H1,b,T1,rfl,bP,hb0,by simpa using ho⟩
 . rintro d q rest ev U R hR hdl hx hlt ⟨e1,e20,e21,e22,H,b,T,rfl,bP,hb0,ho⟩;have hdw:=wr (n:=(d.length:Int)+1) (by omega) (by omega);have hlt':(d.length:Int)<KS.length:=(by omega);obtain⟨k,hk1,hk2⟩:=hka q (qqm hx);have hkl2:=(qql.1 hk2).1;have hkl3:(k:Int)<p.soft.length:=(by omega);obtain⟨H',hap,ho',hkeep,hlen⟩:=ho.append (T:=T) q.2 (by rw[qqr,qqZ];omega);have hHl:=(qql.1 bP).1;have ha:=yD q.2;have hl4:=zi q.2;have htk:(qu q.2).take 4=qu q.2:=qqu (by rw[hl4];exact qqw _);have bP2:=hkeep 0 _ bP (by right;exact Ne.symm hb0);have hsn:N++(d++[q]).map (·.2)=N++d.map (·.2)++[q.2]:=(by simp);simp only[qL]at bP;generalize hv6:ev 6=v6 at *;simp[-getElem?_pos,-qO,e1,e20,e21,e22,hlt',hx,hk1,hk2,bP,htk,ha,hl4,qh,qw,hap,hv6,hdw];refine hR _ _ ⟨by simp[e1],by simp[e20],by simp[e21],by simp,H',H.length,T,rfl,bP2,by omega,?_⟩;rw[hsn];simpa using ho'
 . rintro ev U ⟨e1,e20,e21,e22,H,b,T,rfl,bP,hb0,ho⟩;rw[<- hRES]at ho;have hlen:=ho.len ⟨H,T⟩;have hRl:RES.length<=1000000:=(by rw[hRES,qqr,qqZ];omega);generalize hv6:ev 6=v6 at *;simp[-getElem?_pos,-Kv,e21,e22,hv6,hlen];refine qM.listR RES (fun d ev U=>ev 6=v6/\ev 36=.int .i64 RES.length/\ev 37=.int .i64 d.length/\∃ H T,U=⟨H,T⟩/\qnZ b H v6 RES) ?_ ?_ ?_
   . exact⟨by simp[hv6],by simp,by simp,H,T,rfl,ho⟩
   . rintro d x rest ev U R hR hdl hx hlt ⟨e6,e36,e37,H,T,rfl,ho⟩;have hdw:=wr (n:=(d.length:Int)+1) (by omega) (by omega);have hlt':(d.length:Int)<RES.length:=(by omega);have hcp:=qjb x (hRt x (qqm hx));rcases ho with ⟨h0,_⟩|⟨hne,rfl,hbk⟩
     . rw[h0]at hx;simp at hx
     have hfl:=Go.Abs.jg (sz:=4) zi RES;have hl4:=zi x;have ha:=yD x;have hput:zp (RES.flatMap qu) (d.length*4) (qu x)=RES.flatMap qu:=by
      rw[Qg zi RES d.length x hlt];have:RES.set d.length x=RES:=by
       apply qrb;intro j;by_cases hj:d.length=j
       . subst hj;rw[qqp hlt,hx]
       . rw[qqn hj]
      rw[this]
     have hcut:((RES.flatMap qu).drop (d.length*4)).take 4=qu x:=qeI zi hx;have hfit:d.length*4+4<=RES.length*4:=(by omega);have hset:H.set b (.cells (RES.flatMap qu))=H:=by
      apply qrb;intro j;by_cases hj:b=j
      . subst hj;rw[qqp (qql.1 hbk).1,hbk]
      . rw[qqn hj]
     generalize hFF:RES.flatMap qu=F at *;simp[-getElem?_pos,-qO,e6,e36,e37,hlt',hbk,hfl,hfit,hcut];refine qd.call hcp (by simp) ?_;simp[-getElem?_pos,-qO,e37,hlt',hbk,hfl,hfit,hl4,ha,hput,hset,hdw];exact hR _ _ ⟨by simp[e6],by simp[e36],by simp,H,T,rfl,.inr ⟨hne,rfl,by rw[hFF];exact hbk⟩⟩
   . rintro ev U ⟨e6,e36,e37,H,T,rfl,ho⟩;simp[-getElem?_pos,e6,e36,e37];rcases ho with ⟨h0,rfl⟩|⟨hne,rfl,hbk⟩
     . rw[h0];have hf:frz H 7 (.sl 4 [] .tight)=.sl 4 [] .tight:=qv rfl;exact JT (by rw[hf];rfl) (by rw[hf];simp[Leq]) (by simp[Leq])
     . have hoo:jt b 4 qu H (.ms b 0 RES.length 4) RES:=.inr ⟨hne,rfl,hbk⟩;exact JT (hoo.frzNo zi (fun x=>nrE x) js 6) (hoo.frz zi (fun x=>nrE x) js 6) (by simp)
def RulU (l:List Ex)(H:List Blk)(r:AV)(U':St):Prop:=∃ tok,r=.tup [.sl 4 (l.map qu) tok,.int .i64 0]/\(l≠[]\/tok=.tight)/\KpL [] H U'.H
theorem qmW (p:Problem)(h:VQ p)(hv20:p.vars.length<=20)(hb:yJ p.vars (qC p)<=18)(hd:p.dists.length<=10000)(hs5:p.soft.length<=10000)(he:(qB p).2=0)(H:List Blk)(T:List (Option Nat)) :
 qg Tryz.prog GG 29 [.agg (qL p)] ⟨H,T⟩ (RulU (qB p).1 H):=by
 by_cases hR:(qB p).1=[]
 case neg=>
  refine qg.call (Kt p h hv20 hb hd hs5) (by simp) ?_;rw[he];exact⟨.none,rfl,.inl hR,KpL.refl⟩
 have hkp:=qjY p h hv20 hb hd hs5;rw[Qe]at he;obtain⟨hv,hs,hrr,hk1⟩:=Q9 he;rw[hrr]at hR;have hR:zP p=[]/\ZN p=[]:=by simpa using hR
 rw[hrr,hR.1,hR.2];rw[hk1,he,hR.2]at hkp;have hnd:=fun H T=>Wt p h hd H T
 refine qg.kO ⟨true,[],[],[]⟩ qe Tryz.func29 rfl (by kernel_rfl) ?_;simp only[qL]at hkp hnd;simp[-getElem?_pos];refine qd.call hkp (by simp) ?_;simp[-getElem?_pos];refine qd.acall (hnd _ _) ?_;rintro v ⟨H1,T1⟩ ⟨hk,hr⟩;dsimp only at hk;rcases hr with ⟨_,rfl⟩|⟨b,hne,_⟩
 case inr=>exact absurd hR.1 hne
 simp[-getElem?_pos];refine qM.gen (fun m ev U=>ev 6=.sl 4 [] .tight/\ev 21=.int .i64 0/\ev 22=.int .i64 0/\KpL [] H U.H) 0 ⟨by simp,by simp,by simp,KpL.app.trans hk⟩ ?_;rintro m ev ⟨H2,T2⟩ R hRR ⟨e6,e21,e22,hk2⟩;simp[-getElem?_pos,e6,e21,e22];refine qM.gen (fun m ev U=>ev 6=.sl 4 [] .tight/\ev 36=.int .i64 0/\ev 37=.int .i64 0/\KpL [] H U.H) 0 ⟨by simp[e6],by simp,by simp,hk2⟩ ?_;rintro m ev ⟨H3,T3⟩ R hRR ⟨e6,e36,e37,hk3⟩;simp[-getElem?_pos,e6,e36,e37];exact⟨.tight,rfl,.inr rfl,hk3⟩
end Go.Proofs.YtoibbcnfhhggnaaGreatDoor
end
