/- A part of the proof. -/
import Derived.Test.YtkpkjbchlabaaaaGreatDoorEa32
import Derived.Test.YtkpkjbchlabaaaaGreatDoorEa31
set_option linter.unusedVariables false
set_option linter.unusedSimpArgs false
set_option maxRecDepth 100000
set_option maxHeartbeats 16000000
set_option linter.defProp false
section
namespace Go.Proofs.YtkpkjbchlabaaaaGreatDoor
open Go Go.Abs
theorem qgT {p:Problem}(h:qk p=0):∀ d∈p.dists,∃ (i:Nat) (v:Var),d.var=i/\p.vars[i]?=some v:=by
 have hd:yb p.vars p.dists=0:=by
  unfold qk at h;split at h
  . exact absurd h (by assumption)
  . split at h
    . rename_i h1;exact absurd h h1
    . split at h
      . rename_i h1;exact absurd h h1
      . rename_i h1;exact qrl.1 h1
 intro d hm;obtain⟨k,hk⟩:=qqZ hm;have hkl:=(qqp.1 hk).1;unfold yb at hd;have:=zx.1 hd k (by simp;omega);unfold jC at this;rw[hk]at this;simp only at this;split at this
 . cases this
 . rename_i hr;have hr:yg p.vars d.var=true:=(by simpa using hr);simp only[yg,qqt,decide_eq_true_eq]at hr;obtain⟨j,hj⟩:=qq0 hr.1;rw[hj]at hr;simp only[qq1]at hr
   cases hv:p.vars[j]? with
   | none=>rw[hv]at hr;simp at hr
   | some v=>exact⟨j,v,hj,hv⟩
noncomputable def yn (p:Problem):List Ex:=if qk p=0 then w6 p else []
theorem Ja (p:Problem)(h:VQ p)(hd:p.dists.length<=10000):Pure Tryz.prog GG 117 [.agg (qD p)] (.sl 4 ((yn p).map qr) .none):=by
 refine Pure.k qe Tryz.func117 rfl (by kernel_rfl) ?_;have hval:=yw p h;simp only[qD]at hval;by_cases hv:qk p=0
 case neg=>
  have:yn p=[]:=if_neg hv;rw[this];simp[-getElem?_pos];refine qc.call hval (by simp) ?_;simp[-getElem?_pos,hv,Leq]
 have hs:yn p=p.dists.map (JK p.vars):=if_pos hv;rw[hs];have hdl:(p.dists.length:Int)<=549755813888:=by omega
 simp[-getElem?_pos];refine qc.call hval (by simp) ?_;simp[-getElem?_pos,hv,qB,hdl];have hvd:=qgT hv;refine qV.listR p.dists (fun d ev U=>ev 1=.ptr 0 0/\ev 3=.sl 4 ((d.map (JK p.vars)).map qr) (.chain 0 d.length)/\ev 14=.sl 2 (p.dists.map zj) .none/\ev 15=.int .i64 p.dists.length/\ev 16=.int .i64 d.length/\∃ t,U=⟨.cells (qD p)::t,[some d.length]⟩) ?_ ?_ ?_
 . exact⟨by simp,by simp,by simp,by simp,by simp,[],by simp⟩
 . rintro d x rest ev U R hR hd2 hx hlt ⟨e1,e3,e14,e15,e16,t,rfl⟩;have hdw:=wr (n:=(d.length:Int)+1) (by omega) (by omega);have hm:=qqq hx;obtain⟨i,v,hi,hvi⟩:=hvd x hm;have hvw:=za (jc hv v (qqq hvi));have hsup:=qfn p x v i hi hvi h.vars (by omega) (by omega) (h.weights x hm);have hsn:(d++[x]).map (JK p.vars)=d.map (JK p.vars)++[JK p.vars x]:=(by simp);have hml:(d.map (JK p.vars)).length=d.length:=(by simp);have ha:=yA (JK p.vars x);have hl4:=zc (JK p.vars x);generalize JK p.vars x=X at *;generalize d.map (JK p.vars)=D at *;have happ:∀ H,qL (Dof Tryz.prog) ⟨H,[some d.length]⟩ 23 (.sl 4 (D.map qr) (.chain 0 d.length)) (.sl 4 [qr X] .tight)=some (.sl 4 ((D++[X]).map qr) (.chain 0 (d.length+1)),⟨H,[some (d.length+1)]⟩):=fun H=>by
    have h1:D.length+1<=549755813888:=(by omega);simp[qL,zP,h1]
   simp only[qD]at hsup;simp[-getElem?_pos,-qO,e1,e3,e14,e15,e16,hlt,hx];refine qc.call hsup (by simp) ?_;simp[-getElem?_pos,-qO,ha,hl4,e1,e3,e14,e15,e16,hdw,qj,qt,happ];refine hR _ _ ⟨by simp[e1],by rw[hsn];simp,by simp[e14],by simp[e15],by simp,t++[.cells (zj x)],?_⟩;simp
 . rintro ev U ⟨e1,e3,e14,e15,e16,t,rfl⟩;have hn:=nrEs (p.dists.map (JK p.vars));rw[qrM]at hn;simp[-getElem?_pos,e3,e15,e16,hn]
theorem Yw:∀ (new c:List AV) (off:Nat),(zp c off new).length=c.length
 | [],c,off=>rfl
 | v::r,c,off=>by rw[zp,Yw r];simp
theorem qaS (A B Z:List AV)(h:Z.length=A.length+B.length):zp (zp Z 0 A) A.length B=A++B:=by
 obtain⟨Z1,Z2,rfl,h1⟩:∃ Z1 Z2,Z=Z1++Z2/\Z1.length=A.length:=⟨Z.take A.length,Z.drop A.length,(qq4 _ _).symm,by rw[qq3];omega⟩;rw[wC A Z1 Z2 h1];have:=vy (c:=Z2) B A 0;rw[qrx]at this;rw[this,putAt_all Z2 B (by simp at h;omega)]
def needE (a b:List Ex):List AV:=(a++b).flatMap qr
theorem sl_ms (N k:Nat)(h:k<N):zw (.ms 1 0 N 4) (some (.int .i64 (k:Int))) none none=some (.ms 1 (k*4) (N-k) 4):=by
 show (if (0:Int)<=k/\(k:Int)<=N/\(N:Int)<=N/\((k:Int)=0\/(k:Int)<N) then some (AV.ms 1 (0+(k:Int).toNat*4) ((N:Int).toNat-(k:Int).toNat) 4) else if (k:Int)=N/\(N:Int)=N then some (.sl 4 [] .none) else none)=_;rw[if_pos ⟨by omega,by omega,by omega,by omega⟩];simp
theorem sl_msE (N:Nat)(h:0<N):zw (.ms 1 0 N 4) (some (.int .i64 (N:Int))) none none=some (.sl 4 [] .none):=by
 show (if (0:Int)<=N/\(N:Int)<=N/\(N:Int)<=N/\((N:Int)=0\/(N:Int)<N) then some (AV.ms 1 (0+(N:Int).toNat*4) ((N:Int).toNat-(N:Int).toNat) 4) else if (N:Int)=N/\(N:Int)=N then some (.sl 4 [] .none) else none)=_;rw[if_neg (by omega),if_pos ⟨rfl,rfl⟩]
noncomputable def zM (p:Problem):List Ex:=p.hard++yn p
theorem YM (p:Problem)(h:VQ p)(hd:p.dists.length<=10000):Pure Tryz.prog GG 62 [.agg (qD p)] (.sl 4 ((zM p).map qr) .none):=by
 refine Pure.kO o0 true qe Tryz.func62 rfl (by kernel_rfl) ?_;have hs:=Ja p h hd;have hh:=h.hard;have hsl:(yn p).length<=10000:=by
  unfold yn;split
  . simp[w6,hd]
  . simp
 have hn:zM p=p.hard++yn p:=rfl;rw[hn];generalize yn p=S at *;simp only[qD]at hs;have hw:=wr (n:=(p.hard.length:Int)+S.length) (by omega) (by omega);by_cases h0:p.hard=[]/\S=[]
 . obtain⟨h1,h2⟩:=h0;subst h2;rw[h1]at hs hw ⊢;simp[-getElem?_pos,h1];refine qc.call hs (by simp) ?_;have h00:IntKind.i64.wrap 0=0:=(by decide);simp[-getElem?_pos,h00,h1,qB,yJ,qae,zw,zZ,ky,z8];have hfc:∀ H,frz H 8 (.sl 4 [] (.chain 0 0))=.sl 4 [] .none:=fun H=>by rw[frz];simp[zb]
   rw[hfc];exact⟨by simp,Leq.refl _⟩
 . have hpos:0<p.hard.length+S.length:=by
    rcases qry (p.hard.length+S.length) with h|h
    . exact absurd ⟨qqG (by omega),qqG (by omega)⟩ h0
    . exact h
   have hnz:¬ (p.hard.length:Int)+S.length=0:=(by omega);have hle:(p.hard.length:Int)+S.length<=549755813888:=(by omega);have hge:(0:Int)<=(p.hard.length:Int)+S.length:=(by omega);have htn:((p.hard.length:Int)+S.length).toNat=p.hard.length+S.length:=(by omega);obtain⟨Z,hZ⟩:∃ Z,Z=(List.replicate (p.hard.length+S.length) [AV.int .i64 0,.int .i64 0,.str [],.sl 0 [] .nil]).flatten:=⟨_,rfl⟩;have hZl:Z.length=(p.hard.length+S.length)*4:=(by rw[hZ];simp);have hAl:(p.hard.flatMap qr).length=p.hard.length*4:=Go.Abs.ji (sz:=4) zc p.hard;have hBl:(S.flatMap qr).length=S.length*4:=Go.Abs.ji (sz:=4) zc S;have hA:(p.hard.map qr).flatten=p.hard.flatMap qr:=(by rw[qse]);have hB:(S.map qr).flatten=S.flatMap qr:=(by rw[qse]);have htA:(p.hard.map qr).take p.hard.length=p.hard.map qr:=qqx (by simp);have htB:(S.map qr).take S.length=S.map qr:=qqx (by simp);have h2:=qaS (p.hard.flatMap qr) (S.flatMap qr) Z (by rw[hZl,hAl,hBl,qro]);rw[hAl,<- List.flatMap_append]at h2;have hZ1l:(zp Z 0 (p.hard.flatMap qr)).length=(p.hard.length+S.length)*4:=(by rw[Yw,hZl]);have hc1:∀ B0:Blk,yJ (Dof Tryz.prog) ⟨[B0,.cells Z],[]⟩ 23 (.ms 1 0 (p.hard.length+S.length) 4) (.sl 4 (p.hard.map qr) .none)=some (.int .i64 p.hard.length,⟨[B0,.cells (zp Z 0 (p.hard.flatMap qr))],[]⟩):=fun B0=>by
    by_cases hh0:p.hard=[]
    . simp[yJ,qae,hh0,zp]
    . have hm:min p.hard.length (p.hard.length+S.length)=p.hard.length:=(by omega);have hl:p.hard.length*4<=(p.hard.length+S.length)*4:=(by omega);simp[yJ,qae,qm0,hm,hh0,htA,hA,hZl,hl]
   have hE:needE p.hard S=(p.hard++S).flatMap qr:=rfl;by_cases hS0:S=[]
   . subst hS0;have hhp:0<p.hard.length:=(by simpa using hpos);have hsl2:=sl_msE p.hard.length hhp;have ho:∀ B0:Blk,jx 1 4 qr [B0,.cells (p.hard.flatMap qr)] (.ms 1 0 p.hard.length 4) p.hard:=fun B0=>.inr ⟨qqI.1 hhp,rfl,rfl⟩
     have hpa:zp Z 0 (p.hard.flatMap qr)=p.hard.flatMap qr:=putAt_all _ _ (by rw[hZl,hAl];simp);rw[hpa]at hc1;simp only[qrn,qrx,qrA,Int.add_zero]at hw hnz hle hge htn hZ hc1;simp only[qq8]at hs;have hcz:∀ U:St,yJ (Dof Tryz.prog) U 23 (.sl 4 [] .none) (.sl 4 [] .none)=some (.int .i64 0,U):=fun U=>by simp[yJ,qae]
     generalize p.hard.flatMap qr=FE at *;simp[-getElem?_pos];refine qc.call hs (by simp) ?_;have hhn:¬ p.hard=[]:=qqI.1 hhp;simp[-getElem?_pos,hw,hnz,hle,hge,hhn,qB,<- hZ,hc1,hsl2,hcz];exact⟨(ho (.cells (qD p))).frzNo zc (fun x=>nrE x) yz 7,(ho (.cells (qD p))).frz zc (fun x=>nrE x) yz 7⟩
   . have hSp:=qqI.2 hS0;have hsl2:zw (.ms 1 0 (p.hard.length+S.length) 4) (some (.int .i64 p.hard.length)) none none=some (.ms 1 (p.hard.length*4) S.length 4):=by
      have h3:p.hard.length+S.length-p.hard.length=S.length:=(by omega);rw[sl_ms _ _ (by omega),h3]
     have hc2:∀ B0:Blk,yJ (Dof Tryz.prog) ⟨[B0,.cells (zp Z 0 (p.hard.flatMap qr))],[]⟩ 23 (.ms 1 (p.hard.length*4) S.length 4) (.sl 4 (S.map qr) .none)=some (.int .i64 S.length,⟨[B0,.cells ((p.hard++S).flatMap qr)],[]⟩):=fun B0=>by
      have hl:p.hard.length*4+S.length*4<=(p.hard.length+S.length)*4:=(by omega);simp[yJ,qae,qm0,hS0,htB,hB,hZ1l,hl,-List.flatMap_append,h2]
     have ho:∀ B0:Blk,jx 1 4 qr [B0,.cells ((p.hard++S).flatMap qr)] (.ms 1 0 (p.hard.length+S.length) 4) (p.hard++S):=fun B0=>.inr ⟨by simp[hS0],by simp,rfl⟩
     generalize (p.hard++S).flatMap qr=FE at *;generalize zp Z 0 (p.hard.flatMap qr)=Z1 at *;simp[-getElem?_pos];refine qc.call hs (by simp) ?_;simp[-getElem?_pos,hw,hnz,hle,hge,qB,htn,<- hZ,hc1,hsl2,hc2];have f1:=(ho (.cells (qD p))).frz zc (fun x=>nrE x) yz 7;have f2:=(ho (.cells (qD p))).frzNo zc (fun x=>nrE x) yz 7;rw[qrj]at f1;exact⟨f2,f1⟩
def J2 (e:Ex):Prop:=Wen e/\hgt e<=1000/\(pre e).length<=100000
theorem qoG:∀ (e x:Ex),x∈pre e->(pre x).length<=(pre e).length:=by
 refine Ex.ind fun e ih x hx=>?_
 rw[jw]at hx;rcases qqQ.1 hx with rfl|hx
 . exact qqB _
 . obtain⟨a,ha,hxa⟩:=Q9.1 hx;exact qrf (ih a ha x hxa) (qd4 ha)
theorem EOk.tame {s:Str}{e:Ex}{h m:Nat}(ho:EOk s h m e)(hs:Fits s)(hh:h<=1000)(hm:m<=100000):J2 e:=by
 refine⟨fun x hx=>?_,qrf ho.hgt hh,qrf ho.size hm⟩;have h1:=qoG e x hx;have h2:=qeX x;have h3:=ho.size;obtain⟨n1,n2,n3,n4⟩:=ho.nodes x hx;refine⟨by show x.args.length<_;omega,?_⟩;by_cases h:x.op=2
 . rw[n4 h];exact hs
 . have:=(jm n1).2.2.2.2.2.2.2 (by rintro (h' | h' | h');exact h h';exact n2 h';exact n3 h');rw[this];simp[Fits]
theorem qa2 (n:Int):J2 (jP n):=by
 refine⟨fun x hx=>?_,by simp[kJ,jP],by rw[Q4];simp⟩;rw[Q4]at hx;simp only[qqQ,qrP,or_false]at hx;subst hx;exact⟨by simp[jP,Fits,Ex.args],by simp[jP,Fits,Ex.name]⟩
theorem qcr {s:Str}(hs:y8 s=true)(hf:Fits s){l:List Rg}(hl:l.length<=128)(hr:∀ r∈l,qjX r):J2 (kx s l):=by
 unfold kx;split
 . exact qa2 0
 . rename_i h0;have hpos:=qqI.2 h0;have h1:=EOk.ins hs (l:=l.take 16) (qqI.1 (by rw[qq3];omega)) (by rw[qq3];omega) (fun r h=>hr r (qru h));have h2:=EOk.chain hs (z9 16 l.length (l.drop 16)) (h:=0) h1 (fun c hc=>by
    obtain⟨a,b,c'⟩:=YB (by omega) _ _ c hc;exact⟨a,b,fun r h=>hr r (qrX (c' r h))⟩)
   have h3:=YC (n:=16) (by omega) l.length (l.drop 16) 7 (by rw[qss];omega);exact h2.tame hf (by omega) (by omega)
theorem qg4 {vs:List Var}(hv:∀ v∈vs,jO v=0)(hf:∀ v∈vs,Fits v.name)(d:Dist):J2 (JK vs d):=by
 unfold JK;split
 . rename_i v h;have hm:=qqq h;have h1:=za (hv v hm);have h2:=qct v d.weights;have h3:=W9 h1.2.2;have h4:=qcC (N:=(jr v:Nat)) h2.1 (fun x hx=>by have:=h2.2 x hx;omega) (by omega);exact qcr h1.1 (hf v hm) (by omega) h4.1
 . exact qa2 0
theorem Q7 {p:Problem}(h:VQ p)(hv:qk p=0):∀ e∈zM p++p.soft,wI p.vars e=true/\J2 e:=by
 have hx:∀ e∈p.hard++p.soft,zo p.vars e=0:=by
  have:qN (zo p.vars) (p.hard++p.soft)=0:=by
   unfold qk at hv;split at hv
   . exact absurd hv (by assumption)
   . split at hv
     . rename_i h1;exact absurd hv h1
     . rename_i h1;exact qrl.1 h1
  exact zx.1 this
 intro e he;have hs:yn p=w6 p:=if_pos hv;rw[zM,hs]at he;rcases qqJ.1 he with he|he
 . rcases qqJ.1 he with he|he
   . exact⟨decide_eq_true (hx e (qri _ he)),h.exprs e (qri _ he)⟩
   . obtain⟨d,hd,rfl⟩:=qqT.1 he;exact⟨decide_eq_true (qfo (jc hv) d),qg4 (jc hv) h.names d⟩
 . exact⟨decide_eq_true (hx e (qrJ _ he)),h.exprs e (qrJ _ he)⟩
def Need0 (H:List Blk)(T:List (Option Nat))(r:AV)(U':St):Prop:=r=.sl 4 [] (.chain T.length 0)/\U'.T=T++[some 0]/\∃ u,U'.H=H++u
theorem qfQ (p:Problem)(h:VQ p)(hd:p.dists.length<=10000)(h1:p.hard=[])(h2:yn p=[])(H:List Blk)(T:List (Option Nat)):qf Tryz.prog GG 62 [.agg (qD p)] ⟨H,T⟩ (Need0 H T):=by
 refine qf.k qe Tryz.func62 rfl (by kernel_rfl) ?_;have hs:=Ja p h hd;rw[h2]at hs;have h00:IntKind.i64.wrap 0=0:=by decide
 simp only[qD,h1]at hs;simp[-getElem?_pos,h1];refine qc.call hs (by simp) ?_;simp[-getElem?_pos,h00,h1,qB,yJ,qae,zw,zZ,ky,z8];exact⟨rfl,rfl,_,rfl⟩
noncomputable def wJ (p:Problem):List Int×Int :=
 if qk p=0 then (if jY p.vars (zM p)=true then ((kW p.vars (zM p) (JB p.soft)).reverse.map (·.1),0) else ([],11)) else ([],1)
theorem qlp (p:Problem)(h:VQ p)(hv:qk p≠0):Pure Tryz.prog GG 61 [.agg (qD p)] (.tup [.sl 1 ((wJ p).1.map qo) .none,.int .i64 (wJ p).2]):=by
 have hr:wJ p=([],1):=if_neg hv;rw[hr];refine Pure.kO o0 true qe Tryz.func61 rfl (by kernel_rfl) ?_;have hval:=yw p h;simp only[qD]at hval;simp[-getElem?_pos];refine qc.call hval (by simp) ?_;simp[-getElem?_pos,hv];rw[qY (by simp)];exact⟨by simp,by simp[Leq,zA]⟩
theorem qf1 (p:Problem)(h:VQ p)(hv:qk p=0)(hv20:p.vars.length<=20)(hb:kc p.vars (qC p)<=18)(hd:p.dists.length<=10000)(hs:jY p.vars (zM p)=false):Pure Tryz.prog GG 61 [.agg (qD p)] (.tup [.sl 1 ((wJ p).1.map qo) .none,.int .i64 (wJ p).2]):=by
 have hr:wJ p=([],11):=by unfold wJ;rw[if_pos hv,hs,if_neg (by simp)]
 rw[hr];refine Pure.kO o0 true qe Tryz.func61 rfl (by kernel_rfl) ?_;have hval:=yw p h;have hn:=YM p h hd;have hk:=Q7 h hv;have hfn:Fits (zM p):=by
  have h1:=h.hard;have h2:(yn p).length<=10000:=by
   have:yn p=w6 p:=if_pos hv;rw[this,w6,qq7];exact hd
  show (zM p).length<_;rw[zM,qqu];omega
 have hso:=Qt p (zM p) h hv20 hb hfn (fun e he=>(hk e (qri _ he)).2);have hsb:Ju p (zM p)=false:=by
  unfold Ju;rw[hs];simp
 rw[hsb]at hso;generalize zM p=N at *;simp only[qD]at hval hn hso;simp[-getElem?_pos];refine qc.call hval (by simp) ?_;simp[-getElem?_pos,hv];refine qc.call hn (by simp) ?_;simp[-getElem?_pos];refine qc.call hso (by simp) ?_;simp[-getElem?_pos];rw[qY (by simp)];exact⟨by simp,by simp[Leq,zA]⟩
theorem qib {α:Type}{en:α->List AV}{sz:Nat}{R:List α}{tok:Tok}{n:Int}(hn:n=(R.length:Int))(h:R≠[]\/tok.known=true):zw (.sl sz (R.map en) tok) none (some (.int .i64 n)) (some (.int .i64 n))=some (.sl sz (R.map en) .tight):=by
 subst hn;have h2:(R.map en).take R.length=R.map en:=qqx (by simp);have h3:0<R.length\/tok.known=true:=h.imp qqI.2 id;simp[zw,zZ,ky,z8,wW,h2,h3]
theorem Vu {R:List Ex}{X:Ex}{H:List Blk}{T:List (Option Nat)}(hR:R.length<1000000):qL (Dof Tryz.prog) ⟨H,T⟩ 23 (.sl 4 (R.map qr) .tight) (.sl 4 [qr X] .tight)=some (.sl 4 ((R++[X]).map qr) (.chain T.length 1),⟨H,T++[some 1]⟩):=by
 have h1:R.length+1<=549755813888:=by omega
 simp[qL,zP,h1]
theorem qei (l:List Ex):(JB l).length=l.length:=by simp[JB]
theorem qhL {l:List Ex}{k:Nat}{q:Int×Ex}(h:(JB l)[k]?=some q):k<l.length/\q.1=((l.length-1-k:Nat):Int)/\l[l.length-1-k]?=some q.2:=by
 unfold JB at h;have hk:=(qqp.1 h).1;simp at hk;rw[List.getElem?_reverse (by simpa using hk)]at h;simp only[qq7,List.length_zipIdx,qqO,qsD,qr2]at h
 cases hx:l[l.length-1-k]? with
 | none=>rw[hx]at h;simp at h
 | some x=>rw[hx]at h;simp at h;subst h;exact⟨hk,rfl,rfl⟩
theorem revset {d:List Int}{m:Nat}{v:Int}(h:d.length<m):(List.replicate (m-d.length) (0:Int)++d.reverse).set (m-1-d.length) v=List.replicate (m-(d.length+1)) 0++(d++[v]).reverse:=by
 have h1:List.replicate (m-d.length) (0:Int)=List.replicate (m-(d.length+1)) 0++[0]:=by
  rw[show m-d.length=(m-(d.length+1))+1 by omega,qsT]
 rw[h1,qqW,qrw _ _ (by simp;omega)];have h2:m-1-d.length-(List.replicate (m-(d.length+1)) (0:Int)).length=0:=by simp;omega
 rw[h2];simp
theorem Zf {H:List Blk}{n:Nat}{a r:AV}{k:IntKind}{z:Int}(h1:zb (frz H n a)=true)(h2:Leq (frz H n a) r)(h3:zb a=true->Leq a r) :
 zb (frz H (n+1) (.tup [a,.int k z]))=true/\Leq (frz H (n+1) (.tup [a,.int k z])) (.tup [r,.int k z]):=by
 by_cases hn:zb a=true
 . rw[qY (by simp[hn])];exact⟨by simp[hn],by simp[Leq,zA,h3 hn]⟩
 . have:frz H (n+1) (.tup [a,.int k z])=.tup [frz H n a,.int k z]:=by
    have h0:frz H n (.int k z)=.int k z:=qY rfl;rw[frz,if_neg (by simp[hn])];simp[h0]
   rw[this];exact⟨by simp[h1],by simp[Leq,zA,h2]⟩
def NeedU (p:Problem)(H:List Blk)(r:AV)(U':St):Prop:=∃ tok u T',r=.sl 4 ((zM p).map qr) tok/\(zM p≠[]\/tok.known=true)/\U'=⟨H++u,T'⟩
theorem qfP (p:Problem)(h:VQ p)(hd:p.dists.length<=10000)(H:List Blk)(T:List (Option Nat)):qf Tryz.prog GG 62 [.agg (qD p)] ⟨H,T⟩ (NeedU p H):=by
 by_cases hN:zM p=[]
 . have h0:p.hard=[]/\yn p=[]:=(by rw[zM]at hN;simpa using hN);refine (qfQ p h hd h0.1 h0.2 H T).imp ?_;rintro v ⟨H1,T1⟩ ⟨rfl,hT,u,hH⟩;simp only at hT hH;subst hH;exact⟨_,u,T1,by rw[hN];rfl,.inr rfl,rfl⟩
 . refine qf.call (YM p h hd) (by simp) ?_;exact⟨.none,[],T,rfl,.inl hN,by simp⟩
theorem qjQ (p:Problem)(h:VQ p)(hv20:p.vars.length<=20)(hb:kc p.vars (qC p)<=18)(hd:p.dists.length<=10000)(hs5:p.soft.length<=10000) :
 Pure Tryz.prog GG 61 [.agg (qD p)] (.tup [.sl 1 ((wJ p).1.map qo) .none,.int .i64 (wJ p).2]):=by
 by_cases hv:qk p=0
 case neg=>exact qlp p h hv
 by_cases hs:jY p.vars (zM p)=true
 case neg=>exact qf1 p h hv hv20 hb hd (by simpa using hs)
 have hr:wJ p=((kW p.vars (zM p) (JB p.soft)).reverse.map (·.1),0):=by unfold wJ;rw[if_pos hv,if_pos hs]
 rw[hr];dsimp only;obtain⟨RES,hRES⟩:∃ RES,RES=(kW p.vars (zM p) (JB p.soft)).reverse.map (·.1):=⟨_,rfl⟩;rw[<- hRES];refine Pure.kO o0 true qe Tryz.func61 rfl (by kernel_rfl) ?_;have hval:=yw p h;have hn:=YM p h hd;have hk:=Q7 h hv;have h1:=h.hard;have h2:(yn p).length<=10000:=by
  have:yn p=w6 p:=if_pos hv;rw[this,w6,qq7];exact hd
 have hNl:(zM p).length<=20000:=by rw[zM,qqu];omega
 have hso:=fun l (hl:l.length<40000) (hx:∀ e∈l,wI p.vars e=true/\J2 e)=>Qt p l h hv20 hb (by show l.length<_;omega) (fun e he=>(hx e he).2)
 have hsb:∀ l,(∀ e∈l,wI p.vars e=true/\J2 e)->Ju p l=jY p.vars l:=fun l hl=>by
  have:l.all (wI p.vars)=true:=qqA.2 fun e he=>(hl e he).1
  unfold Ju;rw[this];simp[hv]
 have hne:=qfP p h hd [.cells (qD p)] [];unfold NeedU at hne;have hso0:=hso (zM p) (by omega) (fun e he=>hk e (qri _ he));rw[hsb _ (fun e he=>hk e (qri _ he)),hs]at hso0;generalize zM p=N at *;generalize hL:JB p.soft=L at *;have hLl:L.length=p.soft.length:=by rw[<- hL,qei]
 simp only[qD]at hval hn hso0 hne hso;simp[-getElem?_pos];refine qc.call hval (by simp) ?_;simp[-getElem?_pos,hv];refine qc.acall hne ?_;rintro v U ⟨tok,u,T,rfl,htok,rfl⟩;simp[-getElem?_pos];refine qc.pure hso0 (by cases tok<;>simp) (by cases tok<;>simp[zA,Leq,j9.refl]) ?_;have hsoft:(p.soft.length:Int)-1=(p.soft.length:Int)-1-(([]:List (Int×Ex)).length:Int):=by simp
 have hw1:=wr (n:=(p.soft.length:Int)-1) (by omega) (by omega);simp[-getElem?_pos,hw1];refine qV.listR L (fun d ev U=>ev 1=.ptr 0 0/\ev 6=.int .i64 ((p.soft.length:Int)-1-d.length)/\∃ R K tok u T,(∀ r,L=d++r->kW p.vars N L=K++kW p.vars R r)/\(∀ e∈R,wI p.vars e=true/\J2 e)/\R.length<=20000+d.length/\K.length<=d.length/\ev 4=.sl 4 (R.map qr) tok/\(R≠[]\/tok.known=true)/\KR 0 1 qo T (ev 5) (K.map (·.1))/\U=⟨.cells (qD p)::u,T⟩) ?_ ?_ ?_
 . refine⟨by simp,by simp,N,[],tok,u,T,fun r hr=>by rw[hr];rfl,fun e he=>hk e (qri _ he),by simpa using hNl,by simp,by simp,htok,by simpa using KR.nil,by simp⟩
 . rintro d x rest ev U R0 hR hdl hx hlt ⟨e1,e6,R,K,tok2,u2,T2,hkeep,hRk,hRl,hKl,e4,htok2,e5,rfl⟩;have hna:=qhL (l:=p.soft) (k:=d.length) (q:=x) (by rw[hL];exact hx);obtain⟨n1,n2,n3⟩:=hna;have e6':ev 6=.int .i64 ((p.soft.length-1-d.length:Nat):Int):=(by rw[e6];congr 1;omega);have hge:(0:Int)<=((p.soft.length-1-d.length:Nat):Int):=(by omega);have hsl:=qib (en:=qr) (sz:=4) (R:=R) (tok:=tok2) rfl htok2;have hxk:=hk x.2 (qrJ _ (qqq n3));have hRk2:∀ e∈R++[x.2],wI p.vars e=true/\J2 e:=fun e he=>by
    rcases qqJ.1 he with he|he
    . exact hRk e he
    . rw[qqX]at he;rw[he];exact hxk
   have hso2:=hso (R++[x.2]) (by rw[qqu,qqV];omega) hRk2;rw[hsb _ hRk2]at hso2;have hlt2:p.soft.length-1-d.length<p.soft.length:=(by omega);have hap:=fun H T=>Vu (R:=R) (X:=x.2) (H:=H) (T:=T) (by omega)
   have ha:=yA x.2;have hl4:=zc x.2;have hnr:=nrEs (R++[x.2]);simp only[qrj,qqC,qq8]at hnr;have htk:(qr x.2).take 4=qr x.2:=qqx (by rw[hl4];exact qqB _);have hw2:=wr (n:=((p.soft.length-1-d.length:Nat):Int)-1) (by omega) (by omega);have hEx:x.1=((p.soft.length-1-d.length:Nat):Int):=n2;generalize hI:p.soft.length-1-d.length=I at *;obtain⟨v5,T5,hap5,h5,hT5⟩:=(e5.ext (T':=T2++[some 1]) (qty _ _)).append (m:=[x.1]) (D:=Dof Tryz.prog) (ty:=28) (tok:=.tight) (T0:=[]) (T:=T2++[some 1]) (List.nil_prefix) (D28) rfl (D3) rfl (by decide) (by rfl) (by decide) (by simp;omega) 1 (.inl rfl);simp only[qqC,qq8,qo]at hap5;simp[-getElem?_pos,-qO,e1,e4,e6',hge,hsl,n3,htk,ha,hl4,qj,qt,hap];refine qc.pure hso2 (by simp[hnr]) (by simp) ?_;have hIm:((I:Int)-1)=((p.soft.length:Int)-1-((d++[x]).length:Nat)):=(by rw[qqu,qqV];omega);have hwx:IntKind.i64.wrap (x.1-1)=(p.soft.length:Int)-1-((d.length:Int)+1):=(by rw[hEx,hw2,hIm,qqu,qqV];omega)
   cases hso3:jY p.vars (R++[x.2]) with
   | true=>
    simp[-getElem?_pos,-qO,e6',qj,qt,hwx,<- hEx,hap5];refine hR _ _ ⟨by simp[e1],by simp,R++[x.2],K++[x],.chain T2.length 1,u2,T5,fun r hr=>?_,hRk2,by simp;omega,by simp;omega,by simp,.inl (by simp),by simpa using h5,rfl⟩;rw[hkeep (x::r) (by rw[hr];simp),kW,if_pos hso3];simp
   | false=>
    simp[-getElem?_pos,-qO,e6',hw2];refine hR _ _ ⟨by simp[e1],by simp[hIm],R,K,tok2,u2,T2++[some 1],fun r hr=>?_,hRk,by simp;omega,by simp;omega,by simp[e4],htok2,by simpa using e5.ext (qty _ _),rfl⟩;rw[hkeep (x::r) (by rw[hr];simp),kW,if_neg (by rw[hso3];simp)]
 . rintro ev U ⟨e1,e6,R,K,tok2,u2,T2,hkeep,hRk,hRl,hKl,e4,htok2,e5,rfl⟩;rw[hLl]at e6;have e6':ev 6=.int .i64 (-1):=(by rw[e6];congr 1;omega);have hK:=hkeep [] (by simp);rw[show kW p.vars R []=[] from rfl,qq6]at hK;rw[hK,List.map_reverse]at hRES;generalize hKI:K.map (·.1)=KI at *;have hKIl:KI.length<=10000:=(by rw[<- hKI,qq7];omega);subst hRES;rcases e5 with ⟨rfl,e5⟩|⟨hne,t,_,e5,_⟩
   . simp[-getElem?_pos,e6',e5,qB];refine qV.gen (fun m ev U=>ev 8=.sl 1 [] (.chain T2.length 0)/\ev 53=.int .i64 0/\ev 54=.int .i64 0) 0 ⟨by simp,by simp,by simp⟩ ?_;rintro m ev U R hR ⟨e8,e53,e54⟩;simp[-getElem?_pos,e8,e53,e54];have hf:∀ H,frz H 7 (.sl 1 [] (.chain T2.length 0))=.sl 1 [] .none:=fun H=>by rw[frz];simp[zb]
     exact Zf (by rw[hf];rfl) (by rw[hf];exact Leq.refl _) (by simp)
   . have hKn:¬ (KI.length:Int)=0:=(by have:=qqI.2 hne;omega);have hKle:(KI.length:Int)<=549755813888:=(by omega);have hKp:=qqI.2 hne;simp[-getElem?_pos,e6',e5,qB,hKle,hne];refine qV.listR KI (fun d ev U=>ev 8=.ms (u2.length+1) 0 KI.length 1/\ev 52=.sl 1 (KI.map qo) (.chain t KI.length)/\ev 53=.int .i64 KI.length/\ev 54=.int .i64 d.length/\∃ H T,U=⟨H,T⟩/\H[u2.length+1]?=some (.cells (zQ (List.replicate (KI.length-d.length) 0++d.reverse)))) ?_ ?_ ?_
     . refine⟨by simp,by simp,by simp,by simp,_,_,rfl,?_⟩;simp[zQ]
     . rintro d x rest ev U R hR hdl hx hlt ⟨e8,e52,e53,e54,H,T,rfl,hH⟩;have hdw:=wr (n:=(d.length:Int)+1) (by omega) (by omega);have hkw:=wr (n:=(KI.length:Int)-1) (by omega) (by omega);have hkw2:=wr (n:=(KI.length:Int)-1-d.length) (by omega) (by omega);have hI:((KI.length:Int)-1-d.length)=((KI.length-1-d.length:Nat):Int):=(by omega);have hlen:(zQ (List.replicate (KI.length-d.length) 0++d.reverse)).length=KI.length:=(by rw[zd];simp;omega);have hlt3:KI.length-1-d.length<KI.length:=(by omega);have hlt4:KI.length-1-d.length+1<=KI.length:=(by omega);have hset:=kR (a:=List.replicate (KI.length-d.length) 0++d.reverse) (i:=KI.length-1-d.length) (x:=x);have hHl:=(qqp.1 hH).1;rw[revset hlt]at hset;rw[hI]at hkw2;generalize hJ:KI.length-1-d.length=J at *;simp[-getElem?_pos,e8,e52,e53,e54,hlt,hx,hkw,hI,hkw2,hH,hlen,hlt3,hlt4,hset,hdw];exact hR _ _ ⟨by simp[e8],by simp[e52],by simp[e53],by simp,_,_,rfl,by rw[qqu,qqV,qsY];exact qqv hHl⟩
     . rintro ev U ⟨e8,e52,e53,e54,H,T,rfl,hH⟩;rw[qrH,qtu,qqL]at hH;simp[-getElem?_pos,e8,e53,e54];have hne2:KI.reverse≠[]:=(by simpa using hne);have ho:jx (u2.length+1) 1 qo H (.ms (u2.length+1) 0 KI.length 1) KI.reverse:=.inr ⟨hne2,by simp,by rw[hH,wo]⟩;have f1:=ho.frz (fun x=>by simp) (fun x=>by simp) (fun x=>by simp) 6;have f2:=ho.frzNo (fun x=>by simp) (fun x=>by simp) (fun x=>by simp) 6;rw[List.map_reverse]at f1;exact Zf f2 f1 (by simp)
def wU (vs:List Var)(q:List Int×Int)(i:Int):List Int×Int:=(q.1.set i.toNat q.2,q.2+zL vs i.toNat)
def kU (vs:List Var)(l:List Int):List Int×Int:=l.foldl (wU vs) (List.replicate vs.length (-1),0)
def qE (p:Problem):List Int:=(kU p.vars p.groups.flatten).1
theorem WA (vs:List Var)(l:List Int)(i:Int):kU vs (l++[i])=wU vs (kU vs l) i:=by simp[kU,qrB]
theorem Zb (vs:List Var):∀ l:List Int,(kU vs l).1.length=vs.length:=by
 intro l;have:∀ (l:List Int) (q:List Int×Int),(l.foldl (wU vs) q).1.length=q.1.length:=by
  intro l
  induction l with
  | nil=>intro q;rfl
  | cons a r ih=>intro q;rw[qq5,ih];simp[wU]
 unfold kU;rw[this];simp
theorem jX {p:Problem}(h:qk p=0):jW p.vars p.groups:=by
 have hd:zE p.vars p.groups=0:=by
  unfold qk at h;split at h
  . exact absurd h (by assumption)
  . split at h
    . rename_i h1;exact absurd h h1
    . split at h
      . rename_i h1;exact absurd h h1
      . exact h
 unfold zE at hd;split at hd
 . assumption
 . cases hd
theorem Yr {vs:List Var}{i:Int}(h:yg vs i=true):∃ (n:Nat) (v:Var),i=n/\vs[n]?=some v/\v.mode≠0:=by
 simp only[yg,qqt,decide_eq_true_eq]at h;obtain⟨j,hj⟩:=qq0 h.1;have h2:=h.2;rw[hj]at h2;simp only[qq1]at h2
 cases hv:vs[j]? with
 | none=>rw[hv]at h2;simp at h2
 | some v=>rw[hv]at h2;exact⟨j,v,hj,hv,by simpa using h2⟩
theorem qfW {vs:List Var}(hw:∀ v∈vs,0<=v.width/\v.width<=8):∀ l:List Int,0<=(kU vs l).2/\(kU vs l).2<=8*l.length:=by
 intro l;have:∀ (l:List Int) (q:List Int×Int),0<=q.2->0<=(l.foldl (wU vs) q).2/\(l.foldl (wU vs) q).2<=q.2+8*l.length:=by
  intro l
  induction l with
  | nil=>intro q h;simp[h]
  | cons a r ih=>
   intro q h;have hwa:0<=zL vs a.toNat/\zL vs a.toNat<=8:=by
    unfold zL;split
    . rename_i v hv;exact hw v (qqq hv)
    . omega
   have:=ih (wU vs q a) (by simp only[wU];omega);rw[qq5];simp only[wU,qqH]at this ⊢;omega
 have:=this l (List.replicate vs.length (-1),0) (qsW _);simpa[kU] using this
theorem YJ:∀ (n:Nat) (l:List Int),l.Nodup->(∀ x∈l,0<=x/\x<n)->l.length<=n
 | 0,l,_,h=>by
  cases l with
  | nil=>simp
  | cons a r=>have:=h a (by simp);omega
 | n+1,l,hn,h=>by
  by_cases hm:(n:Int)∈l
  . have h1:=YJ n (l.erase (n:Int)) (hn.erase _) fun x hx=>by
     have h2:=(hn.mem_erase_iff).1 hx;have:=h x h2.2;omega
    rw[qtS hm]at h1;omega
  . have h1:=YJ n l hn fun x hx=>by
     have:=h x hx;have h2:x≠(n:Int):=fun e=>hm (e▸hx)
     omega
    omega
theorem WD {p:Problem}(h:qk p=0):p.groups.flatten.length<=p.vars.length:=YJ _ _ (jX h).2.2.1 fun i hi=>by
 obtain⟨n,v,rfl,hn,_⟩:=Yr ((jX h).2.1 i hi);have:=(qqp.1 hn).1;omega
theorem qb8 (p:Problem)(h:VQ p)(hv:qk p=0):Pure Tryz.prog GG 50 [.agg (qD p)] (.sl 1 ((qE p).map qo) .none):=by
 refine Pure.kO o0 true qe Tryz.func50 rfl (by kernel_rfl) ?_;have hval:=yw p h;have hg:=jX hv;have hvars:=h.vars;have hw:∀ v∈p.vars,0<=v.width/\v.width<=8:=fun v hm=>by have:=za (jc hv v hm);omega
 obtain⟨LV,hLV⟩:∃ LV,LV=qE p:=⟨_,rfl⟩;rw[<- hLV];simp only[qD]at hval;simp[-getElem?_pos];refine qc.call hval (by simp) ?_;by_cases hv0:p.vars=[]
 . have hg0:p.groups=[]:=by
    apply qto.2;intro g hgm;have h1:=hg.1 g hgm;obtain⟨i,hi⟩:=qtJ g h1;have:=hg.2.1 i (qrd.2 ⟨g,hgm,hi⟩);obtain⟨n,v,_,hn,_⟩:=Yr this;rw[hv0]at hn;simp at hn
   have hL0:LV=[]:=(by rw[hLV,qE,hg0,hv0];rfl);subst hL0;simp[-getElem?_pos,hv,hv0,hg0,qB];refine qV.gen (fun m ev U=>ev 1=.ptr 0 0/\ev 3=.sl 1 [] (.chain 0 0)/\ev 18=.int .i64 0/\ev 19=.int .i64 0/\∃ u T,U=⟨.cells (qD p)::u,T⟩) 0 ⟨by simp,by simp,by simp,by simp,_,_,by simp[hv0,hg0];exact⟨rfl,rfl⟩⟩ ?_;rintro m ev U R hR ⟨e1,e3,e18,e19,u,T,rfl⟩;simp[-getElem?_pos,e1,e18,e19,hg0];refine qV.gen (fun m ev U=>ev 3=.sl 1 [] (.chain 0 0)/\ev 28=.int .i64 0/\ev 29=.int .i64 0) 0 ⟨by simp[e3],by simp,by simp⟩ ?_;rintro m ev U R hR ⟨e3,e28,e29⟩;simp[-getElem?_pos,e3,e28,e29];have hf:∀ H,frz H 8 (.sl 1 [] (.chain 0 0))=.sl 1 [] .none:=fun H=>by rw[frz];simp[zb]
   rw[hf];exact⟨rfl,Leq.refl _⟩
 . have hpos:=qqI.2 hv0;have hne:¬ (p.vars.length:Int)=0:=(by omega);have hle:(p.vars.length:Int)<=549755813888:=(by omega);simp[-getElem?_pos,hv,hv0,hle,qB];have hnd:=hg.2.2.1;have hfl:p.groups.flatten.length<=1000:=qrf (WD hv) hvars;have hgl:=h.groups;have hgf:=h.group;refine ym p.vars.length (fun i ev U=>ev 1=.ptr 0 0/\ev 3=.ms 1 0 p.vars.length 1/\ev 18=.int .i64 p.vars.length/\ev 19=.int .i64 (i:Int)/\U=⟨[.cells (qD p),.cells (zQ (List.replicate i (-1)++List.replicate (p.vars.length-i) 0))],[]⟩) ?_ ?_ ?_
   . refine⟨by simp,by simp,by simp,by simp,?_⟩;simp[zQ]
   . rintro i ev U R hR hi ⟨e1,e3,e18,e19,rfl⟩;have hw1:=wr (n:=(i:Int)+1) (by omega) (by omega);have hi':(i:Int)<p.vars.length:=(by omega);have hi1:i+1<=p.vars.length:=hi;have hll:(zQ (List.replicate i (-1)++List.replicate (p.vars.length-i) 0)).length=p.vars.length:=(by rw[zd];simp;omega);have hset:(zQ (List.replicate i (-1)++List.replicate (p.vars.length-i) 0)).set i (.int .i64 (-1))=zQ (List.replicate (i+1) (-1)++List.replicate (p.vars.length-(i+1)) 0):=by
      rw[kR,qrw _ _ (by simp)];have:p.vars.length-i=(p.vars.length-(i+1))+1:=by omega
      rw[this,qsG];simp[qsT]
     simp[-getElem?_pos,e3,e18,e19,hi',hi1,hll,hset,hw1];exact hR _ _ ⟨by simp[e1],by simp[e3],by simp[e18],by simp,rfl⟩
   . rintro ev U ⟨e1,e3,e18,e19,rfl⟩;rw[qrH,qtu,qq6];have hL0:(kU p.vars []).1=List.replicate p.vars.length (-1):=rfl;rw[<- hL0];simp[-getElem?_pos,e1,e18,e19];refine qV.listR p.groups (fun dn ev U=>ev 1=.ptr 0 0/\ev 3=.ms 1 0 p.vars.length 1/\ev 5=.int .i64 (kU p.vars dn.flatten).2/\ev 27=.sl 1 (p.groups.map zF) .none/\ev 28=.int .i64 p.groups.length/\ev 29=.int .i64 dn.length/\U=⟨[.cells (qD p),.cells (zQ (kU p.vars dn.flatten).1)],[]⟩) ?_ ?_ ?_
     . exact⟨by simp[e1],by simp[e3],by simp[kU],by simp,by simp,by simp,rfl⟩
     . rintro dn g rest ev U R hR hd hx hlt ⟨e1,e3,e5,e27,e28,e29,rfl⟩;have hdw:=wr (n:=(dn.length:Int)+1) (by omega) (by omega);have hlt':(dn.length:Int)<p.groups.length:=(by omega);have hgm:=qqq hx;have hgfit:=hgf g hgm;simp[-getElem?_pos,e27,e28,e29,hlt',hx];refine qV.listR g (fun dg ev U=>ev 1=.ptr 0 0/\ev 3=.ms 1 0 p.vars.length 1/\ev 5=.int .i64 (kU p.vars (dn.flatten++dg)).2/\ev 27=.sl 1 (p.groups.map zF) .none/\ev 28=.int .i64 p.groups.length/\ev 29=.int .i64 dn.length/\ev 33=.sl 1 (g.map qo) .none/\ev 34=.int .i64 g.length/\ev 35=.int .i64 dg.length/\U=⟨[.cells (qD p),.cells (zQ (kU p.vars (dn.flatten++dg)).1)],[]⟩) ?_ ?_ ?_
       . exact⟨by simp[e1],by simp[e3],by simp[e5],by simp[e27],by simp[e28],by simp[e29],by simp,by simp,by simp,by simp⟩
       . rintro dg v rest2 ev U R2 hR2 hd2 hx2 hlt2 ⟨e1,e3,e5,e27,e28,e29,e33,e34,e35,rfl⟩;have hm:v∈p.groups.flatten:=qrd.2 ⟨g,hgm,qqq hx2⟩;obtain⟨n,vr,rfl,hn,_⟩:=Yr (hg.2.1 v hm);have hnl:=(qqp.1 hn).1;have hdw2:=wr (n:=(dg.length:Int)+1) (by unfold Fits at hgfit;omega) (by unfold Fits at hgfit;omega);have hlt2':(dg.length:Int)<g.length:=(by omega);have hwv:=hw vr (qqq hn);have hpre:(dn.flatten++dg).length<=1000:=by
          have:(dn.flatten++dg).length<=p.groups.flatten.length:=by
           rw[hd,hd2];simp
          omega
         have hnx:=qfW hw (dn.flatten++dg);have hww:=wr (n:=(kU p.vars (dn.flatten++dg)).2+vr.width) (by omega) (by omega);have hs:=WA p.vars (dn.flatten++dg) (n:Int);have hln:=Zb p.vars (dn.flatten++dg);have hwa:zL p.vars n=vr.width:=(by simp[zL,hn]);simp only[wU,qq1,hwa]at hs;rw[qqW]at hs;generalize hQ:kU p.vars (dn.flatten++dg)=q at *;obtain⟨L,nx⟩:=q;simp only at *;have hll:(zQ L).length=p.vars.length:=(by rw[zd,hln]);have hn1:n+1<=p.vars.length:=hnl;have hn0:(n:Int)<p.vars.length:=(by omega);simp[-getElem?_pos,e1,e3,e5,e33,e34,e35,hlt2',hx2,hll,hn1,hn0,hn,kR,hww,hdw2];exact hR2 _ _ ⟨by simp[e1],by simp[e3],by simp[hs],by simp[e27],by simp[e28],by simp[e29],by simp[e33],by simp[e34],by simp,by simp[hs]⟩
       . rintro ev U ⟨e1,e3,e5,e27,e28,e29,e33,e34,e35,rfl⟩;simp[-getElem?_pos,e29,e34,e35,hdw];exact hR _ _ ⟨by simp[e1],by simp[e3],by simp[e5],by simp[e27],by simp[e28],by simp,by simp⟩
     . rintro ev U ⟨e1,e3,e5,e27,e28,e29,rfl⟩;have hLL:(kU p.vars p.groups.flatten).1=LV:=hLV.symm;have hln:=Zb p.vars p.groups.flatten;rw[hLL]at hln ⊢;simp[-getElem?_pos,e3,e28,e29];have hne2:LV≠[]:=fun e=>by rw[e]at hln;simp at hln;omega
       have ho:jx 1 1 qo [.cells (qD p),.cells (zQ LV)] (.ms 1 0 p.vars.length 1) LV:=.inr ⟨hne2,by rw[hln],by rw[wo];rfl⟩;exact⟨ho.frzNo (fun x=>by simp) (fun x=>by simp) (fun x=>by simp) 7,ho.frz (fun x=>by simp) (fun x=>by simp) (fun x=>by simp) 7⟩
theorem yr {p:Problem}(h:qk p=0):(p.vars.map (·.name)).Nodup:=by
 have hv:z0 p.vars=0:=by
  unfold qk at h;split at h
  . exact absurd h (by assumption)
  . rename_i h1;exact qrl.1 h1
 have hd:qnC p.vars=false:=by
  unfold z0 at hv;split at hv
  . cases hv
  . split at hv
    . rename_i h1;exact absurd hv h1
    . split at hv
      . cases hv
      . rename_i h1;simpa using h1
 unfold qnC at hd;rw[qrT]at hd;refine qsj.2 fun i j hi hj hij e=>?_
 simp only[qq7]at hi hj;rw[qrQ,qrQ]at e;have:=hd j (qrr.2 hj);unfold vJ at this;rw[qqr hj]at this;simp only[vF,qqR]at this;exact this ⟨p.vars[i],by rw[qtK];exact⟨i,by omega,rfl⟩,by simpa using e⟩
theorem qar {vs:List Var}{m:Nat}{U:St}(hm:U.H[m]?=some (wS vs))(hn:(vs.map (·.name)).Nodup){i:Nat}{v:Var}(hv:vs[i]?=some v):zs (Dof Tryz.prog) U 210 (.map m) (.str v.name) true=some (.tup [.int .i64 (i:Int),.bool true]):=by
 have:=qdB hn hv 0;unfold wS at hm;generalize (vm vs).map Jg=E at *;simp[zs,hm,zB,this]
theorem qoh (p:Problem)(e:Ex)(hn:(p.vars.map (·.name)).Nodup)(hk:zo p.vars e=0)(ht:J2 e){H:List Blk}{M:Nat}(hM:H[M]?=some (wS p.vars))(T:List (Option Nat)) :
 qf Tryz.prog GG 202 [.map M,.agg (qr e)] ⟨H,T⟩ (fun r U'=>r=.int .i64 0/\KpL [] H U'.H):=by
 refine qf.k qe Tryz.func202 rfl (by kernel_rfl) ?_;have ha:=vM e ht.1 ht.2.2;have hna:=Q8 e ht.1 ht.2.2;have he:zl e=0/\Js e=false/\QB p.vars e=false:=by
  unfold zo at hk;split at hk
  . rename_i h;exact absurd hk h
  . rename_i h;split at hk
    . cases hk
    . split at hk
      . cases hk
      . rename_i h2 h3;exact⟨qrl.1 h,by simpa using h2,by simpa using h3⟩
 have h0:zK [3,24] e=[]:=by
  have:=v9 (e:=e);rw[he.2.1]at this
  cases hl:zK [3,24] e with
  | nil=>rfl
  | cons a r=>rw[hl]at this;simp at this
 have hall:∀ s∈zK [2] e,∃ (i:Nat) (v:Var),p.vars[i]?=some v/\v.name=s:=fun s hs=>by
  have:=vU (l:=p.vars) (e:=e);rw[he.2.2,qrT]at this;have h1:=this s hs;simp only[qrK,Bool.not_eq_false,vF,qqR]at h1;obtain⟨v,hv,hvn⟩:=h1;obtain⟨i,hi⟩:=qqZ hv;exact⟨i,v,hi,by simpa using hvn⟩
 have hfit:(zK [2] e).length<=100000:=YN ht.2.2;rw[h0]at ha;have henc:=qd e;rw[henc]at ha hna ⊢;generalize zK [2] e=N at *;simp[-getElem?_pos];refine qc.call ha (by simp) ?_;simp[-getElem?_pos];refine qc.call hna (by simp) ?_;simp[-getElem?_pos];refine qV.listR N (fun d ev U=>ev 0=.map M/\ev 14=.sl 1 (N.map ja) .none/\ev 15=.int .i64 N.length/\ev 16=.int .i64 d.length/\KpL [] H U.H) ?_ ?_ ?_
 . exact⟨by simp,by simp,by simp,by simp,KpL.app⟩
 . rintro d s rest ev ⟨H1,T1⟩ R hR hd hx hlt ⟨e0,e14,e15,e16,hkp⟩;dsimp only at hkp;obtain⟨i,v,hi,hvn⟩:=hall s (qqq hx);have hl:=qar (U:=⟨H1,T1⟩) (hkp.2 _ _ hM (by simp)) hn hi;rw[hvn]at hl;have hdw:=wr (n:=(d.length:Int)+1) (by omega) (by omega);have hlt':(d.length:Int)<N.length:=(by omega);simp[-getElem?_pos,e0,e14,e15,e16,hlt,hlt',hx,hl,hdw];exact hR _ _ ⟨by simp[e0],by simp[e14],by simp[e15],by simp,hkp⟩
 . rintro ev ⟨H1,T1⟩ ⟨e0,e14,e15,e16,hkp⟩;simp[-getElem?_pos,e15,e16];exact hkp
def qkV:List (Nat×Sch×List Nat):=[(7,.step 0 [7,3,2,1] (.step 1 [7,3,2] (.step 2 [7,3] (.step 3 [7] (.step 4 [7,5] (.step 5 [7] (.step 6 [7] (.step 7 [] (.done)))))))),[]),(9,.step 0 [8,7] (.step 1 [8,7,6,4,3,2] (.step 2 [8,7,6,4,3] (.step 3 [8,7,6,4] (.step 4 [8,7,6] (.step 5 [8,7,6] (.step 6 [8,7] (.step 7 [8] (.step 8 [] (.done))))))))),[6])]
def BldQ (d:List Nd)(p:Problem)(H:List Blk)(r:AV)(U':St):Prop :=
 ∃ B M,r=.tup [.ptr B 0,.int .i64 0]/\H.length<=B/\H.length<=M/\M≠B/\KpL [] H U'.H/\U'.H[B]?=some (.cells (.sl 3 (d.map qw) .none::(qD p++[.sl 1 ((qE p).map qo) .none,.map M])))/\U'.H[M]?=some (wS p.vars)
theorem qff {vs:List Var}{i:Nat}{v:Var}(hv:vs[i]?=some v):vm (vs.take (i+1))=vm (vs.take i)++[(v.name,.int .i64 (i:Int),i)]:=by
 have hl:=(qqp.1 hv).1;unfold vm;rw[qqU,hv];simp[qs9,qrN (quf hl)]
theorem qka {vs:List Var}(hn:(vs.map (·.name)).Nodup){i:Nat}{v:Var}(hv:vs[i]?=some v)(k:Nat):jB (.str v.name) ((vm (vs.take i)).map Jg) k=some none:=by
 have hl:=(qqp.1 hv).1;rcases QQ (s:=v.name) (vm (vs.take i)) k with ⟨h1,_⟩|⟨j,q,h1,h2,_⟩
 . exact h1
 . exfalso;obtain⟨w,hw,rfl⟩:=qdC h1;rw[qrh]at hw;split at hw
   . rename_i hj;obtain⟨hj1,hj2⟩:=qqp.1 hw;obtain⟨_,hi2⟩:=qqp.1 hv;have hp:=qsj.1 hn;have h2:w.name=v.name:=h2;exact hp j i (by simpa using hj1) (by simpa using hl) hj (by rw[qrQ,qrQ,hj2,hi2,h2])
   . cases hw
theorem qkp (d:List Nd)(hd:DagOk d)(p:Problem)(h:VQ p)(hv:qk p=0)(e:Ex)(hk:zo p.vars e=0)(ht:J2 e)(H:List Blk)(T:List (Option Nat)) :
 qf Tryz.prog GG 157 [.agg (zz d),.agg (qD p),.agg (qr e)] ⟨H,T⟩ (BldQ d p H):=by
 refine qf.kO ⟨false,qkV,[],[]⟩ qe Tryz.func157 rfl (by kernel_rfl) ?_;have hdv:=Kj d hd;have hpv:=yw p h;have hev:=Yc e ht.1 (by have:=ht.2.1;omega);have hlv:=qb8 p h hv;have hn:=yr hv;have he:zl e=0:=by
  unfold zo at hk;split at hk
  . rename_i h;exact absurd hk h
  . rename_i h;exact qrl.1 h
 have hvl:=h.vars;have huse:=fun H M (hM:H[M]?=some (wS p.vars)) T=>qoh p e hn hk ht hM T
 rw[hv]at hpv;rw[he]at hev;generalize hLV:qE p=LV at *;rw[qd e]at hev huse ⊢;simp only[zz]at hdv;simp only[qD]at hpv hlv;simp[-getElem?_pos];refine qc.call hdv (by simp) ?_;simp[-getElem?_pos,unA];refine qc.call hpv (by simp) ?_;simp[-getElem?_pos];refine qc.call hev (by simp) ?_;simp[-getElem?_pos];rw[ZK (by rfl)];simp[-getElem?_pos];refine qc.call hlv (by simp) ?_;simp[-getElem?_pos,zt,zX,qG];refine qV.listR p.vars (fun dn ev U=>ev 4=.ptr (H.length+1) 0/\ev 5=.ptr (H.length+2) 0/\ev 8=.ptr (H.length+4) 0/\ev 32=.sl 4 (p.vars.map qz) .none/\ev 33=.int .i64 p.vars.length/\ev 34=.int .i64 dn.length /\
  KpL [] H U.H/\U.H[H.length+1]?=some (.cells (qD p))/\U.H[H.length+2]?=some (.cells [.int .i64 e.op,.int .i64 e.n,.str e.name,.sl 4 (e.args.map qr) .none])/\U.H[H.length+3]?=some (.map ((vm (p.vars.take dn.length)).map Jg) dn.length) /\
  U.H[H.length+4]?=some (.cells (.sl 3 (d.map qw) .none::(qD p++[.sl 1 (LV.map qo) .none,.map (H.length+3)])))) ?_ ?_ ?_
 . refine⟨by simp,by simp,by simp,by simp,by simp,by simp,KpL.app,?_,?_,?_,?_⟩
   . exact lk1
   . exact lk2
   . exact lk3
   . exact lk4
 . rintro dn v rest ev ⟨H1,T1⟩ R hR hd hx hlt ⟨e4,e5,e8,e32,e33,e34,hkp,bP,bE,bM,bB⟩;dsimp only at hkp bP bE bM bB;have hdw:=wr (n:=(dn.length:Int)+1) (by omega) (by omega);have hlt':(dn.length:Int)<p.vars.length:=(by omega);have hf:=qka hn hx 0;have ht1:=qff hx;have hMl:=(qqp.1 bM).1;have hup:∀ (u:List Blk) (T:List (Option Nat)),qX (Dof Tryz.prog) ⟨H1++u,T⟩ 210 (.map (H.length+3)) (.str v.name) (.int .i64 (dn.length:Int))=some ⟨H1.set (H.length+3) (.map ((vm (p.vars.take (dn.length+1))).map Jg) (dn.length+1))++u,T⟩:=fun u T=>by
    rw[ht1,qrj];generalize (vm (p.vars.take dn.length)).map Jg=E at *;simp[qX,qa bM,zB,hf,yQ bM,Jg]
   generalize hE2:(vm (p.vars.take (dn.length+1))).map Jg=E2 at *;simp only[qD,qqK,qqL]at bB;simp[-getElem?_pos,e4,e5,e8,e32,e33,e34,hlt,hlt',hx];rw[qJ rfl];simp[-getElem?_pos,qP,e4,e5,e8,e32,e33,e34,qa bB,hup,hdw];refine hR _ _ ⟨by simp[e4],by simp[e5],by simp[e8],by simp[e32],by simp[e33],by simp,(hkp.setF (by omega)).trans KpL.app,qa (by rw[qqs (by omega)];exact bP) _,qa (by rw[qqs (by omega)];exact bE) _,?_,qa (by rw[qqs (by omega)];exact bB) _⟩;rw[qqu,qqV,hE2];exact qa (qqv hMl) _
 . rintro ev ⟨H1,T1⟩ ⟨e4,e5,e8,e32,e33,e34,hkp,bP,bE,bM,bB⟩;dsimp only at hkp bP bE bM bB;rw[qst]at bM;have bM':H1[H.length+3]?=some (wS p.vars):=bM;have bB':=bB;simp only[qD,qqK,qqL]at bB;simp[-getElem?_pos,e4,e5,e8,e32,e33,e34];rw[qJ rfl];simp[-getElem?_pos,qP,e4,e5,e8,e32,e33,e34,bB,bE];refine qc.acall (huse H1 (H.length+3) bM' T1) ?_;rintro v ⟨H2,T2⟩ ⟨rfl,hk2⟩;dsimp only at hk2;simp[-getElem?_pos,qP,e8];exact⟨H.length+4,H.length+3,rfl,by omega,by omega,by omega,hkp.trans hk2,by rw[hLV];exact hk2.2 _ _ bB' (by simp),hk2.2 _ _ bM' (by simp)⟩
def yP (vs:List Var)(l:List Int):Int:=(l.map fun i=>zL vs i.toNat).sum
theorem Wa (vs:List Var)(l:List Int)(i:Int):yP vs (l++[i])=yP vs l+zL vs i.toNat:=by simp[yP]
theorem Zy {vs:List Var}(hw:∀ v∈vs,0<=v.width)(n:Nat):0<=zL vs n:=by
 unfold zL;split
 . rename_i v hv;exact hw v (qqq hv)
 . omega
theorem JL {vs:List Var}(hw:∀ v∈vs,0<=v.width):∀ l:List Int,0<=yP vs l
 | []=>by simp[yP]
 | a::r=>by
  have:=JL hw r;have:=Zy hw a.toNat;simp only[yP,qqC,qsz]at *;omega
theorem qaB (vs:List Var)(l m:List Int):yP vs (l++m)=yP vs l+yP vs m:=by simp[yP]
theorem K9 {vs:List Var}(hw:∀ v∈vs,0<=v.width)(l:List Int)(k:Nat):yP vs (l.take k)<=yP vs l:=by
 have h1:=qaB vs (l.take k) (l.drop k);rw[qq4]at h1;have:=JL hw (l.drop k);omega
theorem qem {vs:List Var}{l:List Int}(hl:∀ i∈l,∃ n:Nat,i=n/\n<vs.length)(hnd:l.Nodup):∀ m,m<=l.length->(kU vs (l.take m)).2=yP vs (l.take m)/\∀ k (i:Int),k<m->l[k]?=some i->(kU vs (l.take m)).1[i.toNat]?=some (yP vs (l.take k))
 | 0,_=>⟨by simp[kU,yP],fun k i h=>by omega⟩
 | m+1,hm=>by
  obtain⟨ih1,ih2⟩:=qem hl hnd m (by omega);obtain⟨j,hj⟩:∃ j,l[m]?=some j:=⟨_,qqr (by omega)⟩;have ht:l.take (m+1)=l.take m++[j]:=by rw[qqU,hj];rfl
  obtain⟨n,rfl,hn⟩:=hl j (qqq hj);have hlen:=Zb vs (l.take m);rw[ht,WA,Wa];refine⟨by simp only[wU,ih1],fun k i hk hi=>?_⟩;simp only[wU,qq1];by_cases hkm:k=m
  . subst hkm;rw[hj]at hi;cases hi;rw[qq1,qqv (by omega),ih1]
  . obtain⟨n2,rfl,hn2⟩:=hl i (qqq hi);have hne:n≠n2:=by
     rintro rfl;have hp:=qsj.1 hnd;obtain⟨a1,a2⟩:=qqp.1 hj;obtain⟨b1,b2⟩:=qqp.1 hi;exact hp k m b1 a1 (by omega) (by rw[a2,b2])
    rw[qq1,qqs hne];exact ih2 k _ (by omega) hi
theorem qaz {f:Int->Int}:∀ {l:List Int} {a:Int},a∈l->((l.erase a).map f).sum+f a=(l.map f).sum
 | x::r,a,h=>by
  rw[List.erase_cons];split
  . rename_i hx;have:x=a:=by simpa using hx
    subst this;simp;omega
  . rename_i hx;have hx:¬ x=a:=(by simpa using hx);have h2:a∈r:=(qqQ.1 h).resolve_left (Ne.symm hx);have:=qaz (f:=f) h2;simp;omega
theorem qcu {f:Int->Int}(hf:∀ i,0<=f i):∀ (n:Nat) (l:List Int),l.Nodup->(∀ x∈l,0<=x/\x<n)->(l.map f).sum<=((List.range n).map fun k:Nat=>f k).sum
 | 0,l,_,h=>by
  cases l with
  | nil=>simp
  | cons a r=>have:=h a (by simp);omega
 | n+1,l,hn,h=>by
  rw[qrO,qrj,List.sum_append];simp only[qqC,qq8,qsz,qug];by_cases hm:(n:Int)∈l
  . have h1:=qcu hf n (l.erase (n:Int)) (hn.erase _) fun x hx=>by
     have h2:=(hn.mem_erase_iff).1 hx;have:=h x h2.2;omega
    have:=qaz (f:=f) hm;omega
  . have h1:=qcu hf n l hn fun x hx=>by
     have:=h x hx;have h2:x≠(n:Int):=fun e=>hm (e▸hx)
     omega
    have:=hf n;omega
def qoz (vs:List Var)(i:Int):Int:=if yg vs i=true then zL vs i.toNat else 0
theorem qjk:∀ (vs:List Var),((List.range vs.length).map fun k:Nat=>qoz vs k).sum=yd vs:=by
 have gen:∀ (vs pre:List Var),((List.range' pre.length vs.length).map fun k:Nat=>qoz (pre++vs) k).sum=yd vs:=by
  intro vs
  induction vs with
  | nil=>intro pre;rfl
  | cons v r ih=>
   intro pre;have:=ih (pre++[v]);rw[qqW,qsg,qqu,qqV]at this;rw[qqH,qr7,qqC,qsz,this];simp only[yd];congr 1;have h1:(pre++v::r)[pre.length]?=some v:=(by rw[qqy (qqB _),qrH];rfl);simp only[qoz,yg,zL,qq1,h1];by_cases hm:v.mode=0<;>simp[hm]
 intro vs;have:=gen vs []
 rwa[qrn,<- qrD,qqL]at this
theorem qfh {p:Problem}(h:qk p=0):yd p.vars<=20:=by
 have hv:z0 p.vars=0:=by
  unfold qk at h;split at h
  . exact absurd h (by assumption)
  . rename_i h1;exact qrl.1 h1
 unfold z0 at hv;split at hv
 . cases hv
 . split at hv
   . rename_i h1;exact absurd hv h1
   . split at hv
     . cases hv
     . split at hv
       . cases hv
       . split at hv
         . cases hv
         . omega
theorem JS {p:Problem}(h:qk p=0):∀ i∈p.groups.flatten,∃ n:Nat,i=n/\n<p.vars.length:=fun i hi=>by
 obtain⟨n,v,rfl,hn,_⟩:=Yr ((jX h).2.1 i hi);exact⟨n,rfl,(qqp.1 hn).1⟩
theorem vN {p:Problem}(h:qk p=0):∀ v∈p.vars,0<=v.width:=fun v hm=>by have:=za (jc h v hm);omega
theorem Y5 {p:Problem}(h:qk p=0):yP p.vars p.groups.flatten<=20:=by
 have h1:=qcu (f:=qoz p.vars) (fun i=>by unfold qoz;split;exact Zy (vN h) _;omega) p.vars.length p.groups.flatten (jX h).2.2.1 (fun i hi=>by
  obtain⟨n,rfl,hn⟩:=JS h i hi;omega)
 rw[qjk]at h1;have h2:=qfh h;have h3:(p.groups.flatten.map (qoz p.vars)).sum=yP p.vars p.groups.flatten:=by
  unfold yP;congr 1;exact qrz fun i hi=>by unfold qoz;rw[if_pos ((jX h).2.1 i hi)]
 omega
theorem yX (p:Problem):(qE p).length=p.vars.length:=Zb p.vars _
theorem YQ {p:Problem}(h:qk p=0){k:Nat}{n:Nat}(hk:p.groups.flatten[k]?=some (n:Int)):(qE p)[n]?=some (yP p.vars (p.groups.flatten.take k)):=by
 have h1:=(qem (JS h) (jX h).2.2.1 p.groups.flatten.length (qqB _)).2 k _ (qqp.1 hk).1 hk;rw[qst,qq1]at h1;exact h1
theorem qhs {p:Problem}(h:qk p=0){n:Nat}{v:Var}(hv:p.vars[n]?=some v)(hm:v.mode≠0):∃ k:Nat,p.groups.flatten[k]?=some (n:Int):=by
 have:=(jX h).2.2.2 n (qqp.1 hv).1 (by simp[yg,hv,hm]);exact qqZ this
theorem qh4 {p:Problem}(h:qk p=0):∀ (i:Nat) (v:Var) (l:Int),p.vars[i]?=some v->(qE p)[i]?=some l->v.mode≠0->0<=l/\l+v.width<=20:=fun i v l hv hl hm=>by
 obtain⟨k,hk⟩:=qhs h hv hm;have h1:=YQ h hk;rw[hl]at h1;cases h1;have h2:=JL (vN h) (p.groups.flatten.take k);have h3:=K9 (vN h) p.groups.flatten (k+1);have h4:p.groups.flatten.take (k+1)=p.groups.flatten.take k++[(i:Int)]:=by rw[qqU,hk];rfl
 rw[h4,Wa]at h3;have h5:zL p.vars (i:Int).toNat=v.width:=by simp[zL,hv]
 have h6:=Y5 h;omega
end Go.Proofs.YtkpkjbchlabaaaaGreatDoor
end
