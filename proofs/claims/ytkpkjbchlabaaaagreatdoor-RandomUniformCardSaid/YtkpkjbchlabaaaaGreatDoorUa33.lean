/- A part of the proof. -/
import Derived.Test.YtkpkjbchlabaaaaGreatDoorUa32
import Derived.Test.YtkpkjbchlabaaaaGreatDoorUa31
set_option linter.unusedVariables false
set_option linter.unusedSimpArgs false
set_option maxRecDepth 100000
set_option maxHeartbeats 16000000
set_option linter.defProp false
section
namespace Go.Proofs.YtkpkjbchlabaaaaGreatDoor
open Go Go.Abs
theorem qga {p:Problem}(h:qk p=0):∀ d∈p.dists,∃ (i:Nat) (v:Var),d.var=i/\p.vars[i]?=some v:=by
 have hd:j9 p.vars p.dists=0:=by
  unfold qk at h;split at h
  . exact absurd h (by assumption)
  . split at h
    . rename_i h1;exact absurd h h1
    . split at h
      . rename_i h1;exact absurd h h1
      . rename_i h1;exact qqI.1 h1
 intro d hm;obtain⟨k,hk⟩:=qqg hm;have hkl:=(qpy.1 hk).1;unfold j9 at hd;have:=zy.1 hd k (by simp;omega);unfold jD at this;rw[hk]at this;simp only at this;split at this
 . cases this
 . rename_i hr;have hr:yc p.vars d.var=true:=(by simpa using hr);simp only[yc,qpC,decide_eq_true_eq]at hr;obtain⟨j,hj⟩:=qp7 hr.1;rw[hj]at hr;simp only[qqi]at hr
   cases hv:p.vars[j]? with
   | none=>rw[hv]at hr;simp at hr
   | some v=>exact⟨j,v,hj,hv⟩
noncomputable def ym (p:Problem):List Ex:=if qk p=0 then vP p else []
theorem ZK (p:Problem)(h:VQ p)(hd:p.dists.length<=10000):Pure Tryz.prog GG 117 [.agg (qG p)] (.sl 4 ((ym p).map qq) .none):=by
 refine Pure.k qe Tryz.func117 rfl (by kernel_rfl) ?_;have hval:=yh p h;simp only[qG]at hval;by_cases hv:qk p=0
 case neg=>
  have:ym p=[]:=if_neg hv;rw[this];simp[-getElem?_pos];refine qc.call hval (by simp) ?_;simp[-getElem?_pos,hv,Leq]
 have hs:ym p=p.dists.map (Kd p.vars):=if_pos hv;rw[hs];have hdl:(p.dists.length:Int)<=549755813888:=by omega
 simp[-getElem?_pos];refine qc.call hval (by simp) ?_;simp[-getElem?_pos,hv,qy,hdl];have hvd:=qga hv;refine qY.listR p.dists (fun d ev U=>ev 1=.ptr 0 0/\ev 3=.sl 4 ((d.map (Kd p.vars)).map qq) (.chain 0 d.length)/\ev 14=.sl 2 (p.dists.map zG) .none/\ev 15=.int .i64 p.dists.length/\ev 16=.int .i64 d.length/\∃ t,U=⟨.cells (qG p)::t,[some d.length]⟩) ?_ ?_ ?_
 . exact⟨by simp,by simp,by simp,by simp,by simp,[],by simp⟩
 . rintro d x rest ev U R hR hd2 hx hlt ⟨e1,e3,e14,e15,e16,t,rfl⟩;have hdw:=wr (n:=(d.length:Int)+1) (by omega) (by omega);have hm:=qpz hx;obtain⟨i,v,hi,hvi⟩:=hvd x hm;have hvw:=zc (ju hv v (qpz hvi));have hsup:=qeH p x v i hi hvi h.vars (by omega) (by omega) (h.weights x hm);have hsn:(d++[x]).map (Kd p.vars)=d.map (Kd p.vars)++[Kd p.vars x]:=(by simp);have hml:(d.map (Kd p.vars)).length=d.length:=(by simp);have ha:=yl (Kd p.vars x);have hl4:=za (Kd p.vars x);generalize Kd p.vars x=X at *;generalize d.map (Kd p.vars)=D at *;have happ:∀ H,qK (Dof Tryz.prog) ⟨H,[some d.length]⟩ 23 (.sl 4 (D.map qq) (.chain 0 d.length)) (.sl 4 [qq X] .tight)=some (.sl 4 ((D++[X]).map qq) (.chain 0 (d.length+1)),⟨H,[some (d.length+1)]⟩):=fun H=>by
    have h1:D.length+1<=549755813888:=(by omega);simp[qK,zK,h1]
   simp only[qG]at hsup;simp[-getElem?_pos,-qN,e1,e3,e14,e15,e16,hlt,hx];refine qc.call hsup (by simp) ?_;simp[-getElem?_pos,-qN,ha,hl4,e1,e3,e14,e15,e16,hdw,qj,qs,happ];refine hR _ _ ⟨by simp[e1],by rw[hsn];simp,by simp[e14],by simp[e15],by simp,t++[.cells (zG x)],?_⟩;simp
 . rintro ev U ⟨e1,e3,e14,e15,e16,t,rfl⟩;have hn:=nrEs (p.dists.map (Kd p.vars));rw[qqS]at hn;simp[-getElem?_pos,e3,e15,e16,hn]
theorem J9:∀ (new c:List AV) (off:Nat),(zi c off new).length=c.length
 | [],c,off=>rfl
 | v::r,c,off=>by rw[zi,J9 r];simp
theorem qai (A B Z:List AV)(h:Z.length=A.length+B.length):zi (zi Z 0 A) A.length B=A++B:=by
 obtain⟨Z1,Z2,rfl,h1⟩:∃ Z1 Z2,Z=Z1++Z2/\Z1.length=A.length:=⟨Z.take A.length,Z.drop A.length,(qqt _ _).symm,by rw[qqb];omega⟩;rw[wj A Z1 Z2 h1];have:=w7 (c:=Z2) B A 0;rw[qqJ]at this;rw[this,putAt_all Z2 B (by simp at h;omega)]
def needE (a b:List Ex):List AV:=(a++b).flatMap qq
theorem sl_ms (N k:Nat)(h:k<N):zp (.ms 1 0 N 4) (some (.int .i64 (k:Int))) none none=some (.ms 1 (k*4) (N-k) 4):=by
 show (if (0:Int)<=k/\(k:Int)<=N/\(N:Int)<=N/\((k:Int)=0\/(k:Int)<N) then some (AV.ms 1 (0+(k:Int).toNat*4) ((N:Int).toNat-(k:Int).toNat) 4) else if (k:Int)=N/\(N:Int)=N then some (.sl 4 [] .none) else none)=_;rw[if_pos ⟨by omega,by omega,by omega,by omega⟩];simp
theorem sl_msE (N:Nat)(h:0<N):zp (.ms 1 0 N 4) (some (.int .i64 (N:Int))) none none=some (.sl 4 [] .none):=by
 show (if (0:Int)<=N/\(N:Int)<=N/\(N:Int)<=N/\((N:Int)=0\/(N:Int)<N) then some (AV.ms 1 (0+(N:Int).toNat*4) ((N:Int).toNat-(N:Int).toNat) 4) else if (N:Int)=N/\(N:Int)=N then some (.sl 4 [] .none) else none)=_;rw[if_neg (by omega),if_pos ⟨rfl,rfl⟩]
noncomputable def zX (p:Problem):List Ex:=p.hard++ym p
theorem Yo (p:Problem)(h:VQ p)(hd:p.dists.length<=10000):Pure Tryz.prog GG 62 [.agg (qG p)] (.sl 4 ((zX p).map qq) .none):=by
 refine Pure.kO o0 true qe Tryz.func62 rfl (by kernel_rfl) ?_;have hs:=ZK p h hd;have hh:=h.hard;have hsl:(ym p).length<=10000:=by
  unfold ym;split
  . simp[vP,hd]
  . simp
 have hn:zX p=p.hard++ym p:=rfl;rw[hn];generalize ym p=S at *;simp only[qG]at hs;have hw:=wr (n:=(p.hard.length:Int)+S.length) (by omega) (by omega);by_cases h0:p.hard=[]/\S=[]
 . obtain⟨h1,h2⟩:=h0;subst h2;rw[h1]at hs hw ⊢;simp[-getElem?_pos,h1];refine qc.call hs (by simp) ?_;have h00:IntKind.i64.wrap 0=0:=(by decide);simp[-getElem?_pos,h00,h1,qy,yv,VB,zp,zU,ke,zZ];have hfc:∀ H,frz H 8 (.sl 4 [] (.chain 0 0))=.sl 4 [] .none:=fun H=>by rw[frz];simp[q9]
   rw[hfc];exact⟨by simp,Leq.refl _⟩
 . have hpos:0<p.hard.length+S.length:=by
    rcases qqE (p.hard.length+S.length) with h|h
    . exact absurd ⟨qpR (by omega),qpR (by omega)⟩ h0
    . exact h
   have hnz:¬ (p.hard.length:Int)+S.length=0:=(by omega);have hle:(p.hard.length:Int)+S.length<=549755813888:=(by omega);have hge:(0:Int)<=(p.hard.length:Int)+S.length:=(by omega);have htn:((p.hard.length:Int)+S.length).toNat=p.hard.length+S.length:=(by omega);obtain⟨Z,hZ⟩:∃ Z,Z=(List.replicate (p.hard.length+S.length) [AV.int .i64 0,.int .i64 0,.str [],.sl 0 [] .nil]).flatten:=⟨_,rfl⟩;have hZl:Z.length=(p.hard.length+S.length)*4:=(by rw[hZ];simp);have hAl:(p.hard.flatMap qq).length=p.hard.length*4:=Go.Abs.z8 (sz:=4) za p.hard;have hBl:(S.flatMap qq).length=S.length*4:=Go.Abs.z8 (sz:=4) za S;have hA:(p.hard.map qq).flatten=p.hard.flatMap qq:=(by rw[qri]);have hB:(S.map qq).flatten=S.flatMap qq:=(by rw[qri]);have htA:(p.hard.map qq).take p.hard.length=p.hard.map qq:=qpH (by simp);have htB:(S.map qq).take S.length=S.map qq:=qpH (by simp);have h2:=qai (p.hard.flatMap qq) (S.flatMap qq) Z (by rw[hZl,hAl,hBl,qqs]);rw[hAl,<- List.flatMap_append]at h2;have hZ1l:(zi Z 0 (p.hard.flatMap qq)).length=(p.hard.length+S.length)*4:=(by rw[J9,hZl]);have hc1:∀ B0:Blk,yv (Dof Tryz.prog) ⟨[B0,.cells Z],[]⟩ 23 (.ms 1 0 (p.hard.length+S.length) 4) (.sl 4 (p.hard.map qq) .none)=some (.int .i64 p.hard.length,⟨[B0,.cells (zi Z 0 (p.hard.flatMap qq))],[]⟩):=fun B0=>by
    by_cases hh0:p.hard=[]
    . simp[yv,VB,hh0,zi]
    . have hm:min p.hard.length (p.hard.length+S.length)=p.hard.length:=(by omega);have hl:p.hard.length*4<=(p.hard.length+S.length)*4:=(by omega);simp[yv,VB,qml,hm,hh0,htA,hA,hZl,hl]
   have hE:needE p.hard S=(p.hard++S).flatMap qq:=rfl;by_cases hS0:S=[]
   . subst hS0;have hhp:0<p.hard.length:=(by simpa using hpos);have hsl2:=sl_msE p.hard.length hhp;have ho:∀ B0:Blk,jp 1 4 qq [B0,.cells (p.hard.flatMap qq)] (.ms 1 0 p.hard.length 4) p.hard:=fun B0=>.inr ⟨qpO.1 hhp,rfl,rfl⟩
     have hpa:zi Z 0 (p.hard.flatMap qq)=p.hard.flatMap qq:=putAt_all _ _ (by rw[hZl,hAl];simp);rw[hpa]at hc1;simp only[qqp,qqJ,qqG,Int.add_zero]at hw hnz hle hge htn hZ hc1;simp only[qqa]at hs;have hcz:∀ U:St,yv (Dof Tryz.prog) U 23 (.sl 4 [] .none) (.sl 4 [] .none)=some (.int .i64 0,U):=fun U=>by simp[yv,VB]
     generalize p.hard.flatMap qq=FE at *;simp[-getElem?_pos];refine qc.call hs (by simp) ?_;have hhn:¬ p.hard=[]:=qpO.1 hhp;simp[-getElem?_pos,hw,hnz,hle,hge,hhn,qy,<- hZ,hc1,hsl2,hcz];exact⟨(ho (.cells (qG p))).frzNo za (fun x=>nrE x) yk 7,(ho (.cells (qG p))).frz za (fun x=>nrE x) yk 7⟩
   . have hSp:=qpO.2 hS0;have hsl2:zp (.ms 1 0 (p.hard.length+S.length) 4) (some (.int .i64 p.hard.length)) none none=some (.ms 1 (p.hard.length*4) S.length 4):=by
      have h3:p.hard.length+S.length-p.hard.length=S.length:=(by omega);rw[sl_ms _ _ (by omega),h3]
     have hc2:∀ B0:Blk,yv (Dof Tryz.prog) ⟨[B0,.cells (zi Z 0 (p.hard.flatMap qq))],[]⟩ 23 (.ms 1 (p.hard.length*4) S.length 4) (.sl 4 (S.map qq) .none)=some (.int .i64 S.length,⟨[B0,.cells ((p.hard++S).flatMap qq)],[]⟩):=fun B0=>by
      have hl:p.hard.length*4+S.length*4<=(p.hard.length+S.length)*4:=(by omega);simp[yv,VB,qml,hS0,htB,hB,hZ1l,hl,-List.flatMap_append,h2]
     have ho:∀ B0:Blk,jp 1 4 qq [B0,.cells ((p.hard++S).flatMap qq)] (.ms 1 0 (p.hard.length+S.length) 4) (p.hard++S):=fun B0=>.inr ⟨by simp[hS0],by simp,rfl⟩
     generalize (p.hard++S).flatMap qq=FE at *;generalize zi Z 0 (p.hard.flatMap qq)=Z1 at *;simp[-getElem?_pos];refine qc.call hs (by simp) ?_;simp[-getElem?_pos,hw,hnz,hle,hge,qy,htn,<- hZ,hc1,hsl2,hc2];have f1:=(ho (.cells (qG p))).frz za (fun x=>nrE x) yk 7;have f2:=(ho (.cells (qG p))).frzNo za (fun x=>nrE x) yk 7;rw[qqz]at f1;exact⟨f2,f1⟩
def JJ (e:Ex):Prop:=Wen e/\hgt e<=1000/\(pre e).length<=100000
theorem qnS:∀ (e x:Ex),x∈pre e->(pre x).length<=(pre e).length:=by
 refine Ex.ind fun e ih x hx=>?_
 rw[jo]at hx;rcases qp5.1 hx with rfl|hx
 . exact qpI _
 . obtain⟨a,ha,hxa⟩:=QJ.1 hx;exact qqr (ih a ha x hxa) (qdn ha)
theorem EOk.tame {s:Str}{e:Ex}{h m:Nat}(ho:EOk s h m e)(hs:Fits s)(hh:h<=1000)(hm:m<=100000):JJ e:=by
 refine⟨fun x hx=>?_,qqr ho.hgt hh,qqr ho.size hm⟩;have h1:=qnS e x hx;have h2:=qeh x;have h3:=ho.size;obtain⟨n1,n2,n3,n4⟩:=ho.nodes x hx;refine⟨by show x.args.length<_;omega,?_⟩;by_cases h:x.op=2
 . rw[n4 h];exact hs
 . have:=(jd n1).2.2.2.2.2.2.2 (by rintro (h' | h' | h');exact h h';exact n2 h';exact n3 h');rw[this];simp[Fits]
theorem qar (n:Int):JJ (jM n):=by
 refine⟨fun x hx=>?_,by simp[kl,jM],by rw[QE];simp⟩;rw[QE]at hx;simp only[qp5,qqU,or_false]at hx;subst hx;exact⟨by simp[jM,Fits,Ex.args],by simp[jM,Fits,Ex.name]⟩
theorem qbN {s:Str}(hs:yM s=true)(hf:Fits s){l:List Rg}(hl:l.length<=128)(hr:∀ r∈l,qjh r):JJ (vU s l):=by
 unfold vU;split
 . exact qar 0
 . rename_i h0;have hpos:=qpO.2 h0;have h1:=EOk.ins hs (l:=l.take 16) (qpO.1 (by rw[qqb];omega)) (by rw[qqb];omega) (fun r h=>hr r (qqB h));have h2:=EOk.chain hs (z7 16 l.length (l.drop 16)) (h:=0) h1 (fun c hc=>by
    obtain⟨a,b,c'⟩:=Ye (by omega) _ _ c hc;exact⟨a,b,fun r h=>hr r (qrc (c' r h))⟩)
   have h3:=Yf (n:=16) (by omega) l.length (l.drop 16) 7 (by rw[qrY];omega);exact h2.tame hf (by omega) (by omega)
theorem qgj {vs:List Var}(hv:∀ v∈vs,jt v=0)(hf:∀ v∈vs,Fits v.name)(d:Dist):JJ (Kd vs d):=by
 unfold Kd;split
 . rename_i v h;have hm:=qpz h;have h1:=zc (hv v hm);have h2:=qbP v d.weights;have h3:=WC h1.2.2;have h4:=qbY (N:=(jm v:Nat)) h2.1 (fun x hx=>by have:=h2.2 x hx;omega) (by omega);exact qbN h1.1 (hf v hm) (by omega) h4.1
 . exact qar 0
theorem QH {p:Problem}(h:VQ p)(hv:qk p=0):∀ e∈zX p++p.soft,wu p.vars e=true/\JJ e:=by
 have hx:∀ e∈p.hard++p.soft,zh p.vars e=0:=by
  have:qM (zh p.vars) (p.hard++p.soft)=0:=by
   unfold qk at hv;split at hv
   . exact absurd hv (by assumption)
   . split at hv
     . rename_i h1;exact absurd hv h1
     . rename_i h1;exact qqI.1 h1
  exact zy.1 this
 intro e he;have hs:ym p=vP p:=if_pos hv;rw[zX,hs]at he;rcases qpZ.1 he with he|he
 . rcases qpZ.1 he with he|he
   . exact⟨decide_eq_true (hx e (qqq _ he)),h.exprs e (qqq _ he)⟩
   . obtain⟨d,hd,rfl⟩:=qp1.1 he;exact⟨decide_eq_true (qeI (ju hv) d),qgj (ju hv) h.names d⟩
 . exact⟨decide_eq_true (hx e (qqZ _ he)),h.exprs e (qqZ _ he)⟩
def Need0 (H:List Blk)(T:List (Option Nat))(r:AV)(U':St):Prop:=r=.sl 4 [] (.chain T.length 0)/\U'.T=T++[some 0]/\∃ u,U'.H=H++u
theorem qe6 (p:Problem)(h:VQ p)(hd:p.dists.length<=10000)(h1:p.hard=[])(h2:ym p=[])(H:List Blk)(T:List (Option Nat)):qf Tryz.prog GG 62 [.agg (qG p)] ⟨H,T⟩ (Need0 H T):=by
 refine qf.k qe Tryz.func62 rfl (by kernel_rfl) ?_;have hs:=ZK p h hd;rw[h2]at hs;have h00:IntKind.i64.wrap 0=0:=by decide
 simp only[qG,h1]at hs;simp[-getElem?_pos,h1];refine qc.call hs (by simp) ?_;simp[-getElem?_pos,h00,h1,qy,yv,VB,zp,zU,ke,zZ];exact⟨rfl,rfl,_,rfl⟩
noncomputable def wv (p:Problem):List Int×Int :=
 if qk p=0 then (if yB p.vars (zX p)=true then ((wN p.vars (zX p) (Yk p.soft)).reverse.map (·.1),0) else ([],11)) else ([],1)
theorem qkJ (p:Problem)(h:VQ p)(hv:qk p≠0):Pure Tryz.prog GG 61 [.agg (qG p)] (.tup [.sl 1 ((wv p).1.map qr) .none,.int .i64 (wv p).2]):=by
 have hr:wv p=([],1):=if_neg hv;rw[hr];refine Pure.kO o0 true qe Tryz.func61 rfl (by kernel_rfl) ?_;have hval:=yh p h;simp only[qG]at hval;simp[-getElem?_pos];refine qc.call hval (by simp) ?_;simp[-getElem?_pos,hv];rw[qW (by simp)];exact⟨by simp,by simp[Leq,zu]⟩
theorem qfh (p:Problem)(h:VQ p)(hv:qk p=0)(hv20:p.vars.length<=20)(hb:yX p.vars (qz p)<=18)(hd:p.dists.length<=10000)(hs:yB p.vars (zX p)=false):Pure Tryz.prog GG 61 [.agg (qG p)] (.tup [.sl 1 ((wv p).1.map qr) .none,.int .i64 (wv p).2]):=by
 have hr:wv p=([],11):=by unfold wv;rw[if_pos hv,hs,if_neg (by simp)]
 rw[hr];refine Pure.kO o0 true qe Tryz.func61 rfl (by kernel_rfl) ?_;have hval:=yh p h;have hn:=Yo p h hd;have hk:=QH h hv;have hfn:Fits (zX p):=by
  have h1:=h.hard;have h2:(ym p).length<=10000:=by
   have:ym p=vP p:=if_pos hv;rw[this,vP,qqd];exact hd
  show (zX p).length<_;rw[zX,qpD];omega
 have hso:=Qa p (zX p) h hv20 hb hfn (fun e he=>(hk e (qqq _ he)).2);have hsb:Z9 p (zX p)=false:=by
  unfold Z9;rw[hs];simp
 rw[hsb]at hso;generalize zX p=N at *;simp only[qG]at hval hn hso;simp[-getElem?_pos];refine qc.call hval (by simp) ?_;simp[-getElem?_pos,hv];refine qc.call hn (by simp) ?_;simp[-getElem?_pos];refine qc.call hso (by simp) ?_;simp[-getElem?_pos];rw[qW (by simp)];exact⟨by simp,by simp[Leq,zu]⟩
theorem qht {α:Type}{en:α->List AV}{sz:Nat}{R:List α}{tok:Tok}{n:Int}(hn:n=(R.length:Int))(h:R≠[]\/tok.known=true):zp (.sl sz (R.map en) tok) none (some (.int .i64 n)) (some (.int .i64 n))=some (.sl sz (R.map en) .tight):=by
 subst hn;have h2:(R.map en).take R.length=R.map en:=qpH (by simp);have h3:0<R.length\/tok.known=true:=h.imp qpO.2 id;simp[zp,zU,ke,zZ,wI,h2,h3]
theorem WZ {R:List Ex}{X:Ex}{H:List Blk}{T:List (Option Nat)}(hR:R.length<1000000):qK (Dof Tryz.prog) ⟨H,T⟩ 23 (.sl 4 (R.map qq) .tight) (.sl 4 [qq X] .tight)=some (.sl 4 ((R++[X]).map qq) (.chain T.length 1),⟨H,T++[some 1]⟩):=by
 have h1:R.length+1<=549755813888:=by omega
 simp[qK,zK,h1]
theorem qdC (l:List Ex):(Yk l).length=l.length:=by simp[Yk]
theorem qg3 {l:List Ex}{k:Nat}{q:Int×Ex}(h:(Yk l)[k]?=some q):k<l.length/\q.1=((l.length-1-k:Nat):Int)/\l[l.length-1-k]?=some q.2:=by
 unfold Yk at h;have hk:=(qpy.1 h).1;simp at hk;rw[List.getElem?_reverse (by simpa using hk)]at h;simp only[qqd,List.length_zipIdx,qpX,qrG,qq4]at h
 cases hx:l[l.length-1-k]? with
 | none=>rw[hx]at h;simp at h
 | some x=>rw[hx]at h;simp at h;subst h;exact⟨hk,rfl,rfl⟩
theorem revset {d:List Int}{m:Nat}{v:Int}(h:d.length<m):(List.replicate (m-d.length) (0:Int)++d.reverse).set (m-1-d.length) v=List.replicate (m-(d.length+1)) 0++(d++[v]).reverse:=by
 have h1:List.replicate (m-d.length) (0:Int)=List.replicate (m-(d.length+1)) 0++[0]:=by
  rw[show m-d.length=(m-(d.length+1))+1 by omega,qr0]
 rw[h1,qp6,qqC _ _ (by simp;omega)];have h2:m-1-d.length-(List.replicate (m-(d.length+1)) (0:Int)).length=0:=by simp;omega
 rw[h2];simp
theorem QP {H:List Blk}{n:Nat}{a r:AV}{k:IntKind}{z:Int}(h1:q9 (frz H n a)=true)(h2:Leq (frz H n a) r)(h3:q9 a=true->Leq a r) :
 q9 (frz H (n+1) (.tup [a,.int k z]))=true/\Leq (frz H (n+1) (.tup [a,.int k z])) (.tup [r,.int k z]):=by
 by_cases hn:q9 a=true
 . rw[qW (by simp[hn])];exact⟨by simp[hn],by simp[Leq,zu,h3 hn]⟩
 . have:frz H (n+1) (.tup [a,.int k z])=.tup [frz H n a,.int k z]:=by
    have h0:frz H n (.int k z)=.int k z:=qW rfl;rw[frz,if_neg (by simp[hn])];simp[h0]
   rw[this];exact⟨by simp[h1],by simp[Leq,zu,h2]⟩
def NeedU (p:Problem)(H:List Blk)(r:AV)(U':St):Prop:=∃ tok u T',r=.sl 4 ((zX p).map qq) tok/\(zX p≠[]\/tok.known=true)/\U'=⟨H++u,T'⟩
theorem qe5 (p:Problem)(h:VQ p)(hd:p.dists.length<=10000)(H:List Blk)(T:List (Option Nat)):qf Tryz.prog GG 62 [.agg (qG p)] ⟨H,T⟩ (NeedU p H):=by
 by_cases hN:zX p=[]
 . have h0:p.hard=[]/\ym p=[]:=(by rw[zX]at hN;simpa using hN);refine (qe6 p h hd h0.1 h0.2 H T).imp ?_;rintro v ⟨H1,T1⟩ ⟨rfl,hT,u,hH⟩;simp only at hT hH;subst hH;exact⟨_,u,T1,by rw[hN];rfl,.inr rfl,rfl⟩
 . refine qf.call (Yo p h hd) (by simp) ?_;exact⟨.none,[],T,rfl,.inl hN,by simp⟩
theorem qi9 (p:Problem)(h:VQ p)(hv20:p.vars.length<=20)(hb:yX p.vars (qz p)<=18)(hd:p.dists.length<=10000)(hs5:p.soft.length<=10000) :
 Pure Tryz.prog GG 61 [.agg (qG p)] (.tup [.sl 1 ((wv p).1.map qr) .none,.int .i64 (wv p).2]):=by
 by_cases hv:qk p=0
 case neg=>exact qkJ p h hv
 by_cases hs:yB p.vars (zX p)=true
 case neg=>exact qfh p h hv hv20 hb hd (by simpa using hs)
 have hr:wv p=((wN p.vars (zX p) (Yk p.soft)).reverse.map (·.1),0):=by unfold wv;rw[if_pos hv,if_pos hs]
 rw[hr];dsimp only;obtain⟨RES,hRES⟩:∃ RES,RES=(wN p.vars (zX p) (Yk p.soft)).reverse.map (·.1):=⟨_,rfl⟩;rw[<- hRES];refine Pure.kO o0 true qe Tryz.func61 rfl (by kernel_rfl) ?_;have hval:=yh p h;have hn:=Yo p h hd;have hk:=QH h hv;have h1:=h.hard;have h2:(ym p).length<=10000:=by
  have:ym p=vP p:=if_pos hv;rw[this,vP,qqd];exact hd
 have hNl:(zX p).length<=20000:=by rw[zX,qpD];omega
 have hso:=fun l (hl:l.length<40000) (hx:∀ e∈l,wu p.vars e=true/\JJ e)=>Qa p l h hv20 hb (by show l.length<_;omega) (fun e he=>(hx e he).2)
 have hsb:∀ l,(∀ e∈l,wu p.vars e=true/\JJ e)->Z9 p l=yB p.vars l:=fun l hl=>by
  have:l.all (wu p.vars)=true:=qpJ.2 fun e he=>(hl e he).1
  unfold Z9;rw[this];simp[hv]
 have hne:=qe5 p h hd [.cells (qG p)] [];unfold NeedU at hne;have hso0:=hso (zX p) (by omega) (fun e he=>hk e (qqq _ he));rw[hsb _ (fun e he=>hk e (qqq _ he)),hs]at hso0;generalize zX p=N at *;generalize hL:Yk p.soft=L at *;have hLl:L.length=p.soft.length:=by rw[<- hL,qdC]
 simp only[qG]at hval hn hso0 hne hso;simp[-getElem?_pos];refine qc.call hval (by simp) ?_;simp[-getElem?_pos,hv];refine qc.acall hne ?_;rintro v U ⟨tok,u,T,rfl,htok,rfl⟩;simp[-getElem?_pos];refine qc.pure hso0 (by cases tok<;>simp) (by cases tok<;>simp[zu,Leq,jW.refl]) ?_;have hsoft:(p.soft.length:Int)-1=(p.soft.length:Int)-1-(([]:List (Int×Ex)).length:Int):=by simp
 have hw1:=wr (n:=(p.soft.length:Int)-1) (by omega) (by omega);simp[-getElem?_pos,hw1];refine qY.listR L (fun d ev U=>ev 1=.ptr 0 0/\ev 6=.int .i64 ((p.soft.length:Int)-1-d.length)/\∃ R K tok u T,(∀ r,L=d++r->wN p.vars N L=K++wN p.vars R r)/\(∀ e∈R,wu p.vars e=true/\JJ e)/\R.length<=20000+d.length/\K.length<=d.length/\ev 4=.sl 4 (R.map qq) tok/\(R≠[]\/tok.known=true)/\Km 0 1 qr T (ev 5) (K.map (·.1))/\U=⟨.cells (qG p)::u,T⟩) ?_ ?_ ?_
 . refine⟨by simp,by simp,N,[],tok,u,T,fun r hr=>by rw[hr];rfl,fun e he=>hk e (qqq _ he),by simpa using hNl,by simp,by simp,htok,by simpa using Km.nil,by simp⟩
 . rintro d x rest ev U R0 hR hdl hx hlt ⟨e1,e6,R,K,tok2,u2,T2,hkeep,hRk,hRl,hKl,e4,htok2,e5,rfl⟩;have hna:=qg3 (l:=p.soft) (k:=d.length) (q:=x) (by rw[hL];exact hx);obtain⟨n1,n2,n3⟩:=hna;have e6':ev 6=.int .i64 ((p.soft.length-1-d.length:Nat):Int):=(by rw[e6];congr 1;omega);have hge:(0:Int)<=((p.soft.length-1-d.length:Nat):Int):=(by omega);have hsl:=qht (en:=qq) (sz:=4) (R:=R) (tok:=tok2) rfl htok2;have hxk:=hk x.2 (qqZ _ (qpz n3));have hRk2:∀ e∈R++[x.2],wu p.vars e=true/\JJ e:=fun e he=>by
    rcases qpZ.1 he with he|he
    . exact hRk e he
    . rw[qp8]at he;rw[he];exact hxk
   have hso2:=hso (R++[x.2]) (by rw[qpD,qp2];omega) hRk2;rw[hsb _ hRk2]at hso2;have hlt2:p.soft.length-1-d.length<p.soft.length:=(by omega);have hap:=fun H T=>WZ (R:=R) (X:=x.2) (H:=H) (T:=T) (by omega)
   have ha:=yl x.2;have hl4:=za x.2;have hnr:=nrEs (R++[x.2]);simp only[qqz,qpK,qqa]at hnr;have htk:(qq x.2).take 4=qq x.2:=qpH (by rw[hl4];exact qpI _);have hw2:=wr (n:=((p.soft.length-1-d.length:Nat):Int)-1) (by omega) (by omega);have hEx:x.1=((p.soft.length-1-d.length:Nat):Int):=n2;generalize hI:p.soft.length-1-d.length=I at *;obtain⟨v5,T5,hap5,h5,hT5⟩:=(e5.ext (T':=T2++[some 1]) (qsz _ _)).append (m:=[x.1]) (D:=Dof Tryz.prog) (ty:=28) (tok:=.tight) (T0:=[]) (T:=T2++[some 1]) (List.nil_prefix) (D28) rfl (D3) rfl (by decide) (by rfl) (by decide) (by simp;omega) 1 (.inl rfl);simp only[qpK,qqa,qr]at hap5;simp[-getElem?_pos,-qN,e1,e4,e6',hge,hsl,n3,htk,ha,hl4,qj,qs,hap];refine qc.pure hso2 (by simp[hnr]) (by simp) ?_;have hIm:((I:Int)-1)=((p.soft.length:Int)-1-((d++[x]).length:Nat)):=(by rw[qpD,qp2];omega);have hwx:IntKind.i64.wrap (x.1-1)=(p.soft.length:Int)-1-((d.length:Int)+1):=(by rw[hEx,hw2,hIm,qpD,qp2];omega)
   cases hso3:yB p.vars (R++[x.2]) with
   | true=>
    simp[-getElem?_pos,-qN,e6',qj,qs,hwx,<- hEx,hap5];refine hR _ _ ⟨by simp[e1],by simp,R++[x.2],K++[x],.chain T2.length 1,u2,T5,fun r hr=>?_,hRk2,by simp;omega,by simp;omega,by simp,.inl (by simp),by simpa using h5,rfl⟩;rw[hkeep (x::r) (by rw[hr];simp),wN,if_pos hso3];simp
   | false=>
    simp[-getElem?_pos,-qN,e6',hw2];refine hR _ _ ⟨by simp[e1],by simp[hIm],R,K,tok2,u2,T2++[some 1],fun r hr=>?_,hRk,by simp;omega,by simp;omega,by simp[e4],htok2,by simpa using e5.ext (qsz _ _),rfl⟩;rw[hkeep (x::r) (by rw[hr];simp),wN,if_neg (by rw[hso3];simp)]
 . rintro ev U ⟨e1,e6,R,K,tok2,u2,T2,hkeep,hRk,hRl,hKl,e4,htok2,e5,rfl⟩;rw[hLl]at e6;have e6':ev 6=.int .i64 (-1):=(by rw[e6];congr 1;omega);have hK:=hkeep [] (by simp);rw[show wN p.vars R []=[] from rfl,qqc]at hK;rw[hK,List.map_reverse]at hRES;generalize hKI:K.map (·.1)=KI at *;have hKIl:KI.length<=10000:=(by rw[<- hKI,qqd];omega);subst hRES;rcases e5 with ⟨rfl,e5⟩|⟨hne,t,_,e5,_⟩
   . simp[-getElem?_pos,e6',e5,qy];refine qY.gen (fun m ev U=>ev 8=.sl 1 [] (.chain T2.length 0)/\ev 53=.int .i64 0/\ev 54=.int .i64 0) 0 ⟨by simp,by simp,by simp⟩ ?_;rintro m ev U R hR ⟨e8,e53,e54⟩;simp[-getElem?_pos,e8,e53,e54];have hf:∀ H,frz H 7 (.sl 1 [] (.chain T2.length 0))=.sl 1 [] .none:=fun H=>by rw[frz];simp[q9]
     exact QP (by rw[hf];rfl) (by rw[hf];exact Leq.refl _) (by simp)
   . have hKn:¬ (KI.length:Int)=0:=(by have:=qpO.2 hne;omega);have hKle:(KI.length:Int)<=549755813888:=(by omega);have hKp:=qpO.2 hne;simp[-getElem?_pos,e6',e5,qy,hKle,hne];refine qY.listR KI (fun d ev U=>ev 8=.ms (u2.length+1) 0 KI.length 1/\ev 52=.sl 1 (KI.map qr) (.chain t KI.length)/\ev 53=.int .i64 KI.length/\ev 54=.int .i64 d.length/\∃ H T,U=⟨H,T⟩/\H[u2.length+1]?=some (.cells (zL (List.replicate (KI.length-d.length) 0++d.reverse)))) ?_ ?_ ?_
     . refine⟨by simp,by simp,by simp,by simp,_,_,rfl,?_⟩;simp[zL]
     . rintro d x rest ev U R hR hdl hx hlt ⟨e8,e52,e53,e54,H,T,rfl,hH⟩;have hdw:=wr (n:=(d.length:Int)+1) (by omega) (by omega);have hkw:=wr (n:=(KI.length:Int)-1) (by omega) (by omega);have hkw2:=wr (n:=(KI.length:Int)-1-d.length) (by omega) (by omega);have hI:((KI.length:Int)-1-d.length)=((KI.length-1-d.length:Nat):Int):=(by omega);have hlen:(zL (List.replicate (KI.length-d.length) 0++d.reverse)).length=KI.length:=(by rw[zb];simp;omega);have hlt3:KI.length-1-d.length<KI.length:=(by omega);have hlt4:KI.length-1-d.length+1<=KI.length:=(by omega);have hset:=kv (a:=List.replicate (KI.length-d.length) 0++d.reverse) (i:=KI.length-1-d.length) (x:=x);have hHl:=(qpy.1 hH).1;rw[revset hlt]at hset;rw[hI]at hkw2;generalize hJ:KI.length-1-d.length=J at *;simp[-getElem?_pos,e8,e52,e53,e54,hlt,hx,hkw,hI,hkw2,hH,hlen,hlt3,hlt4,hset,hdw];exact hR _ _ ⟨by simp[e8],by simp[e52],by simp[e53],by simp,_,_,rfl,by rw[qpD,qp2,qr5];exact qpF hHl⟩
     . rintro ev U ⟨e8,e52,e53,e54,H,T,rfl,hH⟩;rw[qqL,qsv,qpS]at hH;simp[-getElem?_pos,e8,e53,e54];have hne2:KI.reverse≠[]:=(by simpa using hne);have ho:jp (u2.length+1) 1 qr H (.ms (u2.length+1) 0 KI.length 1) KI.reverse:=.inr ⟨hne2,by simp,by rw[hH,kU]⟩;have f1:=ho.frz (fun x=>by simp) (fun x=>by simp) (fun x=>by simp) 6;have f2:=ho.frzNo (fun x=>by simp) (fun x=>by simp) (fun x=>by simp) 6;rw[List.map_reverse]at f1;exact QP f2 f1 (by simp)
def wG (vs:List Var)(q:List Int×Int)(i:Int):List Int×Int:=(q.1.set i.toNat q.2,q.2+zF vs i.toNat)
def kx (vs:List Var)(l:List Int):List Int×Int:=l.foldl (wG vs) (List.replicate vs.length (-1),0)
def qA (p:Problem):List Int:=(kx p.vars p.groups.flatten).1
theorem KZ (vs:List Var)(l:List Int)(i:Int):kx vs (l++[i])=wG vs (kx vs l) i:=by simp[kx,qqO]
theorem QL (vs:List Var):∀ l:List Int,(kx vs l).1.length=vs.length:=by
 intro l;have:∀ (l:List Int) (q:List Int×Int),(l.foldl (wG vs) q).1.length=q.1.length:=by
  intro l
  induction l with
  | nil=>intro q;rfl
  | cons a r ih=>intro q;rw[qqe,ih];simp[wG]
 unfold kx;rw[this];simp
theorem jQ {p:Problem}(h:qk p=0):jL p.vars p.groups:=by
 have hd:zx p.vars p.groups=0:=by
  unfold qk at h;split at h
  . exact absurd h (by assumption)
  . split at h
    . rename_i h1;exact absurd h h1
    . split at h
      . rename_i h1;exact absurd h h1
      . exact h
 unfold zx at hd;split at hd
 . assumption
 . cases hd
theorem J5 {vs:List Var}{i:Int}(h:yc vs i=true):∃ (n:Nat) (v:Var),i=n/\vs[n]?=some v/\v.mode≠0:=by
 simp only[yc,qpC,decide_eq_true_eq]at h;obtain⟨j,hj⟩:=qp7 h.1;have h2:=h.2;rw[hj]at h2;simp only[qqi]at h2
 cases hv:vs[j]? with
 | none=>rw[hv]at h2;simp at h2
 | some v=>rw[hv]at h2;exact⟨j,v,hj,hv,by simpa using h2⟩
theorem qfc {vs:List Var}(hw:∀ v∈vs,0<=v.width/\v.width<=8):∀ l:List Int,0<=(kx vs l).2/\(kx vs l).2<=8*l.length:=by
 intro l;have:∀ (l:List Int) (q:List Int×Int),0<=q.2->0<=(l.foldl (wG vs) q).2/\(l.foldl (wG vs) q).2<=q.2+8*l.length:=by
  intro l
  induction l with
  | nil=>intro q h;simp[h]
  | cons a r ih=>
   intro q h;have hwa:0<=zF vs a.toNat/\zF vs a.toNat<=8:=by
    unfold zF;split
    . rename_i v hv;exact hw v (qpz hv)
    . omega
   have:=ih (wG vs q a) (by simp only[wG];omega);rw[qqe];simp only[wG,qpQ]at this ⊢;omega
 have:=this l (List.replicate vs.length (-1),0) (Int.le_refl _);simpa[kx] using this
theorem Yl:∀ (n:Nat) (l:List Int),l.Nodup->(∀ x∈l,0<=x/\x<n)->l.length<=n
 | 0,l,_,h=>by
  cases l with
  | nil=>simp
  | cons a r=>have:=h a (by simp);omega
 | n+1,l,hn,h=>by
  by_cases hm:(n:Int)∈l
  . have h1:=Yl n (l.erase (n:Int)) (hn.erase _) fun x hx=>by
     have h2:=(hn.mem_erase_iff).1 hx;have:=h x h2.2;omega
    rw[List.length_erase_of_mem hm]at h1;omega
  . have h1:=Yl n l hn fun x hx=>by
     have:=h x hx;have h2:x≠(n:Int):=fun e=>hm (e▸hx)
     omega
    omega
theorem K8 {p:Problem}(h:qk p=0):p.groups.flatten.length<=p.vars.length:=Yl _ _ (jQ h).2.2.1 fun i hi=>by
 obtain⟨n,v,rfl,hn,_⟩:=J5 ((jQ h).2.1 i hi);have:=(qpy.1 hn).1;omega
theorem qbw (p:Problem)(h:VQ p)(hv:qk p=0):Pure Tryz.prog GG 50 [.agg (qG p)] (.sl 1 ((qA p).map qr) .none):=by
 refine Pure.kO o0 true qe Tryz.func50 rfl (by kernel_rfl) ?_;have hval:=yh p h;have hg:=jQ hv;have hvars:=h.vars;have hw:∀ v∈p.vars,0<=v.width/\v.width<=8:=fun v hm=>by have:=zc (ju hv v hm);omega
 obtain⟨LV,hLV⟩:∃ LV,LV=qA p:=⟨_,rfl⟩;rw[<- hLV];simp only[qG]at hval;simp[-getElem?_pos];refine qc.call hval (by simp) ?_;by_cases hv0:p.vars=[]
 . have hg0:p.groups=[]:=by
    apply qsp.2;intro g hgm;have h1:=hg.1 g hgm;obtain⟨i,hi⟩:=List.exists_mem_of_ne_nil g h1;have:=hg.2.1 i (qqy.2 ⟨g,hgm,hi⟩);obtain⟨n,v,_,hn,_⟩:=J5 this;rw[hv0]at hn;simp at hn
   have hL0:LV=[]:=(by rw[hLV,qA,hg0,hv0];rfl);subst hL0;simp[-getElem?_pos,hv,hv0,hg0,qy];refine qY.gen (fun m ev U=>ev 1=.ptr 0 0/\ev 3=.sl 1 [] (.chain 0 0)/\ev 18=.int .i64 0/\ev 19=.int .i64 0/\∃ u T,U=⟨.cells (qG p)::u,T⟩) 0 ⟨by simp,by simp,by simp,by simp,_,_,by simp[hv0,hg0];exact⟨rfl,rfl⟩⟩ ?_;rintro m ev U R hR ⟨e1,e3,e18,e19,u,T,rfl⟩;simp[-getElem?_pos,e1,e18,e19,hg0];refine qY.gen (fun m ev U=>ev 3=.sl 1 [] (.chain 0 0)/\ev 28=.int .i64 0/\ev 29=.int .i64 0) 0 ⟨by simp[e3],by simp,by simp⟩ ?_;rintro m ev U R hR ⟨e3,e28,e29⟩;simp[-getElem?_pos,e3,e28,e29];have hf:∀ H,frz H 8 (.sl 1 [] (.chain 0 0))=.sl 1 [] .none:=fun H=>by rw[frz];simp[q9]
   rw[hf];exact⟨rfl,Leq.refl _⟩
 . have hpos:=qpO.2 hv0;have hne:¬ (p.vars.length:Int)=0:=(by omega);have hle:(p.vars.length:Int)<=549755813888:=(by omega);simp[-getElem?_pos,hv,hv0,hle,qy];have hnd:=hg.2.2.1;have hfl:p.groups.flatten.length<=1000:=qqr (K8 hv) hvars;have hgl:=h.groups;have hgf:=h.group;refine yq p.vars.length (fun i ev U=>ev 1=.ptr 0 0/\ev 3=.ms 1 0 p.vars.length 1/\ev 18=.int .i64 p.vars.length/\ev 19=.int .i64 (i:Int)/\U=⟨[.cells (qG p),.cells (zL (List.replicate i (-1)++List.replicate (p.vars.length-i) 0))],[]⟩) ?_ ?_ ?_
   . refine⟨by simp,by simp,by simp,by simp,?_⟩;simp[zL]
   . rintro i ev U R hR hi ⟨e1,e3,e18,e19,rfl⟩;have hw1:=wr (n:=(i:Int)+1) (by omega) (by omega);have hi':(i:Int)<p.vars.length:=(by omega);have hi1:i+1<=p.vars.length:=hi;have hll:(zL (List.replicate i (-1)++List.replicate (p.vars.length-i) 0)).length=p.vars.length:=(by rw[zb];simp;omega);have hset:(zL (List.replicate i (-1)++List.replicate (p.vars.length-i) 0)).set i (.int .i64 (-1))=zL (List.replicate (i+1) (-1)++List.replicate (p.vars.length-(i+1)) 0):=by
      rw[kv,qqC _ _ (by simp)];have:p.vars.length-i=(p.vars.length-(i+1))+1:=by omega
      rw[this,qrJ];simp[qr0]
     simp[-getElem?_pos,e3,e18,e19,hi',hi1,hll,hset,hw1];exact hR _ _ ⟨by simp[e1],by simp[e3],by simp[e18],by simp,rfl⟩
   . rintro ev U ⟨e1,e3,e18,e19,rfl⟩;rw[qqL,qsv,qqc];have hL0:(kx p.vars []).1=List.replicate p.vars.length (-1):=rfl;rw[<- hL0];simp[-getElem?_pos,e1,e18,e19];refine qY.listR p.groups (fun dn ev U=>ev 1=.ptr 0 0/\ev 3=.ms 1 0 p.vars.length 1/\ev 5=.int .i64 (kx p.vars dn.flatten).2/\ev 27=.sl 1 (p.groups.map zz) .none/\ev 28=.int .i64 p.groups.length/\ev 29=.int .i64 dn.length/\U=⟨[.cells (qG p),.cells (zL (kx p.vars dn.flatten).1)],[]⟩) ?_ ?_ ?_
     . exact⟨by simp[e1],by simp[e3],by simp[kx],by simp,by simp,by simp,rfl⟩
     . rintro dn g rest ev U R hR hd hx hlt ⟨e1,e3,e5,e27,e28,e29,rfl⟩;have hdw:=wr (n:=(dn.length:Int)+1) (by omega) (by omega);have hlt':(dn.length:Int)<p.groups.length:=(by omega);have hgm:=qpz hx;have hgfit:=hgf g hgm;simp[-getElem?_pos,e27,e28,e29,hlt',hx];refine qY.listR g (fun dg ev U=>ev 1=.ptr 0 0/\ev 3=.ms 1 0 p.vars.length 1/\ev 5=.int .i64 (kx p.vars (dn.flatten++dg)).2/\ev 27=.sl 1 (p.groups.map zz) .none/\ev 28=.int .i64 p.groups.length/\ev 29=.int .i64 dn.length/\ev 33=.sl 1 (g.map qr) .none/\ev 34=.int .i64 g.length/\ev 35=.int .i64 dg.length/\U=⟨[.cells (qG p),.cells (zL (kx p.vars (dn.flatten++dg)).1)],[]⟩) ?_ ?_ ?_
       . exact⟨by simp[e1],by simp[e3],by simp[e5],by simp[e27],by simp[e28],by simp[e29],by simp,by simp,by simp,by simp⟩
       . rintro dg v rest2 ev U R2 hR2 hd2 hx2 hlt2 ⟨e1,e3,e5,e27,e28,e29,e33,e34,e35,rfl⟩;have hm:v∈p.groups.flatten:=qqy.2 ⟨g,hgm,qpz hx2⟩;obtain⟨n,vr,rfl,hn,_⟩:=J5 (hg.2.1 v hm);have hnl:=(qpy.1 hn).1;have hdw2:=wr (n:=(dg.length:Int)+1) (by unfold Fits at hgfit;omega) (by unfold Fits at hgfit;omega);have hlt2':(dg.length:Int)<g.length:=(by omega);have hwv:=hw vr (qpz hn);have hpre:(dn.flatten++dg).length<=1000:=by
          have:(dn.flatten++dg).length<=p.groups.flatten.length:=by
           rw[hd,hd2];simp
          omega
         have hnx:=qfc hw (dn.flatten++dg);have hww:=wr (n:=(kx p.vars (dn.flatten++dg)).2+vr.width) (by omega) (by omega);have hs:=KZ p.vars (dn.flatten++dg) (n:Int);have hln:=QL p.vars (dn.flatten++dg);have hwa:zF p.vars n=vr.width:=(by simp[zF,hn]);simp only[wG,qqi,hwa]at hs;rw[qp6]at hs;generalize hQ:kx p.vars (dn.flatten++dg)=q at *;obtain⟨L,nx⟩:=q;simp only at *;have hll:(zL L).length=p.vars.length:=(by rw[zb,hln]);have hn1:n+1<=p.vars.length:=hnl;have hn0:(n:Int)<p.vars.length:=(by omega);simp[-getElem?_pos,e1,e3,e5,e33,e34,e35,hlt2',hx2,hll,hn1,hn0,hn,kv,hww,hdw2];exact hR2 _ _ ⟨by simp[e1],by simp[e3],by simp[hs],by simp[e27],by simp[e28],by simp[e29],by simp[e33],by simp[e34],by simp,by simp[hs]⟩
       . rintro ev U ⟨e1,e3,e5,e27,e28,e29,e33,e34,e35,rfl⟩;simp[-getElem?_pos,e29,e34,e35,hdw];exact hR _ _ ⟨by simp[e1],by simp[e3],by simp[e5],by simp[e27],by simp[e28],by simp,by simp⟩
     . rintro ev U ⟨e1,e3,e5,e27,e28,e29,rfl⟩;have hLL:(kx p.vars p.groups.flatten).1=LV:=hLV.symm;have hln:=QL p.vars p.groups.flatten;rw[hLL]at hln ⊢;simp[-getElem?_pos,e3,e28,e29];have hne2:LV≠[]:=fun e=>by rw[e]at hln;simp at hln;omega
       have ho:jp 1 1 qr [.cells (qG p),.cells (zL LV)] (.ms 1 0 p.vars.length 1) LV:=.inr ⟨hne2,by rw[hln],by rw[kU];rfl⟩;exact⟨ho.frzNo (fun x=>by simp) (fun x=>by simp) (fun x=>by simp) 7,ho.frz (fun x=>by simp) (fun x=>by simp) (fun x=>by simp) 7⟩
theorem yN {p:Problem}(h:qk p=0):(p.vars.map (·.name)).Nodup:=by
 have hv:zV p.vars=0:=by
  unfold qk at h;split at h
  . exact absurd h (by assumption)
  . rename_i h1;exact qqI.1 h1
 have hd:qmU p.vars=false:=by
  unfold zV at hv;split at hv
  . cases hv
  . split at hv
    . rename_i h1;exact absurd hv h1
    . split at hv
      . cases hv
      . rename_i h1;simpa using h1
 unfold qmU at hd;rw[qqX]at hd;refine qro.2 fun i j hi hj hij e=>?_
 simp only[qqd]at hi hj;rw[qqV,qqV]at e;have:=hd j (qqF.2 hj);unfold vt at this;rw[qpA hj]at this;simp only[vm,qp0]at this;exact this ⟨p.vars[i],by rw[qsH];exact⟨i,by omega,rfl⟩,by simpa using e⟩
theorem VO {vs:List Var}{m:Nat}{U:St}(hm:U.H[m]?=some (wE vs))(hn:(vs.map (·.name)).Nodup){i:Nat}{v:Var}(hv:vs[i]?=some v):zm (Dof Tryz.prog) U 210 (.map m) (.str v.name) true=some (.tup [.int .i64 (i:Int),.bool true]):=by
 have:=qcV hn hv 0;unfold wE at hm;generalize (wT vs).map ZQ=E at *;simp[zm,hm,zs,this]
theorem qnv (p:Problem)(e:Ex)(hn:(p.vars.map (·.name)).Nodup)(hk:zh p.vars e=0)(ht:JJ e){H:List Blk}{M:Nat}(hM:H[M]?=some (wE p.vars))(T:List (Option Nat)) :
 qf Tryz.prog GG 202 [.map M,.agg (qq e)] ⟨H,T⟩ (fun r U'=>r=.int .i64 0/\KpL [] H U'.H):=by
 refine qf.k qe Tryz.func202 rfl (by kernel_rfl) ?_;have ha:=vy e ht.1 ht.2.2;have hna:=QI e ht.1 ht.2.2;have he:ze e=0/\Z4 e=false/\Qh p.vars e=false:=by
  unfold zh at hk;split at hk
  . rename_i h;exact absurd hk h
  . rename_i h;split at hk
    . cases hk
    . split at hk
      . cases hk
      . rename_i h2 h3;exact⟨qqI.1 h,by simpa using h2,by simpa using h3⟩
 have h0:zD [3,24] e=[]:=by
  have:=vM (e:=e);rw[he.2.1]at this
  cases hl:zD [3,24] e with
  | nil=>rfl
  | cons a r=>rw[hl]at this;simp at this
 have hall:∀ s∈zD [2] e,∃ (i:Nat) (v:Var),p.vars[i]?=some v/\v.name=s:=fun s hs=>by
  have:=vF (l:=p.vars) (e:=e);rw[he.2.2,qqX]at this;have h1:=this s hs;simp only[qqH,Bool.not_eq_false,vm,qp0]at h1;obtain⟨v,hv,hvn⟩:=h1;obtain⟨i,hi⟩:=qqg hv;exact⟨i,v,hi,by simpa using hvn⟩
 have hfit:(zD [2] e).length<=100000:=Yp ht.2.2;rw[h0]at ha;have henc:=qd e;rw[henc]at ha hna ⊢;generalize zD [2] e=N at *;simp[-getElem?_pos];refine qc.call ha (by simp) ?_;simp[-getElem?_pos];refine qc.call hna (by simp) ?_;simp[-getElem?_pos];refine qY.listR N (fun d ev U=>ev 0=.map M/\ev 14=.sl 1 (N.map z0) .none/\ev 15=.int .i64 N.length/\ev 16=.int .i64 d.length/\KpL [] H U.H) ?_ ?_ ?_
 . exact⟨by simp,by simp,by simp,by simp,KpL.app⟩
 . rintro d s rest ev ⟨H1,T1⟩ R hR hd hx hlt ⟨e0,e14,e15,e16,hkp⟩;dsimp only at hkp;obtain⟨i,v,hi,hvn⟩:=hall s (qpz hx);have hl:=VO (U:=⟨H1,T1⟩) (hkp.2 _ _ hM (by simp)) hn hi;rw[hvn]at hl;have hdw:=wr (n:=(d.length:Int)+1) (by omega) (by omega);have hlt':(d.length:Int)<N.length:=(by omega);simp[-getElem?_pos,e0,e14,e15,e16,hlt,hlt',hx,hl,hdw];exact hR _ _ ⟨by simp[e0],by simp[e14],by simp[e15],by simp,hkp⟩
 . rintro ev ⟨H1,T1⟩ ⟨e0,e14,e15,e16,hkp⟩;simp[-getElem?_pos,e15,e16];exact hkp
def qkf:List (Nat×Sch×List Nat):=[(7,.step 0 [7,3,2,1] (.step 1 [7,3,2] (.step 2 [7,3] (.step 3 [7] (.step 4 [7,5] (.step 5 [7] (.step 6 [7] (.step 7 [] (.done)))))))),[]),(9,.step 0 [8,7] (.step 1 [8,7,6,4,3,2] (.step 2 [8,7,6,4,3] (.step 3 [8,7,6,4] (.step 4 [8,7,6] (.step 5 [8,7,6] (.step 6 [8,7] (.step 7 [8] (.step 8 [] (.done))))))))),[6])]
def BldQ (d:List Nd)(p:Problem)(H:List Blk)(r:AV)(U':St):Prop :=
 ∃ B M,r=.tup [.ptr B 0,.int .i64 0]/\H.length<=B/\H.length<=M/\M≠B/\KpL [] H U'.H/\U'.H[B]?=some (.cells (.sl 3 (d.map qu) .none::(qG p++[.sl 1 ((qA p).map qr) .none,.map M])))/\U'.H[M]?=some (wE p.vars)
theorem qez {vs:List Var}{i:Nat}{v:Var}(hv:vs[i]?=some v):wT (vs.take (i+1))=wT (vs.take i)++[(v.name,.int .i64 (i:Int),i)]:=by
 have hl:=(qpy.1 hv).1;unfold wT;rw[qp4,hv];simp[qse,qq8 (qta hl)]
theorem qju {vs:List Var}(hn:(vs.map (·.name)).Nodup){i:Nat}{v:Var}(hv:vs[i]?=some v)(k:Nat):jw (.str v.name) ((wT (vs.take i)).map ZQ) k=some none:=by
 have hl:=(qpy.1 hv).1;rcases Qu (s:=v.name) (wT (vs.take i)) k with ⟨h1,_⟩|⟨j,q,h1,h2,_⟩
 . exact h1
 . exfalso;obtain⟨w,hw,rfl⟩:=qcW h1;rw[qqk]at hw;split at hw
   . rename_i hj;obtain⟨hj1,hj2⟩:=qpy.1 hw;obtain⟨_,hi2⟩:=qpy.1 hv;have hp:=qro.1 hn;have h2:w.name=v.name:=h2;exact hp j i (by simpa using hj1) (by simpa using hl) hj (by rw[qqV,qqV,hj2,hi2,h2])
   . cases hw
theorem qjJ (d:List Nd)(hd:DagOk d)(p:Problem)(h:VQ p)(hv:qk p=0)(e:Ex)(hk:zh p.vars e=0)(ht:JJ e)(H:List Blk)(T:List (Option Nat)) :
 qf Tryz.prog GG 157 [.agg (zr d),.agg (qG p),.agg (qq e)] ⟨H,T⟩ (BldQ d p H):=by
 refine qf.kO ⟨false,qkf,[],[]⟩ qe Tryz.func157 rfl (by kernel_rfl) ?_;have hdv:=YR d hd;have hpv:=yh p h;have hev:=JR e ht.1 (by have:=ht.2.1;omega);have hlv:=qbw p h hv;have hn:=yN hv;have he:ze e=0:=by
  unfold zh at hk;split at hk
  . rename_i h;exact absurd hk h
  . rename_i h;exact qqI.1 h
 have hvl:=h.vars;have huse:=fun H M (hM:H[M]?=some (wE p.vars)) T=>qnv p e hn hk ht hM T
 rw[hv]at hpv;rw[he]at hev;generalize hLV:qA p=LV at *;rw[qd e]at hev huse ⊢;simp only[zr]at hdv;simp only[qG]at hpv hlv;simp[-getElem?_pos];refine qc.call hdv (by simp) ?_;simp[-getElem?_pos,unA];refine qc.call hpv (by simp) ?_;simp[-getElem?_pos];refine qc.call hev (by simp) ?_;simp[-getElem?_pos];rw[Zl (by rfl)];simp[-getElem?_pos];refine qc.call hlv (by simp) ?_;simp[-getElem?_pos,zn,zS,qF];refine qY.listR p.vars (fun dn ev U=>ev 4=.ptr (H.length+1) 0/\ev 5=.ptr (H.length+2) 0/\ev 8=.ptr (H.length+4) 0/\ev 32=.sl 4 (p.vars.map qE) .none/\ev 33=.int .i64 p.vars.length/\ev 34=.int .i64 dn.length /\
  KpL [] H U.H/\U.H[H.length+1]?=some (.cells (qG p))/\U.H[H.length+2]?=some (.cells [.int .i64 e.op,.int .i64 e.n,.str e.name,.sl 4 (e.args.map qq) .none])/\U.H[H.length+3]?=some (.map ((wT (p.vars.take dn.length)).map ZQ) dn.length) /\
  U.H[H.length+4]?=some (.cells (.sl 3 (d.map qu) .none::(qG p++[.sl 1 (LV.map qr) .none,.map (H.length+3)])))) ?_ ?_ ?_
 . refine⟨by simp,by simp,by simp,by simp,by simp,by simp,KpL.app,?_,?_,?_,?_⟩
   . exact lk1
   . exact lk2
   . exact lk3
   . exact lk4
 . rintro dn v rest ev ⟨H1,T1⟩ R hR hd hx hlt ⟨e4,e5,e8,e32,e33,e34,hkp,bP,bE,bM,bB⟩;dsimp only at hkp bP bE bM bB;have hdw:=wr (n:=(dn.length:Int)+1) (by omega) (by omega);have hlt':(dn.length:Int)<p.vars.length:=(by omega);have hf:=qju hn hx 0;have ht1:=qez hx;have hMl:=(qpy.1 bM).1;have hup:∀ (u:List Blk) (T:List (Option Nat)),qV (Dof Tryz.prog) ⟨H1++u,T⟩ 210 (.map (H.length+3)) (.str v.name) (.int .i64 (dn.length:Int))=some ⟨H1.set (H.length+3) (.map ((wT (p.vars.take (dn.length+1))).map ZQ) (dn.length+1))++u,T⟩:=fun u T=>by
    rw[ht1,qqz];generalize (wT (p.vars.take dn.length)).map ZQ=E at *;simp[qV,qa bM,zs,hf,yC bM,ZQ]
   generalize hE2:(wT (p.vars.take (dn.length+1))).map ZQ=E2 at *;simp only[qG,qpU,qpS]at bB;simp[-getElem?_pos,e4,e5,e8,e32,e33,e34,hlt,hlt',hx];rw[qI rfl];simp[-getElem?_pos,qO,e4,e5,e8,e32,e33,e34,qa bB,hup,hdw];refine hR _ _ ⟨by simp[e4],by simp[e5],by simp[e8],by simp[e32],by simp[e33],by simp,(hkp.setF (by omega)).trans KpL.app,qa (by rw[qpB (by omega)];exact bP) _,qa (by rw[qpB (by omega)];exact bE) _,?_,qa (by rw[qpB (by omega)];exact bB) _⟩;rw[qpD,qp2,hE2];exact qa (qpF hMl) _
 . rintro ev ⟨H1,T1⟩ ⟨e4,e5,e8,e32,e33,e34,hkp,bP,bE,bM,bB⟩;dsimp only at hkp bP bE bM bB;rw[qrA]at bM;have bM':H1[H.length+3]?=some (wE p.vars):=bM;have bB':=bB;simp only[qG,qpU,qpS]at bB;simp[-getElem?_pos,e4,e5,e8,e32,e33,e34];rw[qI rfl];simp[-getElem?_pos,qO,e4,e5,e8,e32,e33,e34,bB,bE];refine qc.acall (huse H1 (H.length+3) bM' T1) ?_;rintro v ⟨H2,T2⟩ ⟨rfl,hk2⟩;dsimp only at hk2;simp[-getElem?_pos,qO,e8];exact⟨H.length+4,H.length+3,rfl,by omega,by omega,by omega,hkp.trans hk2,by rw[hLV];exact hk2.2 _ _ bB' (by simp),hk2.2 _ _ bM' (by simp)⟩
def yA (vs:List Var)(l:List Int):Int:=(l.map fun i=>zF vs i.toNat).sum
theorem Kz (vs:List Var)(l:List Int)(i:Int):yA vs (l++[i])=yA vs l+zF vs i.toNat:=by simp[yA]
theorem Za {vs:List Var}(hw:∀ v∈vs,0<=v.width)(n:Nat):0<=zF vs n:=by
 unfold zF;split
 . rename_i v hv;exact hw v (qpz hv)
 . omega
theorem Js {vs:List Var}(hw:∀ v∈vs,0<=v.width):∀ l:List Int,0<=yA vs l
 | []=>by simp[yA]
 | a::r=>by
  have:=Js hw r;have:=Za hw a.toNat;simp only[yA,qpK,qrD]at *;omega
theorem V0 (vs:List Var)(l m:List Int):yA vs (l++m)=yA vs l+yA vs m:=by simp[yA]
theorem Ky {vs:List Var}(hw:∀ v∈vs,0<=v.width)(l:List Int)(k:Nat):yA vs (l.take k)<=yA vs l:=by
 have h1:=V0 vs (l.take k) (l.drop k);rw[qqt]at h1;have:=Js hw (l.drop k);omega
theorem qdG {vs:List Var}{l:List Int}(hl:∀ i∈l,∃ n:Nat,i=n/\n<vs.length)(hnd:l.Nodup):∀ m,m<=l.length->(kx vs (l.take m)).2=yA vs (l.take m)/\∀ k (i:Int),k<m->l[k]?=some i->(kx vs (l.take m)).1[i.toNat]?=some (yA vs (l.take k))
 | 0,_=>⟨by simp[kx,yA],fun k i h=>by omega⟩
 | m+1,hm=>by
  obtain⟨ih1,ih2⟩:=qdG hl hnd m (by omega);obtain⟨j,hj⟩:∃ j,l[m]?=some j:=⟨_,qpA (by omega)⟩;have ht:l.take (m+1)=l.take m++[j]:=by rw[qp4,hj];rfl
  obtain⟨n,rfl,hn⟩:=hl j (qpz hj);have hlen:=QL vs (l.take m);rw[ht,KZ,Kz];refine⟨by simp only[wG,ih1],fun k i hk hi=>?_⟩;simp only[wG,qqi];by_cases hkm:k=m
  . subst hkm;rw[hj]at hi;cases hi;rw[qqi,qpF (by omega),ih1]
  . obtain⟨n2,rfl,hn2⟩:=hl i (qpz hi);have hne:n≠n2:=by
     rintro rfl;have hp:=qro.1 hnd;obtain⟨a1,a2⟩:=qpy.1 hj;obtain⟨b1,b2⟩:=qpy.1 hi;exact hp k m b1 a1 (by omega) (by rw[a2,b2])
    rw[qqi,qpB hne];exact ih2 k _ (by omega) hi
theorem VY {f:Int->Int}:∀ {l:List Int} {a:Int},a∈l->((l.erase a).map f).sum+f a=(l.map f).sum
 | x::r,a,h=>by
  rw[List.erase_cons];split
  . rename_i hx;have:x=a:=by simpa using hx
    subst this;simp;omega
  . rename_i hx;have hx:¬ x=a:=(by simpa using hx);have h2:a∈r:=(qp5.1 h).resolve_left (Ne.symm hx);have:=VY (f:=f) h2;simp;omega
theorem qbR {f:Int->Int}(hf:∀ i,0<=f i):∀ (n:Nat) (l:List Int),l.Nodup->(∀ x∈l,0<=x/\x<n)->(l.map f).sum<=((List.range n).map fun k:Nat=>f k).sum
 | 0,l,_,h=>by
  cases l with
  | nil=>simp
  | cons a r=>have:=h a (by simp);omega
 | n+1,l,hn,h=>by
  rw[qqT,qqz,List.sum_append];simp only[qpK,qqa,qrD,qtb];by_cases hm:(n:Int)∈l
  . have h1:=qbR hf n (l.erase (n:Int)) (hn.erase _) fun x hx=>by
     have h2:=(hn.mem_erase_iff).1 hx;have:=h x h2.2;omega
    have:=VY (f:=f) hm;omega
  . have h1:=qbR hf n l hn fun x hx=>by
     have:=h x hx;have h2:x≠(n:Int):=fun e=>hm (e▸hx)
     omega
    have:=hf n;omega
def qnM (vs:List Var)(i:Int):Int:=if yc vs i=true then zF vs i.toNat else 0
theorem qiC:∀ (vs:List Var),((List.range vs.length).map fun k:Nat=>qnM vs k).sum=jV vs:=by
 have gen:∀ (vs pre:List Var),((List.range' pre.length vs.length).map fun k:Nat=>qnM (pre++vs) k).sum=jV vs:=by
  intro vs
  induction vs with
  | nil=>intro pre;rfl
  | cons v r ih=>
   intro pre;have:=ih (pre++[v]);rw[qp6,qrl,qpD,qp2]at this;rw[qpQ,qry,qpK,qrD,this];simp only[jV];congr 1;have h1:(pre++v::r)[pre.length]?=some v:=(by rw[qpG (qpI _),qqL];rfl);simp only[qnM,yc,zF,qqi,h1];by_cases hm:v.mode=0<;>simp[hm]
 intro vs;have:=gen vs []
 rwa[qqp,<- qrr,qpS]at this
theorem qeC {p:Problem}(h:qk p=0):jV p.vars<=20:=by
 have hv:zV p.vars=0:=by
  unfold qk at h;split at h
  . exact absurd h (by assumption)
  . rename_i h1;exact qqI.1 h1
 unfold zV at hv;split at hv
 . cases hv
 . split at hv
   . rename_i h1;exact absurd hv h1
   . split at hv
     . cases hv
     . split at hv
       . cases hv
       . split at hv
         . cases hv
         . omega
theorem Jz {p:Problem}(h:qk p=0):∀ i∈p.groups.flatten,∃ n:Nat,i=n/\n<p.vars.length:=fun i hi=>by
 obtain⟨n,v,rfl,hn,_⟩:=J5 ((jQ h).2.1 i hi);exact⟨n,rfl,(qpy.1 hn).1⟩
theorem vz {p:Problem}(h:qk p=0):∀ v∈p.vars,0<=v.width:=fun v hm=>by have:=zc (ju h v hm);omega
theorem YE {p:Problem}(h:qk p=0):yA p.vars p.groups.flatten<=20:=by
 have h1:=qbR (f:=qnM p.vars) (fun i=>by unfold qnM;split;exact Za (vz h) _;omega) p.vars.length p.groups.flatten (jQ h).2.2.1 (fun i hi=>by
  obtain⟨n,rfl,hn⟩:=Jz h i hi;omega)
 rw[qiC]at h1;have h2:=qeC h;have h3:(p.groups.flatten.map (qnM p.vars)).sum=yA p.vars p.groups.flatten:=by
  unfold yA;congr 1;exact qqN fun i hi=>by unfold qnM;rw[if_pos ((jQ h).2.1 i hi)]
 omega
theorem yJ (p:Problem):(qA p).length=p.vars.length:=QL p.vars _
theorem Yr {p:Problem}(h:qk p=0){k:Nat}{n:Nat}(hk:p.groups.flatten[k]?=some (n:Int)):(qA p)[n]?=some (yA p.vars (p.groups.flatten.take k)):=by
 have h1:=(qdG (Jz h) (jQ h).2.2.1 p.groups.flatten.length (qpI _)).2 k _ (qpy.1 hk).1 hk;rw[qrA,qqi]at h1;exact h1
theorem qgH {p:Problem}(h:qk p=0){n:Nat}{v:Var}(hv:p.vars[n]?=some v)(hm:v.mode≠0):∃ k:Nat,p.groups.flatten[k]?=some (n:Int):=by
 have:=(jQ h).2.2.2 n (qpy.1 hv).1 (by simp[yc,hv,hm]);exact qqg this
theorem qhm {p:Problem}(h:qk p=0):∀ (i:Nat) (v:Var) (l:Int),p.vars[i]?=some v->(qA p)[i]?=some l->v.mode≠0->0<=l/\l+v.width<=20:=fun i v l hv hl hm=>by
 obtain⟨k,hk⟩:=qgH h hv hm;have h1:=Yr h hk;rw[hl]at h1;cases h1;have h2:=Js (vz h) (p.groups.flatten.take k);have h3:=Ky (vz h) p.groups.flatten (k+1);have h4:p.groups.flatten.take (k+1)=p.groups.flatten.take k++[(i:Int)]:=by rw[qp4,hk];rfl
 rw[h4,Kz]at h3;have h5:zF p.vars (i:Int).toNat=v.width:=by simp[zF,hv]
 have h6:=YE h;omega
end Go.Proofs.YtkpkjbchlabaaaaGreatDoor
end
