/- A part of the proof. -/
import Derived.Test.YtkpkjbchlabaaaaGreatDoorSa32
import Derived.Test.YtkpkjbchlabaaaaGreatDoorSa31
set_option linter.unusedVariables false
set_option linter.unusedSimpArgs false
set_option maxRecDepth 100000
set_option maxHeartbeats 16000000
set_option linter.defProp false
section
namespace Go.Proofs.YtkpkjbchlabaaaaGreatDoor
open Go Go.Abs
theorem qgI {p:Problem}(h:qj p=0):∀ d∈p.dists,∃ (i:Nat) (v:Var),d.var=i/\p.vars[i]?=some v:=by
 have hd:jZ p.vars p.dists=0:=by
  unfold qj at h;split at h
  . exact absurd h (by assumption)
  . split at h
    . rename_i h1;exact absurd h h1
    . split at h
      . rename_i h1;exact absurd h h1
      . rename_i h1;exact qqY.1 h1
 intro d hm;obtain⟨k,hk⟩:=qqN hm;have hkl:=(qqc.1 hk).1;unfold jZ at hd;have:=zr.1 hd k (by simp;omega);unfold jz at this;rw[hk]at this;simp only at this;split at this
 . cases this
 . rename_i hr;have hr:yi p.vars d.var=true:=(by simpa using hr);simp only[yi,qqi,decide_eq_true_eq]at hr;obtain⟨j,hj⟩:=qqL hr.1;rw[hj]at hr;simp only[qqT]at hr
   cases hv:p.vars[j]? with
   | none=>rw[hv]at hr;simp at hr
   | some v=>exact⟨j,v,hj,hv⟩
noncomputable def yn (p:Problem):List Ex:=if qj p=0 then vt p else []
theorem ZU (p:Problem)(h:VQ p)(hd:p.dists.length<=10000):Pure Tryz.prog GG 117 [.agg (qE p)] (.sl 4 ((yn p).map qr) .none):=by
 refine Pure.k qe Tryz.func117 rfl (by kernel_rfl) ?_;have hval:=yv p h;simp only[qE]at hval;by_cases hv:qj p=0
 case neg=>
  have:yn p=[]:=if_neg hv;rw[this];simp[-getElem?_pos];refine qc.call hval (by simp) ?_;simp[-getElem?_pos,hv,Leq]
 have hs:yn p=p.dists.map (Ks p.vars):=if_pos hv;rw[hs];have hdl:(p.dists.length:Int)<=549755813888:=by omega
 simp[-getElem?_pos];refine qc.call hval (by simp) ?_;simp[-getElem?_pos,hv,qx,hdl];have hvd:=qgI hv;refine qX.listR p.dists (fun d ev U=>ev 1=.ptr 0 0/\ev 3=.sl 4 ((d.map (Ks p.vars)).map qr) (.chain 0 d.length)/\ev 14=.sl 2 (p.dists.map zH) .none/\ev 15=.int .i64 p.dists.length/\ev 16=.int .i64 d.length/\∃ t,U=⟨.cells (qE p)::t,[some d.length]⟩) ?_ ?_ ?_
 . exact⟨by simp,by simp,by simp,by simp,by simp,[],by simp⟩
 . rintro d x rest ev U R hR hd2 hx hlt ⟨e1,e3,e14,e15,e16,t,rfl⟩;have hdw:=wr (n:=(d.length:Int)+1) (by omega) (by omega);have hm:=qqd hx;obtain⟨i,v,hi,hvi⟩:=hvd x hm;have hvw:=zd (jl hv v (qqd hvi));have hsup:=qfh p x v i hi hvi h.vars (by omega) (by omega) (h.weights x hm);have hsn:(d++[x]).map (Ks p.vars)=d.map (Ks p.vars)++[Ks p.vars x]:=(by simp);have hml:(d.map (Ks p.vars)).length=d.length:=(by simp);have ha:=yh (Ks p.vars x);have hl4:=zc (Ks p.vars x);generalize Ks p.vars x=X at *;generalize d.map (Ks p.vars)=D at *;have happ:∀ H,qO (Dof Tryz.prog) ⟨H,[some d.length]⟩ 23 (.sl 4 (D.map qr) (.chain 0 d.length)) (.sl 4 [qr X] .tight)=some (.sl 4 ((D++[X]).map qr) (.chain 0 (d.length+1)),⟨H,[some (d.length+1)]⟩):=fun H=>by
    have h1:D.length+1<=549755813888:=(by omega);simp[qO,zL,h1]
   simp only[qE]at hsup;simp[-getElem?_pos,-qQ,e1,e3,e14,e15,e16,hlt,hx];refine qc.call hsup (by simp) ?_;simp[-getElem?_pos,-qQ,ha,hl4,e1,e3,e14,e15,e16,hdw,qk,qu,happ];refine hR _ _ ⟨by simp[e1],by rw[hsn];simp,by simp[e14],by simp[e15],by simp,t++[.cells (zH x)],?_⟩;simp
 . rintro ev U ⟨e1,e3,e14,e15,e16,t,rfl⟩;have hn:=nrEs (p.dists.map (Ks p.vars));rw[qrz]at hn;simp[-getElem?_pos,e3,e15,e16,hn]
theorem Yr:∀ (new c:List AV) (off:Nat),(zj c off new).length=c.length
 | [],c,off=>rfl
 | v::r,c,off=>by rw[zj,Yr r];simp
theorem qaG (A B Z:List AV)(h:Z.length=A.length+B.length):zj (zj Z 0 A) A.length B=A++B:=by
 obtain⟨Z1,Z2,rfl,h1⟩:∃ Z1 Z2,Z=Z1++Z2/\Z1.length=A.length:=⟨Z.take A.length,Z.drop A.length,(qq8 _ _).symm,by rw[qqP];omega⟩;rw[wA A Z1 Z2 h1];have:=vz (c:=Z2) B A 0;rw[qrl]at this;rw[this,putAt_all Z2 B (by simp at h;omega)]
def needE (a b:List Ex):List AV:=(a++b).flatMap qr
theorem sl_ms (N k:Nat)(h:k<N):zq (.ms 1 0 N 4) (some (.int .i64 (k:Int))) none none=some (.ms 1 (k*4) (N-k) 4):=by
 show (if (0:Int)<=k/\(k:Int)<=N/\(N:Int)<=N/\((k:Int)=0\/(k:Int)<N) then some (AV.ms 1 (0+(k:Int).toNat*4) ((N:Int).toNat-(k:Int).toNat) 4) else if (k:Int)=N/\(N:Int)=N then some (.sl 4 [] .none) else none)=_;rw[if_pos ⟨by omega,by omega,by omega,by omega⟩];simp
theorem sl_msE (N:Nat)(h:0<N):zq (.ms 1 0 N 4) (some (.int .i64 (N:Int))) none none=some (.sl 4 [] .none):=by
 show (if (0:Int)<=N/\(N:Int)<=N/\(N:Int)<=N/\((N:Int)=0\/(N:Int)<N) then some (AV.ms 1 (0+(N:Int).toNat*4) ((N:Int).toNat-(N:Int).toNat) 4) else if (N:Int)=N/\(N:Int)=N then some (.sl 4 [] .none) else none)=_;rw[if_neg (by omega),if_pos ⟨rfl,rfl⟩]
noncomputable def zM (p:Problem):List Ex:=p.hard++yn p
theorem YE (p:Problem)(h:VQ p)(hd:p.dists.length<=10000):Pure Tryz.prog GG 62 [.agg (qE p)] (.sl 4 ((zM p).map qr) .none):=by
 refine Pure.kO o0 true qe Tryz.func62 rfl (by kernel_rfl) ?_;have hs:=ZU p h hd;have hh:=h.hard;have hsl:(yn p).length<=10000:=by
  unfold yn;split
  . simp[vt,hd]
  . simp
 have hn:zM p=p.hard++yn p:=rfl;rw[hn];generalize yn p=S at *;simp only[qE]at hs;have hw:=wr (n:=(p.hard.length:Int)+S.length) (by omega) (by omega);by_cases h0:p.hard=[]/\S=[]
 . obtain⟨h1,h2⟩:=h0;subst h2;rw[h1]at hs hw ⊢;simp[-getElem?_pos,h1];refine qc.call hs (by simp) ?_;have h00:IntKind.i64.wrap 0=0:=(by decide);simp[-getElem?_pos,h00,h1,qx,yJ,V5,zq,zU,kv,zY];have hfc:∀ H,frz H 8 (.sl 4 [] (.chain 0 0))=.sl 4 [] .none:=fun H=>by rw[frz];simp[qR]
   rw[hfc];exact⟨by simp,Leq.refl _⟩
 . have hpos:0<p.hard.length+S.length:=by
    rcases qrm (p.hard.length+S.length) with h|h
    . exact absurd ⟨qqv (by omega),qqv (by omega)⟩ h0
    . exact h
   have hnz:¬ (p.hard.length:Int)+S.length=0:=(by omega);have hle:(p.hard.length:Int)+S.length<=549755813888:=(by omega);have hge:(0:Int)<=(p.hard.length:Int)+S.length:=(by omega);have htn:((p.hard.length:Int)+S.length).toNat=p.hard.length+S.length:=(by omega);obtain⟨Z,hZ⟩:∃ Z,Z=(List.replicate (p.hard.length+S.length) [AV.int .i64 0,.int .i64 0,.str [],.sl 0 [] .nil]).flatten:=⟨_,rfl⟩;have hZl:Z.length=(p.hard.length+S.length)*4:=(by rw[hZ];simp);have hAl:(p.hard.flatMap qr).length=p.hard.length*4:=Go.Abs.z9 (sz:=4) zc p.hard;have hBl:(S.flatMap qr).length=S.length*4:=Go.Abs.z9 (sz:=4) zc S;have hA:(p.hard.map qr).flatten=p.hard.flatMap qr:=(by rw[qr0]);have hB:(S.map qr).flatten=S.flatMap qr:=(by rw[qr0]);have htA:(p.hard.map qr).take p.hard.length=p.hard.map qr:=qqk (by simp);have htB:(S.map qr).take S.length=S.map qr:=qqk (by simp);have h2:=qaG (p.hard.flatMap qr) (S.flatMap qr) Z (by rw[hZl,hAl,hBl,qra]);rw[hAl,<- List.flatMap_append]at h2;have hZ1l:(zj Z 0 (p.hard.flatMap qr)).length=(p.hard.length+S.length)*4:=(by rw[Yr,hZl]);have hc1:∀ B0:Blk,yJ (Dof Tryz.prog) ⟨[B0,.cells Z],[]⟩ 23 (.ms 1 0 (p.hard.length+S.length) 4) (.sl 4 (p.hard.map qr) .none)=some (.int .i64 p.hard.length,⟨[B0,.cells (zj Z 0 (p.hard.flatMap qr))],[]⟩):=fun B0=>by
    by_cases hh0:p.hard=[]
    . simp[yJ,V5,hh0,zj]
    . have hm:min p.hard.length (p.hard.length+S.length)=p.hard.length:=(by omega);have hl:p.hard.length*4<=(p.hard.length+S.length)*4:=(by omega);simp[yJ,V5,qmR,hm,hh0,htA,hA,hZl,hl]
   have hE:needE p.hard S=(p.hard++S).flatMap qr:=rfl;by_cases hS0:S=[]
   . subst hS0;have hhp:0<p.hard.length:=(by simpa using hpos);have hsl2:=sl_msE p.hard.length hhp;have ho:∀ B0:Blk,js 1 4 qr [B0,.cells (p.hard.flatMap qr)] (.ms 1 0 p.hard.length 4) p.hard:=fun B0=>.inr ⟨qqt.1 hhp,rfl,rfl⟩
     have hpa:zj Z 0 (p.hard.flatMap qr)=p.hard.flatMap qr:=putAt_all _ _ (by rw[hZl,hAl];simp);rw[hpa]at hc1;simp only[qq0,qrl,qrn,Int.add_zero]at hw hnz hle hge htn hZ hc1;simp only[qqU]at hs;have hcz:∀ U:St,yJ (Dof Tryz.prog) U 23 (.sl 4 [] .none) (.sl 4 [] .none)=some (.int .i64 0,U):=fun U=>by simp[yJ,V5]
     generalize p.hard.flatMap qr=FE at *;simp[-getElem?_pos];refine qc.call hs (by simp) ?_;have hhn:¬ p.hard=[]:=qqt.1 hhp;simp[-getElem?_pos,hw,hnz,hle,hge,hhn,qx,<- hZ,hc1,hsl2,hcz];exact⟨(ho (.cells (qE p))).frzNo zc (fun x=>nrE x) yA 7,(ho (.cells (qE p))).frz zc (fun x=>nrE x) yA 7⟩
   . have hSp:=qqt.2 hS0;have hsl2:zq (.ms 1 0 (p.hard.length+S.length) 4) (some (.int .i64 p.hard.length)) none none=some (.ms 1 (p.hard.length*4) S.length 4):=by
      have h3:p.hard.length+S.length-p.hard.length=S.length:=(by omega);rw[sl_ms _ _ (by omega),h3]
     have hc2:∀ B0:Blk,yJ (Dof Tryz.prog) ⟨[B0,.cells (zj Z 0 (p.hard.flatMap qr))],[]⟩ 23 (.ms 1 (p.hard.length*4) S.length 4) (.sl 4 (S.map qr) .none)=some (.int .i64 S.length,⟨[B0,.cells ((p.hard++S).flatMap qr)],[]⟩):=fun B0=>by
      have hl:p.hard.length*4+S.length*4<=(p.hard.length+S.length)*4:=(by omega);simp[yJ,V5,qmR,hS0,htB,hB,hZ1l,hl,-List.flatMap_append,h2]
     have ho:∀ B0:Blk,js 1 4 qr [B0,.cells ((p.hard++S).flatMap qr)] (.ms 1 0 (p.hard.length+S.length) 4) (p.hard++S):=fun B0=>.inr ⟨by simp[hS0],by simp,rfl⟩
     generalize (p.hard++S).flatMap qr=FE at *;generalize zj Z 0 (p.hard.flatMap qr)=Z1 at *;simp[-getElem?_pos];refine qc.call hs (by simp) ?_;simp[-getElem?_pos,hw,hnz,hle,hge,qx,htn,<- hZ,hc1,hsl2,hc2];have f1:=(ho (.cells (qE p))).frz zc (fun x=>nrE x) yA 7;have f2:=(ho (.cells (qE p))).frzNo zc (fun x=>nrE x) yA 7;rw[qrb]at f1;exact⟨f2,f1⟩
def JT (e:Ex):Prop:=Wen e/\hgt e<=1000/\(pre e).length<=100000
theorem qor:∀ (e x:Ex),x∈pre e->(pre x).length<=(pre e).length:=by
 refine Ex.ind fun e ih x hx=>?_
 rw[jr]at hx;rcases qqE.1 hx with rfl|hx
 . exact qqn _
 . obtain⟨a,ha,hxa⟩:=QX.1 hx;exact qq6 (ih a ha x hxa) (qdX ha)
theorem EOk.tame {s:Str}{e:Ex}{h m:Nat}(ho:EOk s h m e)(hs:Fits s)(hh:h<=1000)(hm:m<=100000):JT e:=by
 refine⟨fun x hx=>?_,qq6 ho.hgt hh,qq6 ho.size hm⟩;have h1:=qor e x hx;have h2:=qeQ x;have h3:=ho.size;obtain⟨n1,n2,n3,n4⟩:=ho.nodes x hx;refine⟨by show x.args.length<_;omega,?_⟩;by_cases h:x.op=2
 . rw[n4 h];exact hs
 . have:=(je n1).2.2.2.2.2.2.2 (by rintro (h' | h' | h');exact h h';exact n2 h';exact n3 h');rw[this];simp[Fits]
theorem qaT (n:Int):JT (jP n):=by
 refine⟨fun x hx=>?_,by simp[kD,jP],by rw[QT];simp⟩;rw[QT]at hx;simp only[qqE,qrA,or_false]at hx;subst hx;exact⟨by simp[jP,Fits,Ex.args],by simp[jP,Fits,Ex.name]⟩
theorem qcf {s:Str}(hs:yX s=true)(hf:Fits s){l:List Rg}(hl:l.length<=128)(hr:∀ r∈l,qjJ r):JT (Qh s l):=by
 unfold Qh;split
 . exact qaT 0
 . rename_i h0;have hpos:=qqt.2 h0;have h1:=EOk.ins hs (l:=l.take 16) (qqt.1 (by rw[qqP];omega)) (by rw[qqP];omega) (fun r h=>hr r (qrf h));have h2:=EOk.chain hs (z8 16 l.length (l.drop 16)) (h:=0) h1 (fun c hc=>by
    obtain⟨a,b,c'⟩:=Yv (by omega) _ _ c hc;exact⟨a,b,fun r h=>hr r (qrT (c' r h))⟩)
   have h3:=Yw (n:=16) (by omega) l.length (l.drop 16) 7 (by rw[qsG];omega);exact h2.tame hf (by omega) (by omega)
theorem qgR {vs:List Var}(hv:∀ v∈vs,jH v=0)(hf:∀ v∈vs,Fits v.name)(d:Dist):JT (Ks vs d):=by
 unfold Ks;split
 . rename_i v h;have hm:=qqd h;have h1:=zd (hv v hm);have h2:=qch v d.weights;have h3:=WX h1.2.2;have h4:=qct (N:=(jx v:Nat)) h2.1 (fun x hx=>by have:=h2.2 x hx;omega) (by omega);exact qcf h1.1 (hf v hm) (by omega) h4.1
 . exact qaT 0
theorem QV {p:Problem}(h:VQ p)(hv:qj p=0):∀ e∈zM p++p.soft,wH p.vars e=true/\JT e:=by
 have hx:∀ e∈p.hard++p.soft,zi p.vars e=0:=by
  have:qM (zi p.vars) (p.hard++p.soft)=0:=by
   unfold qj at hv;split at hv
   . exact absurd hv (by assumption)
   . split at hv
     . rename_i h1;exact absurd hv h1
     . rename_i h1;exact qqY.1 h1
  exact zr.1 this
 intro e he;have hs:yn p=vt p:=if_pos hv;rw[zM,hs]at he;rcases qqA.1 he with he|he
 . rcases qqA.1 he with he|he
   . exact⟨decide_eq_true (hx e (qq5 _ he)),h.exprs e (qq5 _ he)⟩
   . obtain⟨d,hd,rfl⟩:=qqG.1 he;exact⟨decide_eq_true (qfi (jl hv) d),qgR (jl hv) h.names d⟩
 . exact⟨decide_eq_true (hx e (qrE _ he)),h.exprs e (qrE _ he)⟩
def Need0 (H:List Blk)(T:List (Option Nat))(r:AV)(U':St):Prop:=r=.sl 4 [] (.chain T.length 0)/\U'.T=T++[some 0]/\∃ u,U'.H=H++u
theorem qfH (p:Problem)(h:VQ p)(hd:p.dists.length<=10000)(h1:p.hard=[])(h2:yn p=[])(H:List Blk)(T:List (Option Nat)):qf Tryz.prog GG 62 [.agg (qE p)] ⟨H,T⟩ (Need0 H T):=by
 refine qf.k qe Tryz.func62 rfl (by kernel_rfl) ?_;have hs:=ZU p h hd;rw[h2]at hs;have h00:IntKind.i64.wrap 0=0:=by decide
 simp only[qE,h1]at hs;simp[-getElem?_pos,h1];refine qc.call hs (by simp) ?_;simp[-getElem?_pos,h00,h1,qx,yJ,V5,zq,zU,kv,zY];exact⟨rfl,rfl,_,rfl⟩
noncomputable def wI (p:Problem):List Int×Int :=
 if qj p=0 then (if jO p.vars (zM p)=true then ((kK p.vars (zM p) (Jq p.soft)).reverse.map (·.1),0) else ([],11)) else ([],1)
theorem qlf (p:Problem)(h:VQ p)(hv:qj p≠0):Pure Tryz.prog GG 61 [.agg (qE p)] (.tup [.sl 1 ((wI p).1.map qt) .none,.int .i64 (wI p).2]):=by
 have hr:wI p=([],1):=if_neg hv;rw[hr];refine Pure.kO o0 true qe Tryz.func61 rfl (by kernel_rfl) ?_;have hval:=yv p h;simp only[qE]at hval;simp[-getElem?_pos];refine qc.call hval (by simp) ?_;simp[-getElem?_pos,hv];rw[qI (by simp)];exact⟨by simp,by simp[Leq,zu]⟩
theorem qfS (p:Problem)(h:VQ p)(hv:qj p=0)(hv20:p.vars.length<=20)(hb:yP p.vars (qz p)<=18)(hd:p.dists.length<=10000)(hs:jO p.vars (zM p)=false):Pure Tryz.prog GG 61 [.agg (qE p)] (.tup [.sl 1 ((wI p).1.map qt) .none,.int .i64 (wI p).2]):=by
 have hr:wI p=([],11):=by unfold wI;rw[if_pos hv,hs,if_neg (by simp)]
 rw[hr];refine Pure.kO o0 true qe Tryz.func61 rfl (by kernel_rfl) ?_;have hval:=yv p h;have hn:=YE p h hd;have hk:=QV h hv;have hfn:Fits (zM p):=by
  have h1:=h.hard;have h2:(yn p).length<=10000:=by
   have:yn p=vt p:=if_pos hv;rw[this,vt,qqS];exact hd
  show (zM p).length<_;rw[zM,qqg];omega
 have hso:=Qn p (zM p) h hv20 hb hfn (fun e he=>(hk e (qq5 _ he)).2);have hsb:Ji p (zM p)=false:=by
  unfold Ji;rw[hs];simp
 rw[hsb]at hso;generalize zM p=N at *;simp only[qE]at hval hn hso;simp[-getElem?_pos];refine qc.call hval (by simp) ?_;simp[-getElem?_pos,hv];refine qc.call hn (by simp) ?_;simp[-getElem?_pos];refine qc.call hso (by simp) ?_;simp[-getElem?_pos];rw[qI (by simp)];exact⟨by simp,by simp[Leq,zu]⟩
theorem qh2 {α:Type}{en:α->List AV}{sz:Nat}{R:List α}{tok:Tok}{n:Int}(hn:n=(R.length:Int))(h:R≠[]\/tok.known=true):zq (.sl sz (R.map en) tok) none (some (.int .i64 n)) (some (.int .i64 n))=some (.sl sz (R.map en) .tight):=by
 subst hn;have h2:(R.map en).take R.length=R.map en:=qqk (by simp);have h3:0<R.length\/tok.known=true:=h.imp qqt.2 id;simp[zq,zU,kv,zY,wX,h2,h3]
theorem Vl {R:List Ex}{X:Ex}{H:List Blk}{T:List (Option Nat)}(hR:R.length<1000000):qO (Dof Tryz.prog) ⟨H,T⟩ 23 (.sl 4 (R.map qr) .tight) (.sl 4 [qr X] .tight)=some (.sl 4 ((R++[X]).map qr) (.chain T.length 1),⟨H,T++[some 1]⟩):=by
 have h1:R.length+1<=549755813888:=by omega
 simp[qO,zL,h1]
theorem qec (l:List Ex):(Jq l).length=l.length:=by simp[Jq]
theorem qhC {l:List Ex}{k:Nat}{q:Int×Ex}(h:(Jq l)[k]?=some q):k<l.length/\q.1=((l.length-1-k:Nat):Int)/\l[l.length-1-k]?=some q.2:=by
 unfold Jq at h;have hk:=(qqc.1 h).1;simp at hk;rw[List.getElem?_reverse (by simpa using hk)]at h;simp only[qqS,List.length_zipIdx,qqB,qsn,qrL]at h
 cases hx:l[l.length-1-k]? with
 | none=>rw[hx]at h;simp at h
 | some x=>rw[hx]at h;simp at h;subst h;exact⟨hk,rfl,rfl⟩
theorem revset {d:List Int}{m:Nat}{v:Int}(h:d.length<m):(List.replicate (m-d.length) (0:Int)++d.reverse).set (m-1-d.length) v=List.replicate (m-(d.length+1)) 0++(d++[v]).reverse:=by
 have h1:List.replicate (m-d.length) (0:Int)=List.replicate (m-(d.length+1)) 0++[0]:=by
  rw[show m-d.length=(m-(d.length+1))+1 by omega,qsI]
 rw[h1,qqI,qrh _ _ (by simp;omega)];have h2:m-1-d.length-(List.replicate (m-(d.length+1)) (0:Int)).length=0:=by simp;omega
 rw[h2];simp
theorem Q4 {H:List Blk}{n:Nat}{a r:AV}{k:IntKind}{z:Int}(h1:qR (frz H n a)=true)(h2:Leq (frz H n a) r)(h3:qR a=true->Leq a r) :
 qR (frz H (n+1) (.tup [a,.int k z]))=true/\Leq (frz H (n+1) (.tup [a,.int k z])) (.tup [r,.int k z]):=by
 by_cases hn:qR a=true
 . rw[qI (by simp[hn])];exact⟨by simp[hn],by simp[Leq,zu,h3 hn]⟩
 . have:frz H (n+1) (.tup [a,.int k z])=.tup [frz H n a,.int k z]:=by
    have h0:frz H n (.int k z)=.int k z:=qI rfl;rw[frz,if_neg (by simp[hn])];simp[h0]
   rw[this];exact⟨by simp[h1],by simp[Leq,zu,h2]⟩
def NeedU (p:Problem)(H:List Blk)(r:AV)(U':St):Prop:=∃ tok u T',r=.sl 4 ((zM p).map qr) tok/\(zM p≠[]\/tok.known=true)/\U'=⟨H++u,T'⟩
theorem qfG (p:Problem)(h:VQ p)(hd:p.dists.length<=10000)(H:List Blk)(T:List (Option Nat)):qf Tryz.prog GG 62 [.agg (qE p)] ⟨H,T⟩ (NeedU p H):=by
 by_cases hN:zM p=[]
 . have h0:p.hard=[]/\yn p=[]:=(by rw[zM]at hN;simpa using hN);refine (qfH p h hd h0.1 h0.2 H T).imp ?_;rintro v ⟨H1,T1⟩ ⟨rfl,hT,u,hH⟩;simp only at hT hH;subst hH;exact⟨_,u,T1,by rw[hN];rfl,.inr rfl,rfl⟩
 . refine qf.call (YE p h hd) (by simp) ?_;exact⟨.none,[],T,rfl,.inl hN,by simp⟩
theorem qjC (p:Problem)(h:VQ p)(hv20:p.vars.length<=20)(hb:yP p.vars (qz p)<=18)(hd:p.dists.length<=10000)(hs5:p.soft.length<=10000) :
 Pure Tryz.prog GG 61 [.agg (qE p)] (.tup [.sl 1 ((wI p).1.map qt) .none,.int .i64 (wI p).2]):=by
 by_cases hv:qj p=0
 case neg=>exact qlf p h hv
 by_cases hs:jO p.vars (zM p)=true
 case neg=>exact qfS p h hv hv20 hb hd (by simpa using hs)
 have hr:wI p=((kK p.vars (zM p) (Jq p.soft)).reverse.map (·.1),0):=by unfold wI;rw[if_pos hv,if_pos hs]
 rw[hr];dsimp only;obtain⟨RES,hRES⟩:∃ RES,RES=(kK p.vars (zM p) (Jq p.soft)).reverse.map (·.1):=⟨_,rfl⟩;rw[<- hRES];refine Pure.kO o0 true qe Tryz.func61 rfl (by kernel_rfl) ?_;have hval:=yv p h;have hn:=YE p h hd;have hk:=QV h hv;have h1:=h.hard;have h2:(yn p).length<=10000:=by
  have:yn p=vt p:=if_pos hv;rw[this,vt,qqS];exact hd
 have hNl:(zM p).length<=20000:=by rw[zM,qqg];omega
 have hso:=fun l (hl:l.length<40000) (hx:∀ e∈l,wH p.vars e=true/\JT e)=>Qn p l h hv20 hb (by show l.length<_;omega) (fun e he=>(hx e he).2)
 have hsb:∀ l,(∀ e∈l,wH p.vars e=true/\JT e)->Ji p l=jO p.vars l:=fun l hl=>by
  have:l.all (wH p.vars)=true:=qqo.2 fun e he=>(hl e he).1
  unfold Ji;rw[this];simp[hv]
 have hne:=qfG p h hd [.cells (qE p)] [];unfold NeedU at hne;have hso0:=hso (zM p) (by omega) (fun e he=>hk e (qq5 _ he));rw[hsb _ (fun e he=>hk e (qq5 _ he)),hs]at hso0;generalize zM p=N at *;generalize hL:Jq p.soft=L at *;have hLl:L.length=p.soft.length:=by rw[<- hL,qec]
 simp only[qE]at hval hn hso0 hne hso;simp[-getElem?_pos];refine qc.call hval (by simp) ?_;simp[-getElem?_pos,hv];refine qc.acall hne ?_;rintro v U ⟨tok,u,T,rfl,htok,rfl⟩;simp[-getElem?_pos];refine qc.pure hso0 (by cases tok<;>simp) (by cases tok<;>simp[zu,Leq,j7.refl]) ?_;have hsoft:(p.soft.length:Int)-1=(p.soft.length:Int)-1-(([]:List (Int×Ex)).length:Int):=by simp
 have hw1:=wr (n:=(p.soft.length:Int)-1) (by omega) (by omega);simp[-getElem?_pos,hw1];refine qX.listR L (fun d ev U=>ev 1=.ptr 0 0/\ev 6=.int .i64 ((p.soft.length:Int)-1-d.length)/\∃ R K tok u T,(∀ r,L=d++r->kK p.vars N L=K++kK p.vars R r)/\(∀ e∈R,wH p.vars e=true/\JT e)/\R.length<=20000+d.length/\K.length<=d.length/\ev 4=.sl 4 (R.map qr) tok/\(R≠[]\/tok.known=true)/\KD 0 1 qt T (ev 5) (K.map (·.1))/\U=⟨.cells (qE p)::u,T⟩) ?_ ?_ ?_
 . refine⟨by simp,by simp,N,[],tok,u,T,fun r hr=>by rw[hr];rfl,fun e he=>hk e (qq5 _ he),by simpa using hNl,by simp,by simp,htok,by simpa using KD.nil,by simp⟩
 . rintro d x rest ev U R0 hR hdl hx hlt ⟨e1,e6,R,K,tok2,u2,T2,hkeep,hRk,hRl,hKl,e4,htok2,e5,rfl⟩;have hna:=qhC (l:=p.soft) (k:=d.length) (q:=x) (by rw[hL];exact hx);obtain⟨n1,n2,n3⟩:=hna;have e6':ev 6=.int .i64 ((p.soft.length-1-d.length:Nat):Int):=(by rw[e6];congr 1;omega);have hge:(0:Int)<=((p.soft.length-1-d.length:Nat):Int):=(by omega);have hsl:=qh2 (en:=qr) (sz:=4) (R:=R) (tok:=tok2) rfl htok2;have hxk:=hk x.2 (qrE _ (qqd n3));have hRk2:∀ e∈R++[x.2],wH p.vars e=true/\JT e:=fun e he=>by
    rcases qqA.1 he with he|he
    . exact hRk e he
    . rw[qqQ]at he;rw[he];exact hxk
   have hso2:=hso (R++[x.2]) (by rw[qqg,qqK];omega) hRk2;rw[hsb _ hRk2]at hso2;have hlt2:p.soft.length-1-d.length<p.soft.length:=(by omega);have hap:=fun H T=>Vl (R:=R) (X:=x.2) (H:=H) (T:=T) (by omega)
   have ha:=yh x.2;have hl4:=zc x.2;have hnr:=nrEs (R++[x.2]);simp only[qrb,qqp,qqU]at hnr;have htk:(qr x.2).take 4=qr x.2:=qqk (by rw[hl4];exact qqn _);have hw2:=wr (n:=((p.soft.length-1-d.length:Nat):Int)-1) (by omega) (by omega);have hEx:x.1=((p.soft.length-1-d.length:Nat):Int):=n2;generalize hI:p.soft.length-1-d.length=I at *;obtain⟨v5,T5,hap5,h5,hT5⟩:=(e5.ext (T':=T2++[some 1]) (qtg _ _)).append (m:=[x.1]) (D:=Dof Tryz.prog) (ty:=28) (tok:=.tight) (T0:=[]) (T:=T2++[some 1]) (List.nil_prefix) (D28) rfl (D3) rfl (by decide) (by rfl) (by decide) (by simp;omega) 1 (.inl rfl);simp only[qqp,qqU,qt]at hap5;simp[-getElem?_pos,-qQ,e1,e4,e6',hge,hsl,n3,htk,ha,hl4,qk,qu,hap];refine qc.pure hso2 (by simp[hnr]) (by simp) ?_;have hIm:((I:Int)-1)=((p.soft.length:Int)-1-((d++[x]).length:Nat)):=(by rw[qqg,qqK];omega);have hwx:IntKind.i64.wrap (x.1-1)=(p.soft.length:Int)-1-((d.length:Int)+1):=(by rw[hEx,hw2,hIm,qqg,qqK];omega)
   cases hso3:jO p.vars (R++[x.2]) with
   | true=>
    simp[-getElem?_pos,-qQ,e6',qk,qu,hwx,<- hEx,hap5];refine hR _ _ ⟨by simp[e1],by simp,R++[x.2],K++[x],.chain T2.length 1,u2,T5,fun r hr=>?_,hRk2,by simp;omega,by simp;omega,by simp,.inl (by simp),by simpa using h5,rfl⟩;rw[hkeep (x::r) (by rw[hr];simp),kK,if_pos hso3];simp
   | false=>
    simp[-getElem?_pos,-qQ,e6',hw2];refine hR _ _ ⟨by simp[e1],by simp[hIm],R,K,tok2,u2,T2++[some 1],fun r hr=>?_,hRk,by simp;omega,by simp;omega,by simp[e4],htok2,by simpa using e5.ext (qtg _ _),rfl⟩;rw[hkeep (x::r) (by rw[hr];simp),kK,if_neg (by rw[hso3];simp)]
 . rintro ev U ⟨e1,e6,R,K,tok2,u2,T2,hkeep,hRk,hRl,hKl,e4,htok2,e5,rfl⟩;rw[hLl]at e6;have e6':ev 6=.int .i64 (-1):=(by rw[e6];congr 1;omega);have hK:=hkeep [] (by simp);rw[show kK p.vars R []=[] from rfl,qqV]at hK;rw[hK,List.map_reverse]at hRES;generalize hKI:K.map (·.1)=KI at *;have hKIl:KI.length<=10000:=(by rw[<- hKI,qqS];omega);subst hRES;rcases e5 with ⟨rfl,e5⟩|⟨hne,t,_,e5,_⟩
   . simp[-getElem?_pos,e6',e5,qx];refine qX.gen (fun m ev U=>ev 8=.sl 1 [] (.chain T2.length 0)/\ev 53=.int .i64 0/\ev 54=.int .i64 0) 0 ⟨by simp,by simp,by simp⟩ ?_;rintro m ev U R hR ⟨e8,e53,e54⟩;simp[-getElem?_pos,e8,e53,e54];have hf:∀ H,frz H 7 (.sl 1 [] (.chain T2.length 0))=.sl 1 [] .none:=fun H=>by rw[frz];simp[qR]
     exact Q4 (by rw[hf];rfl) (by rw[hf];exact Leq.refl _) (by simp)
   . have hKn:¬ (KI.length:Int)=0:=(by have:=qqt.2 hne;omega);have hKle:(KI.length:Int)<=549755813888:=(by omega);have hKp:=qqt.2 hne;simp[-getElem?_pos,e6',e5,qx,hKle,hne];refine qX.listR KI (fun d ev U=>ev 8=.ms (u2.length+1) 0 KI.length 1/\ev 52=.sl 1 (KI.map qt) (.chain t KI.length)/\ev 53=.int .i64 KI.length/\ev 54=.int .i64 d.length/\∃ H T,U=⟨H,T⟩/\H[u2.length+1]?=some (.cells (zI (List.replicate (KI.length-d.length) 0++d.reverse)))) ?_ ?_ ?_
     . refine⟨by simp,by simp,by simp,by simp,_,_,rfl,?_⟩;simp[zI]
     . rintro d x rest ev U R hR hdl hx hlt ⟨e8,e52,e53,e54,H,T,rfl,hH⟩;have hdw:=wr (n:=(d.length:Int)+1) (by omega) (by omega);have hkw:=wr (n:=(KI.length:Int)-1) (by omega) (by omega);have hkw2:=wr (n:=(KI.length:Int)-1-d.length) (by omega) (by omega);have hI:((KI.length:Int)-1-d.length)=((KI.length-1-d.length:Nat):Int):=(by omega);have hlen:(zI (List.replicate (KI.length-d.length) 0++d.reverse)).length=KI.length:=(by rw[za];simp;omega);have hlt3:KI.length-1-d.length<KI.length:=(by omega);have hlt4:KI.length-1-d.length+1<=KI.length:=(by omega);have hset:=yz (a:=List.replicate (KI.length-d.length) 0++d.reverse) (i:=KI.length-1-d.length) (x:=x);have hHl:=(qqc.1 hH).1;rw[revset hlt]at hset;rw[hI]at hkw2;generalize hJ:KI.length-1-d.length=J at *;simp[-getElem?_pos,e8,e52,e53,e54,hlt,hx,hkw,hI,hkw2,hH,hlen,hlt3,hlt4,hset,hdw];exact hR _ _ ⟨by simp[e8],by simp[e52],by simp[e53],by simp,_,_,rfl,by rw[qqg,qqK,qsM];exact qqh hHl⟩
     . rintro ev U ⟨e8,e52,e53,e54,H,T,rfl,hH⟩;rw[qro,qtc,qqw]at hH;simp[-getElem?_pos,e8,e53,e54];have hne2:KI.reverse≠[]:=(by simpa using hne);have ho:js (u2.length+1) 1 qt H (.ms (u2.length+1) 0 KI.length 1) KI.reverse:=.inr ⟨hne2,by simp,by rw[hH,wm]⟩;have f1:=ho.frz (fun x=>by simp) (fun x=>by simp) (fun x=>by simp) 6;have f2:=ho.frzNo (fun x=>by simp) (fun x=>by simp) (fun x=>by simp) 6;rw[List.map_reverse]at f1;exact Q4 f2 f1 (by simp)
def wU (vs:List Var)(q:List Int×Int)(i:Int):List Int×Int:=(q.1.set i.toNat q.2,q.2+zF vs i.toNat)
def kJ (vs:List Var)(l:List Int):List Int×Int:=l.foldl (wU vs) (List.replicate vs.length (-1),0)
def qB (p:Problem):List Int:=(kJ p.vars p.groups.flatten).1
theorem Wj (vs:List Var)(l:List Int)(i:Int):kJ vs (l++[i])=wU vs (kJ vs l) i:=by simp[kJ,qrp]
theorem QZ (vs:List Var):∀ l:List Int,(kJ vs l).1.length=vs.length:=by
 intro l;have:∀ (l:List Int) (q:List Int×Int),(l.foldl (wU vs) q).1.length=q.1.length:=by
  intro l
  induction l with
  | nil=>intro q;rfl
  | cons a r ih=>intro q;rw[qqR,ih];simp[wU]
 unfold kJ;rw[this];simp
theorem jN {p:Problem}(h:qj p=0):jL p.vars p.groups:=by
 have hd:zz p.vars p.groups=0:=by
  unfold qj at h;split at h
  . exact absurd h (by assumption)
  . split at h
    . rename_i h1;exact absurd h h1
    . split at h
      . rename_i h1;exact absurd h h1
      . exact h
 unfold zz at hd;split at hd
 . assumption
 . cases hd
theorem Yn {vs:List Var}{i:Int}(h:yi vs i=true):∃ (n:Nat) (v:Var),i=n/\vs[n]?=some v/\v.mode≠0:=by
 simp only[yi,qqi,decide_eq_true_eq]at h;obtain⟨j,hj⟩:=qqL h.1;have h2:=h.2;rw[hj]at h2;simp only[qqT]at h2
 cases hv:vs[j]? with
 | none=>rw[hv]at h2;simp at h2
 | some v=>rw[hv]at h2;exact⟨j,v,hj,hv,by simpa using h2⟩
theorem qfN {vs:List Var}(hw:∀ v∈vs,0<=v.width/\v.width<=8):∀ l:List Int,0<=(kJ vs l).2/\(kJ vs l).2<=8*l.length:=by
 intro l;have:∀ (l:List Int) (q:List Int×Int),0<=q.2->0<=(l.foldl (wU vs) q).2/\(l.foldl (wU vs) q).2<=q.2+8*l.length:=by
  intro l
  induction l with
  | nil=>intro q h;simp[h]
  | cons a r ih=>
   intro q h;have hwa:0<=zF vs a.toNat/\zF vs a.toNat<=8:=by
    unfold zF;split
    . rename_i v hv;exact hw v (qqd hv)
    . omega
   have:=ih (wU vs q a) (by simp only[wU];omega);rw[qqR];simp only[wU,qqs]at this ⊢;omega
 have:=this l (List.replicate vs.length (-1),0) (Int.le_refl _);simpa[kJ] using this
theorem YB:∀ (n:Nat) (l:List Int),l.Nodup->(∀ x∈l,0<=x/\x<n)->l.length<=n
 | 0,l,_,h=>by
  cases l with
  | nil=>simp
  | cons a r=>have:=h a (by simp);omega
 | n+1,l,hn,h=>by
  by_cases hm:(n:Int)∈l
  . have h1:=YB n (l.erase (n:Int)) (hn.erase _) fun x hx=>by
     have h2:=(hn.mem_erase_iff).1 hx;have:=h x h2.2;omega
    rw[qtx hm]at h1;omega
  . have h1:=YB n l hn fun x hx=>by
     have:=h x hx;have h2:x≠(n:Int):=fun e=>hm (e▸hx)
     omega
    omega
theorem Wm {p:Problem}(h:qj p=0):p.groups.flatten.length<=p.vars.length:=YB _ _ (jN h).2.2.1 fun i hi=>by
 obtain⟨n,v,rfl,hn,_⟩:=Yn ((jN h).2.1 i hi);have:=(qqc.1 hn).1;omega
theorem qbX (p:Problem)(h:VQ p)(hv:qj p=0):Pure Tryz.prog GG 50 [.agg (qE p)] (.sl 1 ((qB p).map qt) .none):=by
 refine Pure.kO o0 true qe Tryz.func50 rfl (by kernel_rfl) ?_;have hval:=yv p h;have hg:=jN hv;have hvars:=h.vars;have hw:∀ v∈p.vars,0<=v.width/\v.width<=8:=fun v hm=>by have:=zd (jl hv v hm);omega
 obtain⟨LV,hLV⟩:∃ LV,LV=qB p:=⟨_,rfl⟩;rw[<- hLV];simp only[qE]at hval;simp[-getElem?_pos];refine qc.call hval (by simp) ?_;by_cases hv0:p.vars=[]
 . have hg0:p.groups=[]:=by
    apply qs6.2;intro g hgm;have h1:=hg.1 g hgm;obtain⟨i,hi⟩:=List.exists_mem_of_ne_nil g h1;have:=hg.2.1 i (qqM.2 ⟨g,hgm,hi⟩);obtain⟨n,v,_,hn,_⟩:=Yn this;rw[hv0]at hn;simp at hn
   have hL0:LV=[]:=(by rw[hLV,qB,hg0,hv0];rfl);subst hL0;simp[-getElem?_pos,hv,hv0,hg0,qx];refine qX.gen (fun m ev U=>ev 1=.ptr 0 0/\ev 3=.sl 1 [] (.chain 0 0)/\ev 18=.int .i64 0/\ev 19=.int .i64 0/\∃ u T,U=⟨.cells (qE p)::u,T⟩) 0 ⟨by simp,by simp,by simp,by simp,_,_,by simp[hv0,hg0];exact⟨rfl,rfl⟩⟩ ?_;rintro m ev U R hR ⟨e1,e3,e18,e19,u,T,rfl⟩;simp[-getElem?_pos,e1,e18,e19,hg0];refine qX.gen (fun m ev U=>ev 3=.sl 1 [] (.chain 0 0)/\ev 28=.int .i64 0/\ev 29=.int .i64 0) 0 ⟨by simp[e3],by simp,by simp⟩ ?_;rintro m ev U R hR ⟨e3,e28,e29⟩;simp[-getElem?_pos,e3,e28,e29];have hf:∀ H,frz H 8 (.sl 1 [] (.chain 0 0))=.sl 1 [] .none:=fun H=>by rw[frz];simp[qR]
   rw[hf];exact⟨rfl,Leq.refl _⟩
 . have hpos:=qqt.2 hv0;have hne:¬ (p.vars.length:Int)=0:=(by omega);have hle:(p.vars.length:Int)<=549755813888:=(by omega);simp[-getElem?_pos,hv,hv0,hle,qx];have hnd:=hg.2.2.1;have hfl:p.groups.flatten.length<=1000:=qq6 (Wm hv) hvars;have hgl:=h.groups;have hgf:=h.group;refine yE p.vars.length (fun i ev U=>ev 1=.ptr 0 0/\ev 3=.ms 1 0 p.vars.length 1/\ev 18=.int .i64 p.vars.length/\ev 19=.int .i64 (i:Int)/\U=⟨[.cells (qE p),.cells (zI (List.replicate i (-1)++List.replicate (p.vars.length-i) 0))],[]⟩) ?_ ?_ ?_
   . refine⟨by simp,by simp,by simp,by simp,?_⟩;simp[zI]
   . rintro i ev U R hR hi ⟨e1,e3,e18,e19,rfl⟩;have hw1:=wr (n:=(i:Int)+1) (by omega) (by omega);have hi':(i:Int)<p.vars.length:=(by omega);have hi1:i+1<=p.vars.length:=hi;have hll:(zI (List.replicate i (-1)++List.replicate (p.vars.length-i) 0)).length=p.vars.length:=(by rw[za];simp;omega);have hset:(zI (List.replicate i (-1)++List.replicate (p.vars.length-i) 0)).set i (.int .i64 (-1))=zI (List.replicate (i+1) (-1)++List.replicate (p.vars.length-(i+1)) 0):=by
      rw[yz,qrh _ _ (by simp)];have:p.vars.length-i=(p.vars.length-(i+1))+1:=by omega
      rw[this,qrY];simp[qsI]
     simp[-getElem?_pos,e3,e18,e19,hi',hi1,hll,hset,hw1];exact hR _ _ ⟨by simp[e1],by simp[e3],by simp[e18],by simp,rfl⟩
   . rintro ev U ⟨e1,e3,e18,e19,rfl⟩;rw[qro,qtc,qqV];have hL0:(kJ p.vars []).1=List.replicate p.vars.length (-1):=rfl;rw[<- hL0];simp[-getElem?_pos,e1,e18,e19];refine qX.listR p.groups (fun dn ev U=>ev 1=.ptr 0 0/\ev 3=.ms 1 0 p.vars.length 1/\ev 5=.int .i64 (kJ p.vars dn.flatten).2/\ev 27=.sl 1 (p.groups.map zG) .none/\ev 28=.int .i64 p.groups.length/\ev 29=.int .i64 dn.length/\U=⟨[.cells (qE p),.cells (zI (kJ p.vars dn.flatten).1)],[]⟩) ?_ ?_ ?_
     . exact⟨by simp[e1],by simp[e3],by simp[kJ],by simp,by simp,by simp,rfl⟩
     . rintro dn g rest ev U R hR hd hx hlt ⟨e1,e3,e5,e27,e28,e29,rfl⟩;have hdw:=wr (n:=(dn.length:Int)+1) (by omega) (by omega);have hlt':(dn.length:Int)<p.groups.length:=(by omega);have hgm:=qqd hx;have hgfit:=hgf g hgm;simp[-getElem?_pos,e27,e28,e29,hlt',hx];refine qX.listR g (fun dg ev U=>ev 1=.ptr 0 0/\ev 3=.ms 1 0 p.vars.length 1/\ev 5=.int .i64 (kJ p.vars (dn.flatten++dg)).2/\ev 27=.sl 1 (p.groups.map zG) .none/\ev 28=.int .i64 p.groups.length/\ev 29=.int .i64 dn.length/\ev 33=.sl 1 (g.map qt) .none/\ev 34=.int .i64 g.length/\ev 35=.int .i64 dg.length/\U=⟨[.cells (qE p),.cells (zI (kJ p.vars (dn.flatten++dg)).1)],[]⟩) ?_ ?_ ?_
       . exact⟨by simp[e1],by simp[e3],by simp[e5],by simp[e27],by simp[e28],by simp[e29],by simp,by simp,by simp,by simp⟩
       . rintro dg v rest2 ev U R2 hR2 hd2 hx2 hlt2 ⟨e1,e3,e5,e27,e28,e29,e33,e34,e35,rfl⟩;have hm:v∈p.groups.flatten:=qqM.2 ⟨g,hgm,qqd hx2⟩;obtain⟨n,vr,rfl,hn,_⟩:=Yn (hg.2.1 v hm);have hnl:=(qqc.1 hn).1;have hdw2:=wr (n:=(dg.length:Int)+1) (by unfold Fits at hgfit;omega) (by unfold Fits at hgfit;omega);have hlt2':(dg.length:Int)<g.length:=(by omega);have hwv:=hw vr (qqd hn);have hpre:(dn.flatten++dg).length<=1000:=by
          have:(dn.flatten++dg).length<=p.groups.flatten.length:=by
           rw[hd,hd2];simp
          omega
         have hnx:=qfN hw (dn.flatten++dg);have hww:=wr (n:=(kJ p.vars (dn.flatten++dg)).2+vr.width) (by omega) (by omega);have hs:=Wj p.vars (dn.flatten++dg) (n:Int);have hln:=QZ p.vars (dn.flatten++dg);have hwa:zF p.vars n=vr.width:=(by simp[zF,hn]);simp only[wU,qqT,hwa]at hs;rw[qqI]at hs;generalize hQ:kJ p.vars (dn.flatten++dg)=q at *;obtain⟨L,nx⟩:=q;simp only at *;have hll:(zI L).length=p.vars.length:=(by rw[za,hln]);have hn1:n+1<=p.vars.length:=hnl;have hn0:(n:Int)<p.vars.length:=(by omega);simp[-getElem?_pos,e1,e3,e5,e33,e34,e35,hlt2',hx2,hll,hn1,hn0,hn,yz,hww,hdw2];exact hR2 _ _ ⟨by simp[e1],by simp[e3],by simp[hs],by simp[e27],by simp[e28],by simp[e29],by simp[e33],by simp[e34],by simp,by simp[hs]⟩
       . rintro ev U ⟨e1,e3,e5,e27,e28,e29,e33,e34,e35,rfl⟩;simp[-getElem?_pos,e29,e34,e35,hdw];exact hR _ _ ⟨by simp[e1],by simp[e3],by simp[e5],by simp[e27],by simp[e28],by simp,by simp⟩
     . rintro ev U ⟨e1,e3,e5,e27,e28,e29,rfl⟩;have hLL:(kJ p.vars p.groups.flatten).1=LV:=hLV.symm;have hln:=QZ p.vars p.groups.flatten;rw[hLL]at hln ⊢;simp[-getElem?_pos,e3,e28,e29];have hne2:LV≠[]:=fun e=>by rw[e]at hln;simp at hln;omega
       have ho:js 1 1 qt [.cells (qE p),.cells (zI LV)] (.ms 1 0 p.vars.length 1) LV:=.inr ⟨hne2,by rw[hln],by rw[wm];rfl⟩;exact⟨ho.frzNo (fun x=>by simp) (fun x=>by simp) (fun x=>by simp) 7,ho.frz (fun x=>by simp) (fun x=>by simp) (fun x=>by simp) 7⟩
theorem yY {p:Problem}(h:qj p=0):(p.vars.map (·.name)).Nodup:=by
 have hv:zV p.vars=0:=by
  unfold qj at h;split at h
  . exact absurd h (by assumption)
  . rename_i h1;exact qqY.1 h1
 have hd:qns p.vars=false:=by
  unfold zV at hv;split at hv
  . cases hv
  . split at hv
    . rename_i h1;exact absurd hv h1
    . split at hv
      . cases hv
      . rename_i h1;simpa using h1
 unfold qns at hd;rw[qrD]at hd;refine qr6.2 fun i j hi hj hij e=>?_
 simp only[qqS]at hi hj;rw[qrB,qrB]at e;have:=hd j (qri.2 hj);unfold vK at this;rw[qqe hj]at this;simp only[vH,qqF]at this;exact this ⟨p.vars[i],by rw[qtp];exact⟨i,by omega,rfl⟩,by simpa using e⟩
theorem qag {vs:List Var}{m:Nat}{U:St}(hm:U.H[m]?=some (wR vs))(hn:(vs.map (·.name)).Nodup){i:Nat}{v:Var}(hv:vs[i]?=some v):zm (Dof Tryz.prog) U 210 (.map m) (.str v.name) true=some (.tup [.int .i64 (i:Int),.bool true]):=by
 have:=qdt hn hv 0;unfold wR at hm;generalize (vl vs).map Z0=E at *;simp[zm,hm,zw,this]
theorem qn4 (p:Problem)(e:Ex)(hn:(p.vars.map (·.name)).Nodup)(hk:zi p.vars e=0)(ht:JT e){H:List Blk}{M:Nat}(hM:H[M]?=some (wR p.vars))(T:List (Option Nat)) :
 qf Tryz.prog GG 202 [.map M,.agg (qr e)] ⟨H,T⟩ (fun r U'=>r=.int .i64 0/\KpL [] H U'.H):=by
 refine qf.k qe Tryz.func202 rfl (by kernel_rfl) ?_;have ha:=vO e ht.1 ht.2.2;have hna:=QW e ht.1 ht.2.2;have he:zf e=0/\Jf e=false/\Qw p.vars e=false:=by
  unfold zi at hk;split at hk
  . rename_i h;exact absurd hk h
  . rename_i h;split at hk
    . cases hk
    . split at hk
      . cases hk
      . rename_i h2 h3;exact⟨qqY.1 h,by simpa using h2,by simpa using h3⟩
 have h0:zD [3,24] e=[]:=by
  have:=Qa (e:=e);rw[he.2.1]at this
  cases hl:zD [3,24] e with
  | nil=>rfl
  | cons a r=>rw[hl]at this;simp at this
 have hall:∀ s∈zD [2] e,∃ (i:Nat) (v:Var),p.vars[i]?=some v/\v.name=s:=fun s hs=>by
  have:=vW (l:=p.vars) (e:=e);rw[he.2.2,qrD]at this;have h1:=this s hs;simp only[qrv,Bool.not_eq_false,vH,qqF]at h1;obtain⟨v,hv,hvn⟩:=h1;obtain⟨i,hi⟩:=qqN hv;exact⟨i,v,hi,by simpa using hvn⟩
 have hfit:(zD [2] e).length<=100000:=YF ht.2.2;rw[h0]at ha;have henc:=qd e;rw[henc]at ha hna ⊢;generalize zD [2] e=N at *;simp[-getElem?_pos];refine qc.call ha (by simp) ?_;simp[-getElem?_pos];refine qc.call hna (by simp) ?_;simp[-getElem?_pos];refine qX.listR N (fun d ev U=>ev 0=.map M/\ev 14=.sl 1 (N.map zZ) .none/\ev 15=.int .i64 N.length/\ev 16=.int .i64 d.length/\KpL [] H U.H) ?_ ?_ ?_
 . exact⟨by simp,by simp,by simp,by simp,KpL.app⟩
 . rintro d s rest ev ⟨H1,T1⟩ R hR hd hx hlt ⟨e0,e14,e15,e16,hkp⟩;dsimp only at hkp;obtain⟨i,v,hi,hvn⟩:=hall s (qqd hx);have hl:=qag (U:=⟨H1,T1⟩) (hkp.2 _ _ hM (by simp)) hn hi;rw[hvn]at hl;have hdw:=wr (n:=(d.length:Int)+1) (by omega) (by omega);have hlt':(d.length:Int)<N.length:=(by omega);simp[-getElem?_pos,e0,e14,e15,e16,hlt,hlt',hx,hl,hdw];exact hR _ _ ⟨by simp[e0],by simp[e14],by simp[e15],by simp,hkp⟩
 . rintro ev ⟨H1,T1⟩ ⟨e0,e14,e15,e16,hkp⟩;simp[-getElem?_pos,e15,e16];exact hkp
def qkI:List (Nat×Sch×List Nat):=[(7,.step 0 [7,3,2,1] (.step 1 [7,3,2] (.step 2 [7,3] (.step 3 [7] (.step 4 [7,5] (.step 5 [7] (.step 6 [7] (.step 7 [] (.done)))))))),[]),(9,.step 0 [8,7] (.step 1 [8,7,6,4,3,2] (.step 2 [8,7,6,4,3] (.step 3 [8,7,6,4] (.step 4 [8,7,6] (.step 5 [8,7,6] (.step 6 [8,7] (.step 7 [8] (.step 8 [] (.done))))))))),[6])]
def BldQ (d:List Nd)(p:Problem)(H:List Blk)(r:AV)(U':St):Prop :=
 ∃ B M,r=.tup [.ptr B 0,.int .i64 0]/\H.length<=B/\H.length<=M/\M≠B/\KpL [] H U'.H/\U'.H[B]?=some (.cells (.sl 3 (d.map qw) .none::(qE p++[.sl 1 ((qB p).map qt) .none,.map M])))/\U'.H[M]?=some (wR p.vars)
theorem qe9 {vs:List Var}{i:Nat}{v:Var}(hv:vs[i]?=some v):vl (vs.take (i+1))=vl (vs.take i)++[(v.name,.int .i64 (i:Int),i)]:=by
 have hl:=(qqc.1 hv).1;unfold vl;rw[qqH,hv];simp[qsV,qrF (qtU hl)]
theorem qjW {vs:List Var}(hn:(vs.map (·.name)).Nodup){i:Nat}{v:Var}(hv:vs[i]?=some v)(k:Nat):jy (.str v.name) ((vl (vs.take i)).map Z0) k=some none:=by
 have hl:=(qqc.1 hv).1;rcases QI (s:=v.name) (vl (vs.take i)) k with ⟨h1,_⟩|⟨j,q,h1,h2,_⟩
 . exact h1
 . exfalso;obtain⟨w,hw,rfl⟩:=qdu h1;rw[qq2]at hw;split at hw
   . rename_i hj;obtain⟨hj1,hj2⟩:=qqc.1 hw;obtain⟨_,hi2⟩:=qqc.1 hv;have hp:=qr6.1 hn;have h2:w.name=v.name:=h2;exact hp j i (by simpa using hj1) (by simpa using hl) hj (by rw[qrB,qrB,hj2,hi2,h2])
   . cases hw
theorem qkb (d:List Nd)(hd:DagOk d)(p:Problem)(h:VQ p)(hv:qj p=0)(e:Ex)(hk:zi p.vars e=0)(ht:JT e)(H:List Blk)(T:List (Option Nat)) :
 qf Tryz.prog GG 157 [.agg (zt d),.agg (qE p),.agg (qr e)] ⟨H,T⟩ (BldQ d p H):=by
 refine qf.kO ⟨false,qkI,[],[]⟩ qe Tryz.func157 rfl (by kernel_rfl) ?_;have hdv:=Y8 d hd;have hpv:=yv p h;have hev:=J2 e ht.1 (by have:=ht.2.1;omega);have hlv:=qbX p h hv;have hn:=yY hv;have he:zf e=0:=by
  unfold zi at hk;split at hk
  . rename_i h;exact absurd hk h
  . rename_i h;exact qqY.1 h
 have hvl:=h.vars;have huse:=fun H M (hM:H[M]?=some (wR p.vars)) T=>qn4 p e hn hk ht hM T
 rw[hv]at hpv;rw[he]at hev;generalize hLV:qB p=LV at *;rw[qd e]at hev huse ⊢;simp only[zt]at hdv;simp only[qE]at hpv hlv;simp[-getElem?_pos];refine qc.call hdv (by simp) ?_;simp[-getElem?_pos,unA];refine qc.call hpv (by simp) ?_;simp[-getElem?_pos];refine qc.call hev (by simp) ?_;simp[-getElem?_pos];rw[Zv (by rfl)];simp[-getElem?_pos];refine qc.call hlv (by simp) ?_;simp[-getElem?_pos,zn,zS,qF];refine qX.listR p.vars (fun dn ev U=>ev 4=.ptr (H.length+1) 0/\ev 5=.ptr (H.length+2) 0/\ev 8=.ptr (H.length+4) 0/\ev 32=.sl 4 (p.vars.map qA) .none/\ev 33=.int .i64 p.vars.length/\ev 34=.int .i64 dn.length /\
  KpL [] H U.H/\U.H[H.length+1]?=some (.cells (qE p))/\U.H[H.length+2]?=some (.cells [.int .i64 e.op,.int .i64 e.n,.str e.name,.sl 4 (e.args.map qr) .none])/\U.H[H.length+3]?=some (.map ((vl (p.vars.take dn.length)).map Z0) dn.length) /\
  U.H[H.length+4]?=some (.cells (.sl 3 (d.map qw) .none::(qE p++[.sl 1 (LV.map qt) .none,.map (H.length+3)])))) ?_ ?_ ?_
 . refine⟨by simp,by simp,by simp,by simp,by simp,by simp,KpL.app,?_,?_,?_,?_⟩
   . exact lk1
   . exact lk2
   . exact lk3
   . exact lk4
 . rintro dn v rest ev ⟨H1,T1⟩ R hR hd hx hlt ⟨e4,e5,e8,e32,e33,e34,hkp,bP,bE,bM,bB⟩;dsimp only at hkp bP bE bM bB;have hdw:=wr (n:=(dn.length:Int)+1) (by omega) (by omega);have hlt':(dn.length:Int)<p.vars.length:=(by omega);have hf:=qjW hn hx 0;have ht1:=qe9 hx;have hMl:=(qqc.1 bM).1;have hup:∀ (u:List Blk) (T:List (Option Nat)),qZ (Dof Tryz.prog) ⟨H1++u,T⟩ 210 (.map (H.length+3)) (.str v.name) (.int .i64 (dn.length:Int))=some ⟨H1.set (H.length+3) (.map ((vl (p.vars.take (dn.length+1))).map Z0) (dn.length+1))++u,T⟩:=fun u T=>by
    rw[ht1,qrb];generalize (vl (p.vars.take dn.length)).map Z0=E at *;simp[qZ,qa bM,zw,hf,yQ bM,Z0]
   generalize hE2:(vl (p.vars.take (dn.length+1))).map Z0=E2 at *;simp only[qE,qqz,qqw]at bB;simp[-getElem?_pos,e4,e5,e8,e32,e33,e34,hlt,hlt',hx];rw[qG rfl];simp[-getElem?_pos,qN,e4,e5,e8,e32,e33,e34,qa bB,hup,hdw];refine hR _ _ ⟨by simp[e4],by simp[e5],by simp[e8],by simp[e32],by simp[e33],by simp,(hkp.setF (by omega)).trans KpL.app,qa (by rw[qqf (by omega)];exact bP) _,qa (by rw[qqf (by omega)];exact bE) _,?_,qa (by rw[qqf (by omega)];exact bB) _⟩;rw[qqg,qqK,hE2];exact qa (qqh hMl) _
 . rintro ev ⟨H1,T1⟩ ⟨e4,e5,e8,e32,e33,e34,hkp,bP,bE,bM,bB⟩;dsimp only at hkp bP bE bM bB;rw[qsf]at bM;have bM':H1[H.length+3]?=some (wR p.vars):=bM;have bB':=bB;simp only[qE,qqz,qqw]at bB;simp[-getElem?_pos,e4,e5,e8,e32,e33,e34];rw[qG rfl];simp[-getElem?_pos,qN,e4,e5,e8,e32,e33,e34,bB,bE];refine qc.acall (huse H1 (H.length+3) bM' T1) ?_;rintro v ⟨H2,T2⟩ ⟨rfl,hk2⟩;dsimp only at hk2;simp[-getElem?_pos,qN,e8];exact⟨H.length+4,H.length+3,rfl,by omega,by omega,by omega,hkp.trans hk2,by rw[hLV];exact hk2.2 _ _ bB' (by simp),hk2.2 _ _ bM' (by simp)⟩
def yO (vs:List Var)(l:List Int):Int:=(l.map fun i=>zF vs i.toNat).sum
theorem KQ (vs:List Var)(l:List Int)(i:Int):yO vs (l++[i])=yO vs l+zF vs i.toNat:=by simp[yO]
theorem Zk {vs:List Var}(hw:∀ v∈vs,0<=v.width)(n:Nat):0<=zF vs n:=by
 unfold zF;split
 . rename_i v hv;exact hw v (qqd hv)
 . omega
theorem JB {vs:List Var}(hw:∀ v∈vs,0<=v.width):∀ l:List Int,0<=yO vs l
 | []=>by simp[yO]
 | a::r=>by
  have:=JB hw r;have:=Zk hw a.toNat;simp only[yO,qqp,qsj]at *;omega
theorem qap (vs:List Var)(l m:List Int):yO vs (l++m)=yO vs l+yO vs m:=by simp[yO]
theorem KP {vs:List Var}(hw:∀ v∈vs,0<=v.width)(l:List Int)(k:Nat):yO vs (l.take k)<=yO vs l:=by
 have h1:=qap vs (l.take k) (l.drop k);rw[qq8]at h1;have:=JB hw (l.drop k);omega
theorem qeg {vs:List Var}{l:List Int}(hl:∀ i∈l,∃ n:Nat,i=n/\n<vs.length)(hnd:l.Nodup):∀ m,m<=l.length->(kJ vs (l.take m)).2=yO vs (l.take m)/\∀ k (i:Int),k<m->l[k]?=some i->(kJ vs (l.take m)).1[i.toNat]?=some (yO vs (l.take k))
 | 0,_=>⟨by simp[kJ,yO],fun k i h=>by omega⟩
 | m+1,hm=>by
  obtain⟨ih1,ih2⟩:=qeg hl hnd m (by omega);obtain⟨j,hj⟩:∃ j,l[m]?=some j:=⟨_,qqe (by omega)⟩;have ht:l.take (m+1)=l.take m++[j]:=by rw[qqH,hj];rfl
  obtain⟨n,rfl,hn⟩:=hl j (qqd hj);have hlen:=QZ vs (l.take m);rw[ht,Wj,KQ];refine⟨by simp only[wU,ih1],fun k i hk hi=>?_⟩;simp only[wU,qqT];by_cases hkm:k=m
  . subst hkm;rw[hj]at hi;cases hi;rw[qqT,qqh (by omega),ih1]
  . obtain⟨n2,rfl,hn2⟩:=hl i (qqd hi);have hne:n≠n2:=by
     rintro rfl;have hp:=qr6.1 hnd;obtain⟨a1,a2⟩:=qqc.1 hj;obtain⟨b1,b2⟩:=qqc.1 hi;exact hp k m b1 a1 (by omega) (by rw[a2,b2])
    rw[qqT,qqf hne];exact ih2 k _ (by omega) hi
theorem qan {f:Int->Int}:∀ {l:List Int} {a:Int},a∈l->((l.erase a).map f).sum+f a=(l.map f).sum
 | x::r,a,h=>by
  rw[List.erase_cons];split
  . rename_i hx;have:x=a:=by simpa using hx
    subst this;simp;omega
  . rename_i hx;have hx:¬ x=a:=(by simpa using hx);have h2:a∈r:=(qqE.1 h).resolve_left (Ne.symm hx);have:=qan (f:=f) h2;simp;omega
theorem qcj {f:Int->Int}(hf:∀ i,0<=f i):∀ (n:Nat) (l:List Int),l.Nodup->(∀ x∈l,0<=x/\x<n)->(l.map f).sum<=((List.range n).map fun k:Nat=>f k).sum
 | 0,l,_,h=>by
  cases l with
  | nil=>simp
  | cons a r=>have:=h a (by simp);omega
 | n+1,l,hn,h=>by
  rw[qrG,qrb,List.sum_append];simp only[qqp,qqU,qsj,qtV];by_cases hm:(n:Int)∈l
  . have h1:=qcj hf n (l.erase (n:Int)) (hn.erase _) fun x hx=>by
     have h2:=(hn.mem_erase_iff).1 hx;have:=h x h2.2;omega
    have:=qan (f:=f) hm;omega
  . have h1:=qcj hf n l hn fun x hx=>by
     have:=h x hx;have h2:x≠(n:Int):=fun e=>hm (e▸hx)
     omega
    have:=hf n;omega
def qok (vs:List Var)(i:Int):Int:=if yi vs i=true then zF vs i.toNat else 0
theorem qja:∀ (vs:List Var),((List.range vs.length).map fun k:Nat=>qok vs k).sum=j6 vs:=by
 have gen:∀ (vs pre:List Var),((List.range' pre.length vs.length).map fun k:Nat=>qok (pre++vs) k).sum=j6 vs:=by
  intro vs
  induction vs with
  | nil=>intro pre;rfl
  | cons v r ih=>
   intro pre;have:=ih (pre++[v]);rw[qqI,qr3,qqg,qqK]at this;rw[qqs,qrt,qqp,qsj,this];simp only[j6];congr 1;have h1:(pre++v::r)[pre.length]?=some v:=(by rw[qql (qqn _),qro];rfl);simp only[qok,yi,zF,qqT,h1];by_cases hm:v.mode=0<;>simp[hm]
 intro vs;have:=gen vs []
 rwa[qq0,<- qrr,qqw]at this
theorem qfc {p:Problem}(h:qj p=0):j6 p.vars<=20:=by
 have hv:zV p.vars=0:=by
  unfold qj at h;split at h
  . exact absurd h (by assumption)
  . rename_i h1;exact qqY.1 h1
 unfold zV at hv;split at hv
 . cases hv
 . split at hv
   . rename_i h1;exact absurd hv h1
   . split at hv
     . cases hv
     . split at hv
       . cases hv
       . split at hv
         . cases hv
         . omega
theorem JJ {p:Problem}(h:qj p=0):∀ i∈p.groups.flatten,∃ n:Nat,i=n/\n<p.vars.length:=fun i hi=>by
 obtain⟨n,v,rfl,hn,_⟩:=Yn ((jN h).2.1 i hi);exact⟨n,rfl,(qqc.1 hn).1⟩
theorem vP {p:Problem}(h:qj p=0):∀ v∈p.vars,0<=v.width:=fun v hm=>by have:=zd (jl h v hm);omega
theorem YV {p:Problem}(h:qj p=0):yO p.vars p.groups.flatten<=20:=by
 have h1:=qcj (f:=qok p.vars) (fun i=>by unfold qok;split;exact Zk (vP h) _;omega) p.vars.length p.groups.flatten (jN h).2.2.1 (fun i hi=>by
  obtain⟨n,rfl,hn⟩:=JJ h i hi;omega)
 rw[qja]at h1;have h2:=qfc h;have h3:(p.groups.flatten.map (qok p.vars)).sum=yO p.vars p.groups.flatten:=by
  unfold yO;congr 1;exact qrk fun i hi=>by unfold qok;rw[if_pos ((jN h).2.1 i hi)]
 omega
theorem yV (p:Problem):(qB p).length=p.vars.length:=QZ p.vars _
theorem YH {p:Problem}(h:qj p=0){k:Nat}{n:Nat}(hk:p.groups.flatten[k]?=some (n:Int)):(qB p)[n]?=some (yO p.vars (p.groups.flatten.take k)):=by
 have h1:=(qeg (JJ h) (jN h).2.2.1 p.groups.flatten.length (qqn _)).2 k _ (qqc.1 hk).1 hk;rw[qsf,qqT]at h1;exact h1
theorem qhh {p:Problem}(h:qj p=0){n:Nat}{v:Var}(hv:p.vars[n]?=some v)(hm:v.mode≠0):∃ k:Nat,p.groups.flatten[k]?=some (n:Int):=by
 have:=(jN h).2.2.2 n (qqc.1 hv).1 (by simp[yi,hv,hm]);exact qqN this
theorem qhV {p:Problem}(h:qj p=0):∀ (i:Nat) (v:Var) (l:Int),p.vars[i]?=some v->(qB p)[i]?=some l->v.mode≠0->0<=l/\l+v.width<=20:=fun i v l hv hl hm=>by
 obtain⟨k,hk⟩:=qhh h hv hm;have h1:=YH h hk;rw[hl]at h1;cases h1;have h2:=JB (vP h) (p.groups.flatten.take k);have h3:=KP (vP h) p.groups.flatten (k+1);have h4:p.groups.flatten.take (k+1)=p.groups.flatten.take k++[(i:Int)]:=by rw[qqH,hk];rfl
 rw[h4,KQ]at h3;have h5:zF p.vars (i:Int).toNat=v.width:=by simp[zF,hv]
 have h6:=YV h;omega
end Go.Proofs.YtkpkjbchlabaaaaGreatDoor
end
