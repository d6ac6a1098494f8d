/- A part of the proof. -/
import Derived.Test.YtkpkjbchlabaaaaGreatDoorSa33
set_option maxHeartbeats 16000000
set_option linter.unusedVariables false
set_option linter.unusedSimpArgs false
set_option maxRecDepth 100000
set_option linter.defProp false
section
namespace Go.Proofs.YtkpkjbchlabaaaaGreatDoor
open Go Go.Abs
def NedM (p:Problem)(H:List Blk)(r:AV)(U':St):Prop:=KpL [] H U'.H/\((zM p=[]/\r=.sl 4 [] .tight)\/∃ b,zM p≠[]/\r=.ms b 0 (zM p).length 4/\U'.H[b]?=some (.cells ((zM p).flatMap qr))/\H.length<=b)
theorem lk1b {α:Type}{H:List α}{p q:α}:(H++[p,q])[H.length+1]?=some q:=by rw[qql (by omega),qq7];rfl
theorem sl_msB (b N k:Nat)(h:k<N):zq (.ms b 0 N 4) (some (.int .i64 (k:Int))) none none=some (.ms b (k*4) (N-k) 4):=by
 show (if (0:Int)<=k/\(k:Int)<=N/\(N:Int)<=N/\((k:Int)=0\/(k:Int)<N) then some (AV.ms b (0+(k:Int).toNat*4) ((N:Int).toNat-(k:Int).toNat) 4) else if (k:Int)=N/\(N:Int)=N then some (.sl 4 [] .none) else none)=_;rw[if_pos ⟨by omega,by omega,by omega,by omega⟩];simp
theorem qod (b N:Nat)(h:0<N):zq (.ms b 0 N 4) (some (.int .i64 (N:Int))) none none=some (.sl 4 [] .none):=by
 show (if (0:Int)<=N/\(N:Int)<=N/\(N:Int)<=N/\((N:Int)=0\/(N:Int)<N) then some (AV.ms b (0+(N:Int).toNat*4) ((N:Int).toNat-(N:Int).toNat) 4) else if (N:Int)=N/\(N:Int)=N then some (.sl 4 [] .none) else none)=_;rw[if_neg (by omega),if_pos ⟨rfl,rfl⟩]
theorem Wi (p:Problem)(h:VQ p)(hd:p.dists.length<=10000)(H:List Blk)(T:List (Option Nat)):qf Tryz.prog GG 62 [.agg (qE p)] ⟨H,T⟩ (NedM p H):=by
 refine qf.kO ⟨true,[],[],[]⟩ qe Tryz.func62 rfl (by kernel_rfl) ?_;have hs:=ZU p h hd;have hh:=h.hard;have hsl:(yn p).length<=10000:=by
  unfold yn;split
  . simp[vt,hd]
  . simp
 have hn:zM p=p.hard++yn p:=rfl;generalize yn p=S at *;obtain⟨Q,hQ⟩:∃ Q,Q=NedM p H:=⟨_,rfl⟩;rw[<- hQ];have fin0:p.hard++S=[]->∀ u T',Q (.sl 4 [] .tight) ⟨H++u,T'⟩:=fun he u T'=>by rw[hQ];exact⟨KpL.app,.inl ⟨by rw[hn,he],rfl⟩⟩
 have kN:p.hard++S≠[]->∀ (B0:Blk) (T':List (Option Nat)),Q (.ms (H.length+1) 0 (p.hard.length+S.length) 4) ⟨H++[B0,.cells ((p.hard++S).flatMap qr)],T'⟩:=fun he B0 T'=>by
  rw[hQ];refine⟨KpL.app,.inr ⟨H.length+1,by rw[hn];exact he,by rw[hn,qqg],?_,by omega⟩⟩;rw[hn];exact lk1b
 simp only[qE]at hs;have hw:=wr (n:=(p.hard.length:Int)+S.length) (by omega) (by omega);have h00:IntKind.i64.wrap 0=0:=by decide
 by_cases h0:p.hard=[]/\S=[]
 . obtain⟨h1,h2⟩:=h0;subst h2;have fin0:=fin0 (by rw[h1];rfl);rw[h1]at hs hw;simp[-getElem?_pos,h1];refine qc.call hs (by simp) ?_;simp[-getElem?_pos,h00,h1,mkX,qx,yJ,V5,zq,zU,kv,zY];exact fin0 _ _
 . have hpos:0<p.hard.length+S.length:=by
    rcases qrm (p.hard.length+S.length) with h|h
    . exact absurd ⟨qqv (by omega),qqv (by omega)⟩ h0
    . exact h
   have hne2:p.hard++S≠[]:=(by simpa using h0);have kN:=kN hne2;have hnz:¬ (p.hard.length:Int)+S.length=0:=(by omega);have hle:(p.hard.length:Int)+S.length<=549755813888:=(by omega);have hge:(0:Int)<=(p.hard.length:Int)+S.length:=(by omega);have htn:((p.hard.length:Int)+S.length).toNat=p.hard.length+S.length:=(by omega);have hmk:∀ U:St,mkX (Dof Tryz.prog) true U 23 (.int .i64 ((p.hard.length:Int)+S.length)) (.int .i64 ((p.hard.length:Int)+S.length))=none:=fun U=>by
    have:∀ z:Int,z≠0->mkX (Dof Tryz.prog) true U 23 (.int .i64 z) (.int .i64 z)=none:=fun z hz=>by
     unfold mkX;split
     . rename_i h1 _;simp at h1;exact absurd h1.2 hz
     . rfl
    exact this _ hnz
   obtain⟨Z,hZ⟩:∃ Z,Z=(List.replicate (p.hard.length+S.length) [AV.int .i64 0,.int .i64 0,.str [],.sl 0 [] .nil]).flatten:=⟨_,rfl⟩;have hZl:Z.length=(p.hard.length+S.length)*4:=(by rw[hZ];simp);have hAl:(p.hard.flatMap qr).length=p.hard.length*4:=Go.Abs.z9 (sz:=4) zc p.hard;have hBl:(S.flatMap qr).length=S.length*4:=Go.Abs.z9 (sz:=4) zc S;have hA:(p.hard.map qr).flatten=p.hard.flatMap qr:=(by rw[qr0]);have hB:(S.map qr).flatten=S.flatMap qr:=(by rw[qr0]);have htA:(p.hard.map qr).take p.hard.length=p.hard.map qr:=qqk (by simp);have htB:(S.map qr).take S.length=S.map qr:=qqk (by simp);have h2:=qaG (p.hard.flatMap qr) (S.flatMap qr) Z (by rw[hZl,hAl,hBl,qra]);rw[hAl,<- List.flatMap_append]at h2;have hZ1l:(zj Z 0 (p.hard.flatMap qr)).length=(p.hard.length+S.length)*4:=(by rw[Yr,hZl]);have la:∀ (B0 C:Blk),(H++[B0,C])[H.length+1]?=some C:=fun B0 C=>by rw[qql (by omega),qq7];rfl
   have ls:∀ (B0 C D:Blk),(H++[B0,C]).set (H.length+1) D=H++[B0,D]:=fun B0 C D=>by rw[qrh _ _ (by omega),qq7];rfl
   have hc1:∀ B0:Blk,yJ (Dof Tryz.prog) ⟨H++[B0,.cells Z],T⟩ 23 (.ms (H.length+1) 0 (p.hard.length+S.length) 4) (.sl 4 (p.hard.map qr) .none)=some (.int .i64 p.hard.length,⟨H++[B0,.cells (zj Z 0 (p.hard.flatMap qr))],T⟩):=fun B0=>by
    by_cases hh0:p.hard=[]
    . simp[yJ,V5,hh0,zj]
    . have hm:min p.hard.length (p.hard.length+S.length)=p.hard.length:=(by omega);have hl:p.hard.length*4<=(p.hard.length+S.length)*4:=(by omega);simp[yJ,V5,qmR,hm,hh0,htA,hA,hZl,hl,la,ls]
   by_cases hS0:S=[]
   . subst hS0;have hhp:0<p.hard.length:=(by simpa using hpos);have hsl2:=qod (H.length+1) p.hard.length hhp;have hpa:zj Z 0 (p.hard.flatMap qr)=p.hard.flatMap qr:=putAt_all _ _ (by rw[hZl,hAl];simp);rw[hpa]at hc1;simp only[qq0,qrl,qrn,Int.add_zero]at hw hnz hle hge htn hZ hc1 hmk;simp only[qqU]at hs;have hcz:∀ U:St,yJ (Dof Tryz.prog) U 23 (.sl 4 [] .none) (.sl 4 [] .none)=some (.int .i64 0,U):=fun U=>by simp[yJ,V5]
     have hhn:¬ p.hard=[]:=qqt.1 hhp;simp only[qqV,qq0,qrl]at kN;generalize p.hard.flatMap qr=FE at *;simp[-getElem?_pos];refine qc.call hs (by simp) ?_;simp[-getElem?_pos,hw,hnz,hle,hge,hhn,hmk,qx,<- hZ,hc1,hsl2,hcz];exact kN _ _
   . have hSp:=qqt.2 hS0;have hsl2:zq (.ms (H.length+1) 0 (p.hard.length+S.length) 4) (some (.int .i64 p.hard.length)) none none=some (.ms (H.length+1) (p.hard.length*4) S.length 4):=by
      have h3:p.hard.length+S.length-p.hard.length=S.length:=(by omega);rw[sl_msB _ _ _ (by omega),h3]
     have hc2:∀ B0:Blk,yJ (Dof Tryz.prog) ⟨H++[B0,.cells (zj Z 0 (p.hard.flatMap qr))],T⟩ 23 (.ms (H.length+1) (p.hard.length*4) S.length 4) (.sl 4 (S.map qr) .none)=some (.int .i64 S.length,⟨H++[B0,.cells ((p.hard++S).flatMap qr)],T⟩):=fun B0=>by
      have hl:p.hard.length*4+S.length*4<=(p.hard.length+S.length)*4:=(by omega);simp[yJ,V5,qmR,hS0,htB,hB,hZ1l,hl,-List.flatMap_append,h2,la,ls]
     have hlen:(p.hard++S).length=p.hard.length+S.length:=(by simp);generalize (p.hard++S).flatMap qr=FE at *;generalize zj Z 0 (p.hard.flatMap qr)=Z1 at *;generalize p.hard++S=PS at *;simp[-getElem?_pos];refine qc.call hs (by simp) ?_;simp[-getElem?_pos,hw,hnz,hle,hge,hmk,qx,htn,<- hZ,hc1,hsl2,hc2];exact kN hne2 _ _
theorem qeA {α:Type}{sz:Nat}{en:α->List AV}(hl:∀ x,(en x).length=sz):∀ {l:List α} {i:Nat} {v:α},l[i]?=some v->((l.flatMap en).drop (i*sz)).take sz=en v
 | [],i,v,h=>by simp at h
 | a::r,0,v,h=>by
  simp at h;subst h;rw[qqD,qrK,qrx,qre (by rw[hl];exact qqn _),qqk (by rw[hl];exact qqn _)]
 | a::r,i+1,v,h=>by
  have ih:=qeA hl (l:=r) (i:=i) (v:=v) (by simpa using h);have e:(i+1)*sz=sz+i*sz:=by rw[qso,qrZ]
  rw[qqD,e,qrP,qqO (by rw[hl];omega),hl,qqw,qq7,ih]
def qnH (b:Nat)(H:List Blk)(v:AV)(l:List Ex):Prop:=(l=[]/\v=.sl 4 [] .tight)\/(l≠[]/\v=.ms b 0 l.length 4/\H[b]?=some (.cells (l.flatMap qr)))
theorem qnH.append {b:Nat}{H:List Blk}{T:List (Option Nat)}{v:AV}{l:List Ex}(h:qnH b H v l)(x:Ex)(hl:l.length<=1000000) :
 ∃ H',zx (Dof Tryz.prog) ⟨H,T⟩ 23 23 v (.sl 4 [qr x] .tight)=some (.ms H.length 0 (l.length+1) 4,⟨H',T⟩)/\qnH H.length H' (.ms H.length 0 (l.length+1) 4) (l++[x])/\(∀ (k:Nat) (y:Blk),H[k]?=some y->(l=[]\/k≠b)->H'[k]?=some y)/\H.length<=H'.length:=by
 have hl4:=zc x;rcases h with ⟨rfl,rfl⟩|⟨hne,rfl,hb⟩
 . refine⟨H++[.cells (qr x)],?_,?_,fun k y hk _=>qa hk _,by simp⟩
   . simp[zx,jg,WV,qU]
   . exact .inr ⟨by simp,by simp,by simp⟩
 . have h1:l.length+1<=549755813888:=(by omega);have hfl:=Go.Abs.z9 (sz:=4) zc l;have ht:(l.flatMap qr).take (l.length*4)=l.flatMap qr:=qqk (by omega);have hle:l.length*4<=(l.flatMap qr).length:=(by omega);refine⟨H.set b .dead++[.cells (l.flatMap qr++qr x)],?_,?_,fun k y hk hkb=>?_,by simp⟩
   . rw[hfl]at hle;simp[zx,jg,WV,qU,hb,h1,ht,hfl]
   . exact .inr ⟨by simp,by simp,by simp⟩
   . exact qa (by rw[qqf (Ne.symm (hkb.resolve_left hne))];exact hk) _
theorem qnH.len {b:Nat}{H:List Blk}{v:AV}{l:List Ex}(h:qnH b H v l)(U:St):JG (Dof Tryz.prog) U 23 v=some (.int .i64 (l.length:Nat)):=by
 rcases h with ⟨rfl,rfl⟩|⟨_,rfl,_⟩<;>simp
theorem YL (vs:List Var):∀ (L:List (Int×Ex)) (R:List Ex),∀ q∈kK vs R L,q∈L
 | [],R,q,h=>by simp[kK]at h
 | x::r,R,q,h=>by
  unfold kK at h;split at h
  . rcases qqE.1 h with rfl|h
    . simp
    . exact qrJ _ (YL vs r _ q h)
  . exact qrJ _ (YL vs r _ q h)
theorem YM (vs:List Var):∀ (L:List (Int×Ex)) (R:List Ex),(kK vs R L).length<=L.length
 | [],R=>by simp[kK]
 | x::r,R=>by
  unfold kK;split
  . have:=YM vs r (R++[x.2]);simp;omega
  . have:=YM vs r R;simp;omega
theorem qkY {l:List Ex}{q:Int×Ex}(h:q∈Jq l):∃ k:Nat,q.1=k/\l[k]?=some q.2:=by
 obtain⟨k,hk⟩:=qqN h;obtain⟨_,h2,h3⟩:=qhC hk;exact⟨_,h2,h3⟩
theorem qh3 {p:Problem}{q:Int×Ex}(h:q∈Zt p):∃ k:Nat,q.1=k/\p.soft[k]?=some q.2:=qkY (YL _ _ _ q (by simpa[Zt] using h))
theorem qej (p:Problem):(Zt p).length<=p.soft.length:=by
 unfold Zt;rw[List.length_reverse];exact qq6 (YM _ _ _) (by rw[qec];exact qqn _)
noncomputable def qq (p:Problem):List Ex×Int :=
 if qj p=0 then (if jO p.vars (zM p)=true then (qhf p,0) else ([],11)) else ([],1)
theorem vR (p:Problem):(qq p).2=(wI p).2:=by
 unfold qq wI;split
 . split<;>rfl
 . rfl
theorem QN {p:Problem}(h:(wI p).2=0):qj p=0/\jO p.vars (zM p)=true/\qq p=(zM p++(Zt p).map (·.2),0)/\(wI p).1=(Zt p).map (·.1):=by
 unfold wI at h;split at h
 . rename_i hv;split at h
   . rename_i hs;have hn:zM p=qcG p:=by
      show p.hard++yn p=_;rw[yn,if_pos hv];rfl
     refine⟨hv,hs,?_,?_⟩
     . unfold qq qhf;rw[if_pos hv,if_pos hs,hn]
     . unfold wI Zt;rw[if_pos hv,if_pos hs,hn]
   . simp at h
 . simp at h
theorem qdm (p:Problem)(h:VQ p)(hv20:p.vars.length<=20)(hb:yP p.vars (qz p)<=18)(hd:p.dists.length<=10000)(hs5:p.soft.length<=10000) :
 Pure Tryz.prog GG 31 [.agg (qE p)] (.tup [.sl 4 ((qq p).1.map qr) .none,.int .i64 (qq p).2]):=by
 have hkp:=qjC p h hv20 hb hd hs5;by_cases he:(wI p).2=0
 case neg=>
  have hre:=vR p;have hr0:(qq p).1=[]:=by
   unfold qq wI at *;split
   . rename_i hv;split
     . rename_i hs;rw[if_pos hv,if_pos hs]at he;exact absurd rfl he
     . rfl
   . rfl
  rw[hr0,hre];refine Pure.kO o0 true qe Tryz.func31 rfl (by kernel_rfl) ?_;simp only[qE]at hkp;simp[-getElem?_pos];refine qc.call hkp (by simp) ?_;simp[-getElem?_pos,he];rw[qI (by simp)];exact⟨by simp,by simp[Leq,zu]⟩
 obtain⟨hv,hs,hrr,hk1⟩:=QN he;rw[hk1,he]at hkp;rw[hrr];dsimp only;have hkl:=qej p;have hka:=fun q (hq:q∈Zt p)=>qh3 hq
 generalize hKS:Zt p=KS at *;refine Pure.kO ⟨true,[],[],[]⟩ true qe Tryz.func31 rfl (by kernel_rfl) ?_;have hnd:=Wi p h hd [.cells (qE p)] [];have hknow:=QV h hv;have h1:=h.hard;have h2:(yn p).length<=10000:=by
  have:yn p=vt p:=if_pos hv;rw[this,vt,qqS];exact hd
 have hNl:(zM p).length<=20000:=by rw[zM,qqg];omega
 obtain⟨RES,hRES⟩:∃ RES,RES=zM p++KS.map (·.2):=⟨_,rfl⟩;have hRt:∀ e∈RES,(pre e).length<=100000:=fun e hm=>by
  rw[hRES]at hm;rcases qqA.1 hm with hm|hm
  . exact (hknow e (qq5 _ hm)).2.2.2
  . obtain⟨q,hq,rfl⟩:=qqG.1 hm;obtain⟨k,_,hk⟩:=hka q hq;exact (hknow q.2 (qrE _ (qqd hk))).2.2.2
 rw[<- hRES];simp only[qE]at hkp hnd;simp[-getElem?_pos];refine qc.call hkp (by simp) ?_;simp[-getElem?_pos];refine qc.acall hnd ?_;rintro v ⟨H1,T1⟩ ⟨hk,hr⟩;dsimp only at hk hr;have bP:H1[0]?=some (.cells (qE p)):=hk.2 0 _ (by simp[qE]) (by simp);obtain⟨b,ho,hb0⟩:∃ b,qnH b H1 v (zM p)/\b≠0:=by
  rcases hr with ⟨hn,rfl⟩|⟨b,hne,rfl,hb1,hb2⟩
  . exact⟨1,.inl ⟨hn,rfl⟩,by omega⟩
  . exact⟨b,.inr ⟨hne,rfl,hb1⟩,by simp at hb2;omega⟩
 clear hr hk;generalize zM p=N at *;simp[-getElem?_pos];refine qX.listR KS (fun d ev U=>ev 1=.ptr 0 0/\ev 20=.sl 1 (KS.map fun q=>[AV.int .i64 q.1]) .none/\ev 21=.int .i64 KS.length/\ev 22=.int .i64 d.length/\∃ H b T,U=⟨H,T⟩/\H[0]?=some (.cells (qE p))/\b≠0/\qnH b H (ev 6) (N++d.map (·.2))) ?_ ?_ ?_
 . refine⟨by simp,by simp,by simp,by simp,H1,b,T1,rfl,bP,hb0,by simpa using ho⟩
 . rintro d q rest ev U R hR hdl hx hlt ⟨e1,e20,e21,e22,H,b,T,rfl,bP,hb0,ho⟩;have hdw:=wr (n:=(d.length:Int)+1) (by omega) (by omega);have hlt':(d.length:Int)<KS.length:=(by omega);obtain⟨k,hk1,hk2⟩:=hka q (qqd hx);have hkl2:=(qqc.1 hk2).1;have hkl3:(k:Int)<p.soft.length:=(by omega);obtain⟨H',hap,ho',hkeep,hlen⟩:=ho.append (T:=T) q.2 (by rw[qqg,qqS];omega);have hHl:=(qqc.1 bP).1;have ha:=yh q.2;have hl4:=zc q.2;have htk:(qr q.2).take 4=qr q.2:=qqk (by rw[hl4];exact qqn _);have bP2:=hkeep 0 _ bP (by right;exact Ne.symm hb0);have hsn:N++(d++[q]).map (·.2)=N++d.map (·.2)++[q.2]:=(by simp);simp only[qE]at bP;generalize hv6:ev 6=v6 at *;simp[-getElem?_pos,-qQ,e1,e20,e21,e22,hlt',hx,hk1,hk2,bP,htk,ha,hl4,qk,qu,hap,hv6,hdw];refine hR _ _ ⟨by simp[e1],by simp[e20],by simp[e21],by simp,H',H.length,T,rfl,bP2,by omega,?_⟩;rw[hsn];simpa using ho'
 . rintro ev U ⟨e1,e20,e21,e22,H,b,T,rfl,bP,hb0,ho⟩;rw[<- hRES]at ho;have hlen:=ho.len ⟨H,T⟩;have hRl:RES.length<=1000000:=(by rw[hRES,qqg,qqS];omega);generalize hv6:ev 6=v6 at *;simp[-getElem?_pos,-JG,e21,e22,hv6,hlen];refine qX.listR RES (fun d ev U=>ev 6=v6/\ev 36=.int .i64 RES.length/\ev 37=.int .i64 d.length/\∃ H T,U=⟨H,T⟩/\qnH b H v6 RES) ?_ ?_ ?_
   . exact⟨by simp[hv6],by simp,by simp,H,T,rfl,ho⟩
   . rintro d x rest ev U R hR hdl hx hlt ⟨e6,e36,e37,H,T,rfl,ho⟩;have hdw:=wr (n:=(d.length:Int)+1) (by omega) (by omega);have hlt':(d.length:Int)<RES.length:=(by omega);have hcp:=qiQ x (hRt x (qqd hx));rcases ho with ⟨h0,_⟩|⟨hne,rfl,hbk⟩
     . rw[h0]at hx;simp at hx
     have hfl:=Go.Abs.z9 (sz:=4) zc RES;have hl4:=zc x;have ha:=yh x;have hput:zj (RES.flatMap qr) (d.length*4) (qr x)=RES.flatMap qr:=by
      rw[vS zc RES d.length x hlt];have:RES.set d.length x=RES:=by
       apply qq3;intro j;by_cases hj:d.length=j
       . subst hj;rw[qqh hlt,hx]
       . rw[qqf hj]
      rw[this]
     have hcut:((RES.flatMap qr).drop (d.length*4)).take 4=qr x:=qeA zc hx;have hfit:d.length*4+4<=RES.length*4:=(by omega);have hset:H.set b (.cells (RES.flatMap qr))=H:=by
      apply qq3;intro j;by_cases hj:b=j
      . subst hj;rw[qqh (qqc.1 hbk).1,hbk]
      . rw[qqf hj]
     generalize hFF:RES.flatMap qr=F at *;simp[-getElem?_pos,-qQ,e6,e36,e37,hlt',hbk,hfl,hfit,hcut];refine qc.call hcp (by simp) ?_;simp[-getElem?_pos,-qQ,e37,hlt',hbk,hfl,hfit,hl4,ha,hput,hset,hdw];exact hR _ _ ⟨by simp[e6],by simp[e36],by simp,H,T,rfl,.inr ⟨hne,rfl,by rw[hFF];exact hbk⟩⟩
   . rintro ev U ⟨e6,e36,e37,H,T,rfl,ho⟩;simp[-getElem?_pos,e6,e36,e37];rcases ho with ⟨h0,rfl⟩|⟨hne,rfl,hbk⟩
     . rw[h0];have hf:frz H 7 (.sl 4 [] .tight)=.sl 4 [] .tight:=qI rfl;exact Q4 (by rw[hf];rfl) (by rw[hf];simp[Leq]) (by simp[Leq])
     . have hoo:js b 4 qr H (.ms b 0 RES.length 4) RES:=.inr ⟨hne,rfl,hbk⟩;exact Q4 (hoo.frzNo zc (fun x=>nrE x) yA 6) (hoo.frz zc (fun x=>nrE x) yA 6) (by simp)
def RulU (l:List Ex)(H:List Blk)(r:AV)(U':St):Prop:=∃ tok,r=.tup [.sl 4 (l.map qr) tok,.int .i64 0]/\(l≠[]\/tok=.tight)/\KpL [] H U'.H
theorem qmz (p:Problem)(h:VQ p)(hv20:p.vars.length<=20)(hb:yP p.vars (qz p)<=18)(hd:p.dists.length<=10000)(hs5:p.soft.length<=10000)(he:(qq p).2=0)(H:List Blk)(T:List (Option Nat)) :
 qf Tryz.prog GG 31 [.agg (qE p)] ⟨H,T⟩ (RulU (qq p).1 H):=by
 by_cases hR:(qq p).1=[]
 case neg=>
  refine qf.call (qdm p h hv20 hb hd hs5) (by simp) ?_;rw[he];exact⟨.none,rfl,.inl hR,KpL.refl⟩
 have hkp:=qjC p h hv20 hb hd hs5;rw[vR]at he;obtain⟨hv,hs,hrr,hk1⟩:=QN he;rw[hrr]at hR;have hR:zM p=[]/\Zt p=[]:=by simpa using hR
 rw[hrr,hR.1,hR.2];rw[hk1,he,hR.2]at hkp;have hnd:=fun H T=>Wi p h hd H T
 refine qf.kO ⟨true,[],[],[]⟩ qe Tryz.func31 rfl (by kernel_rfl) ?_;simp only[qE]at hkp hnd;simp[-getElem?_pos];refine qc.call hkp (by simp) ?_;simp[-getElem?_pos];refine qc.acall (hnd _ _) ?_;rintro v ⟨H1,T1⟩ ⟨hk,hr⟩;dsimp only at hk;rcases hr with ⟨_,rfl⟩|⟨b,hne,_⟩
 case inr=>exact absurd hR.1 hne
 simp[-getElem?_pos];refine qX.gen (fun m ev U=>ev 6=.sl 4 [] .tight/\ev 21=.int .i64 0/\ev 22=.int .i64 0/\KpL [] H U.H) 0 ⟨by simp,by simp,by simp,KpL.app.trans hk⟩ ?_;rintro m ev ⟨H2,T2⟩ R hRR ⟨e6,e21,e22,hk2⟩;simp[-getElem?_pos,e6,e21,e22];refine qX.gen (fun m ev U=>ev 6=.sl 4 [] .tight/\ev 36=.int .i64 0/\ev 37=.int .i64 0/\KpL [] H U.H) 0 ⟨by simp[e6],by simp,by simp,hk2⟩ ?_;rintro m ev ⟨H3,T3⟩ R hRR ⟨e6,e36,e37,hk3⟩;simp[-getElem?_pos,e6,e36,e37];exact⟨.tight,rfl,.inr rfl,hk3⟩
end Go.Proofs.YtkpkjbchlabaaaaGreatDoor
end
