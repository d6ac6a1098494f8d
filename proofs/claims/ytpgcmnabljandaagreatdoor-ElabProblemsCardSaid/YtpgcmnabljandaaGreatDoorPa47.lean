/- A part of the proof. -/
import Derived.Test.YtpgcmnabljandaaGreatDoorPa46
set_option maxHeartbeats 16000000
set_option linter.unusedVariables false
set_option linter.unusedSimpArgs false
set_option maxRecDepth 100000
set_option linter.defProp false
section
namespace Go.Proofs.YtpgcmnabljandaaGreatDoor
open Go Go.Abs
section
attribute [local simp] acells fin zh ze pl1 plain pl2 AV.atom
theorem ZK (V:List Var)(S:List Signal)(i:Int):zW (q6 V S) i=zW V i:=by
 have h:=qbp S V i.toNat;unfold zW;rw[show q6 V S=S.foldl Q7 V from rfl]
 cases h1:(S.foldl Q7 V)[i.toNat]? with
 | none=>
  rw[h1]at h
  cases h2:V[i.toNat]? with
  | none=>rfl
  | some v=>rw[h2]at h;cases h
 | some u=>
  rw[h1]at h
  cases h2:V[i.toNat]? with
  | none=>rw[h2]at h;cases h
  | some v=>
   rw[h2]at h;simp only[qsH,Option.some.injEq,Prod.mk.injEq]at h;simp[h.2.2]
theorem QY (V:List Var)(S:List Signal)(D:List Dist):zl (q6 V S) D=zl V D:=by
 unfold zl;simp only[ZK]
theorem ZB (V:List Var)(S:List Signal)(E:List (Int×Int)):zB (q6 V S) E=zB V E:=by
 unfold zB;rw[show (q6 V S).length=V.length from vQ S V];simp only[ZK]
theorem qjC {V:List Var}{i:Int}(h:zW V i=true):0<=i/\i<V.length:=by
 unfold zW at h;rw[qq1]at h;have h1:0<=i:=of_decide_eq_true h.1
 cases h2:V[i.toNat]? with
 | none=>rw[h2]at h;simp at h
 | some v=>
  have:=(qqV.1 h2).1;omega
theorem qfo {V:List Var}{X:List It}:Below (X.flatMap (zE V)) V.length:=by
 intro e he;obtain⟨x,hx,he⟩:=qrp.1 he;unfold zE at he;split at he
 . obtain⟨i,hi,he⟩:=qrp.1 he;unfold yK at he;obtain⟨k,hk,rfl⟩:=qq3.1 he;obtain⟨_,h2⟩:=qrz.1 hk;rw[qq1]at h2;exact⟨qjC h2.1,qjC h2.2⟩
 . cases he
theorem yW {α β:Type}{f:α->List β}{n:Nat}:∀ {l:List α},(∀ x∈l,(f x).length<=n)->(l.flatMap f).length<=l.length*n
 | [],_=>by simp
 | a::r,h=>by
  have h1:=h a (by simp);have h2:=yW (l:=r) fun x hx=>h x (by simp[hx])
  rw[qrm,qqY,qq5,qse];omega
theorem ZT {F:yB}{ls:List (List It)}(hf:∀ l∈ls,FewN l)(h0:qh (qU F) ls=0):(∀ y∈qi F ls,OutOk 7014 y/\Named1 y)/\(qi F ls).length<=ls.length*400:=by
 have hz:=qr.1 h0;refine⟨fun y hy=>?_,yW fun l hl=>(yX (hz l hl)).1⟩;obtain⟨l,hlm,hyl⟩:=qrp.1 (show y∈ls.flatMap (qQ F 6 none) from hy);exact⟨Qm (hf l hlm).few y hyl,(hf l hlm).named (hz l hlm) y hyl⟩
def qiC (bs:List Nat)(H H':List Blk):Prop:=∀ (k:Nat) (x:Blk),k∈bs->H[k]?=some x->H'[k]?=some x
theorem qiC.of {bs cs:List Nat}{H H1 H2:List Blk}(h:qiC bs H H1)(hk:KpL cs H1 H2)(hd:∀ k∈bs,k∉cs):qiC bs H H2:=fun k x hm hx=>hk.2 k x (h k x hm hx) (hd k hm)
noncomputable def vF (c:Cls)(ls:List (List It))(S:List Signal):List Int :=
 let F:=qc c
 let l:=qf c
 let x:=qi F ls
 let d:=x.flatMap (z5 l)
 let E:=x.flatMap (zE l)
 [qh (qU F) ls,jO l S,zl l d,if acyc E l.length=true then 0 else 10,qh (fun y=>qE F l y.expr) (qx 1 x),qh (fun y=>qE F l y.expr) (qx 2 x),
  zT ⟨q6 l S,(qx 1 x).map fun y=>scE l y.expr,(qx 2 x).map fun y=>scE l y.expr,d,zB l E⟩]
theorem JN (c:Cls)(off:List Str)(more:List It)(S:List Signal):WW c off more S=qh id (vF c (zr c off more) S):=by
 unfold WW vF;simp only[qh,id];by_cases h1:qh (qU (qc c)) (zr c off more)=0
 . by_cases h2:jO (qf c) S=0
   . by_cases h3:zl (qf c) ((qi (qc c) (zr c off more)).flatMap (z5 (qf c)))=0
     . by_cases h4:acyc ((qi (qc c) (zr c off more)).flatMap (zE (qf c))) (qf c).length=true
       . by_cases h5:qh (fun y=>qE (qc c) (qf c) y.expr) (qx 1 (qi (qc c) (zr c off more)))=0
         . by_cases h6:qh (fun y=>qE (qc c) (qf c) y.expr) (qx 2 (qi (qc c) (zr c off more)))=0
           . simp only[h1,h2,h3,h4,h5,h6];simp
           . simp[h1,h2,h3,h4,h5,h6]
         . simp[h1,h2,h3,h4,h5]
       . simp[h1,h2,h3,h4]
     . simp[h1,h2,h3]
   . simp[h1,h2]
 . simp[h1]
theorem qhw {c:Cls}(hc:ClsOk c){e:Ex}(h:qE (qc c) (qf c) e=0):Wen (scE (qf c) e)/\(pre (scE (qf c) e)).length<=400/\hgt (scE (qf c) e)<=400:=by
 have hn:=jK (Qd h);unfold qE at h;split at h
 . rename_i h1;exact absurd h h1
 split at h
 . rename_i h1;exact absurd h h1
 rename_i h2;split at h
 . cases h
 rename_i h3;exact qjo hn (WF hc hn (qrF.1 h2)) h3
theorem J2 {c:Cls}(hc:ClsOk c)(hl:(qf c).length<=1000)(X:List It)(hX:∀ y∈X,OutOk 7014 y/\Named1 y)(hXl:X.length<=10000)(S:List Signal)
 (h5:qh (fun y=>qE (qc c) (qf c) y.expr) (qx 1 X)=0) (h6:qh (fun y=>qE (qc c) (qf c) y.expr) (qx 2 X)=0) :
 VQ ⟨q6 (qf c) S,(qx 1 X).map fun y=>scE (qf c) y.expr,(qx 2 X).map fun y=>scE (qf c) y.expr,X.flatMap (z5 (qf c)),zB (qf c) (X.flatMap (zE (qf c)))⟩:=by
 have hk:∀ k,(qx k X).length<=X.length:=fun k=>qrr _ _
 have htop:JT (X.flatMap (zE (qf c))) (qf c).length<=(qf c).length:=QC fun e _=>wV _ _
 have hgr:zB (qf c) (X.flatMap (zE (qf c)))=((List.range (JT (X.flatMap (zE (qf c))) (qf c).length+1)).map (qbU (qf c) (X.flatMap (zE (qf c))) (qf c).length)).filter fun g=>!g.isEmpty:=rfl
 refine⟨?_,fun v hv=>?_,?_,?_,fun e he=>?_,?_,fun d hd=>?_,?_,fun g hg=>?_⟩
 . show (q6 (qf c) S).length<=1000;rw[show (q6 (qf c) S).length=(qf c).length from vQ S _];exact hl
 . have hm:v.name∈(q6 (qf c) S).map Var.name:=qq3.2 ⟨v,hv,rfl⟩;rw[show (q6 (qf c) S).map Var.name=(qf c).map Var.name from Qj S _]at hm;obtain⟨u,hu,e⟩:=qq3.1 hm;have:=Vv hc u hu;rw[<- e];have:=Q3 this;unfold Fits;omega
 . simp only[qrv];have:=hk 1;omega
 . simp only[qrv];have:=hk 2;omega
 . have:∃ y,qE (qc c) (qf c) y=0/\e=scE (qf c) y:=by
    rcases qre.1 he with he|he
    . obtain⟨y,hy,rfl⟩:=qq3.1 he;exact⟨y.expr,qr.1 h5 y hy,rfl⟩
    . obtain⟨y,hy,rfl⟩:=qq3.1 he;exact⟨y.expr,qr.1 h6 y hy,rfl⟩
   obtain⟨y,hy,rfl⟩:=this;obtain⟨w1,w2,w3⟩:=qhw hc hy;exact⟨w1,by omega,by omega⟩
 . have:(X.flatMap (z5 (qf c))).length<=X.length*8:=yW fun x _=>Yg _ x
   show (X.flatMap (z5 (qf c))).length<9223372036854775808;omega
 . obtain⟨x,hx,hd⟩:=qrp.1 hd;have:=(hX x hx).1.ws;unfold z5 at hd;split at hd
   . obtain⟨i,_,rfl⟩:=qq3.1 hd;show Fits x.ws;unfold Fits;omega
   . cases hd
 . show Fits (zB _ _);rw[hgr];have:=qrr (fun g:List Int=>!g.isEmpty) ((List.range (JT (X.flatMap (zE (qf c))) (qf c).length+1)).map (qbU (qf c) (X.flatMap (zE (qf c))) (qf c).length));rw[qrv,qtf]at this;unfold Fits;omega
 . rw[hgr]at hg;obtain⟨hg,_⟩:=qrz.1 hg;obtain⟨k,_,rfl⟩:=qq3.1 hg;have:=JC (qf c) (X.flatMap (zE (qf c))) (qf c).length k;unfold Fits;omega
structure BD (B br:Nat)(c:Cls)(p:Problem)(H:List Blk):Prop where
 cell:∃ vb hb sb gb m vv hv sv dv gvv,H[B]?=some (.cells [.str c.name,.str c.parent,.sl 5 (c.fields.map q8) .none,.sl 2 (c.blocks.map qR) .none,vv,hv,sv,dv,gvv,.map m]) /\
  zi vb 4 qo H vv p.vars/\zi hb 4 qz H hv p.hard/\zi sb 4 qz H sv p.soft/\(∃ sz tok,dv=.sl sz (p.dists.map qG) tok/\(sz=2\/p.dists=[]))/\GAt gb H gvv p.groups/\gb≠br
theorem GAt.keep {gb:Nat}{H H':List Blk}{v:AV}{gs:List (List Int)}(h:GAt gb H v gs)(hk:∀ x,H[gb]?=some x->H'[gb]?=some x):GAt gb H' v gs:=by
 obtain⟨ps,tl,h1,h2,h3,h4⟩:=h;exact⟨ps,tl,h1,hk _ h2,h3,h4⟩
section
variable {B vb m:Nat}{c:Cls}
theorem qqI (hc:ClsOk c)(hl:(qf c).length<=1000)(hw:∀ v∈qf c,0<=v.width/\v.width<=8)(ls:List (List It))(hls:ls.length<=25)(hfw:∀ l∈ls,FewN l)(S:List Signal)(hS:Fits S)(H:List Blk)(T:List (Option Nat))(bl bc bx bp bs br td clk:Nat)
 (e1:H[bl]?=some (.cells [.sl 1 (ls.map ZE) .none])) (e2:H[bc]?=some (.cells (qn c))) (e3:H[bx]?=some (.cells [.sl 0 [] .nil])) (e4:H[bp]?=some (.cells [.ptr B 0])) (e5:H[bs]?=some (.cells [.sl 2 (S.map qD) .none])) (e6:∃ z,H[br]?=some (.cells z)/\z.length=5)
 (n1:∀ k∈[bl,bc,bp,bs,br],k∉[B,m,bx]/\k≠vb) (n2:bx≠B/\bx≠m/\bx≠vb) (n3:B≠vb) (h:BX [] B vb m c (qf c) ⟨H,T⟩ [] [] td [] clk) (tok:Abs.Tok) :
 qq Zp GG 50 [.sl 1 [[.fn 47 [] [.ptr bl 0,.ptr bc 0,.ptr bx 0,.ptr bp 0]],[.fn 51 [] [.ptr bp 0,.ptr bs 0]],[.fn 53 [.ptr B 0] []],[.fn 54 [.ptr B 0] []],[.fn 55 [] [.ptr bp 0,.ptr bx 0]],[.fn 57 [] [.ptr bp 0,.ptr bx 0]],[.fn 58 [] [.ptr bp 0]]] tok] ⟨H,T⟩
  (fun r O'=>r=.int .i64 (qh id (vF c ls S))/\(∃ z,O'.H[br]?=some (.cells z)/\z.length=5)/\(qh id (vF c ls S)=0->O'.H[bp]?=some (.cells [.ptr B 0]) /\
    BD B br c ⟨q6 (qf c) S,(qx 1 (qi (qc c) ls)).map fun y=>scE (qf c) y.expr,(qx 2 (qi (qc c) ls)).map fun y=>scE (qf c) y.expr,(qi (qc c) ls).flatMap (z5 (qf c)),zB (qf c) ((qi (qc c) ls).flatMap (zE (qf c)))⟩ O'.H)):=by
 have hans:vF c ls S=[qh (qU (qc c)) ls,jO (qf c) S,zl (qf c) ((qi (qc c) ls).flatMap (z5 (qf c))),if acyc ((qi (qc c) ls).flatMap (zE (qf c))) (qf c).length=true then 0 else 10,qh (fun y=>qE (qc c) (qf c) y.expr) (qx 1 (qi (qc c) ls)),qh (fun y=>qE (qc c) (qf c) y.expr) (qx 2 (qi (qc c) ls)),
  zT ⟨q6 (qf c) S,(qx 1 (qi (qc c) ls)).map fun y=>scE (qf c) y.expr,(qx 2 (qi (qc c) ls)).map fun y=>scE (qf c) y.expr,(qi (qc c) ls).flatMap (z5 (qf c)),zB (qf c) ((qi (qc c) ls).flatMap (zE (qf c)))⟩]:=rfl
 rw[hans];clear hans;have hVn:=Vv hc;have hxo:=ZT (F:=qc c) hfw;have hvq:=fun hX hXl=>J2 hc hl (qi (qc c) ls) hX hXl S
 have hst:=qmc (B:=B) (vb:=vb) (m:=m) (c:=c) (V:=qf c) (T0:=[]) hl S hS hw;have hbel:=qfo (V:=qf c) (X:=qi (qc c) ls);have hV'l:(q6 (qf c) S).length=(qf c).length:=vQ S _;have hdS:=QY (qf c) S ((qi (qc c) ls).flatMap (z5 (qf c)));have hgS:=ZB (qf c) S ((qi (qc c) ls).flatMap (zE (qf c)));have hEl:qh (qU (qc c)) ls=0->((qi (qc c) ls).flatMap (zE (qf c))).length<=1000000000/\((qi (qc c) ls).flatMap (z5 (qf c))).length<=1000000/\(qi (qc c) ls).length<=10000:=fun h0=>by
  obtain⟨q1,q2⟩:=hxo h0;have g1:=yW (f:=zE (qf c)) (l:=qi (qc c) ls) fun x hx=>qae (q1 x hx).2
  have g2:=yW (f:=z5 (qf c)) (l:=qi (qc c) ls) fun x hx=>Yg (qf c) x
  omega
 have hex:=qnH (B:=B) (vb:=vb) (m:=m) hc hVn hl ls (by omega) hfw H T bl bc bx bp clk td e1 e2 e3 e4 (n1 bl (by simp)).1 (n1 bc (by simp)).1 (n1 bp (by simp)).1 n2.1 n2.2.1 h;generalize hVdef:qf c=V at *;generalize hXX:qi (qc c) ls=X at *;generalize hr0:qh (qU (qc c)) ls=r0 at *;generalize hr1:jO V S=r1 at *;generalize hr2:zl V (X.flatMap (z5 V))=r2 at *;generalize hVV:q6 V S=V' at *;generalize hr4:qh (fun y=>qE (qc c) V y.expr) (qx 1 X)=r4 at *;generalize hr5:qh (fun y=>qE (qc c) V y.expr) (qx 2 X)=r5 at *;generalize hDD:X.flatMap (z5 V)=D at *;generalize hEE:X.flatMap (zE V)=E at *;generalize hGG:zB V E=gs at *;generalize hHD:(qx 1 X).map (fun y=>scE V y.expr)=hd at *;generalize hSF:(qx 2 X).map (fun y=>scE V y.expr)=sf at *;have hk0:∀ k∈[bp,bs,br],k∉[B,m,bx]/\k≠vb:=fun k hk=>n1 k (by simp at hk ⊢;rcases hk with rfl | rfl | rfl<;>simp)
 have hkB:∀ k∈[bp,bs,br],k∉[B]:=fun k hk=>by have:=(hk0 k hk).1;simp at this ⊢;exact this.1
 have hbp:bp∈[bp,bs,br]:=by simp
 have hbs:bs∈[bp,bs,br]:=by simp
 have hbr:br∈[bp,bs,br]:=by simp
 let CC (vv hv sv dv gvv:AV) (O:St):Prop:=O.H[B]?=some (.cells [.str c.name,.str c.parent,.sl 5 (c.fields.map q8) .none,.sl 2 (c.blocks.map qR) .none,vv,hv,sv,dv,gvv,.map m])
 let XC (O:St):Prop:=∃ sz tok,O.H[bx]?=some (.cells [.sl sz (X.map qK) tok])/\(sz=12\/X=[])
 let DC (dv:AV):Prop:=∃ sz tok,dv=.sl sz (D.map qG) tok/\(sz=2\/D=[])
 let J:Nat->St->Prop:=fun i O=>match i with
  | 0=>O=⟨H,T⟩
  | 1=>r0=0/\qiC [bp,bs,br] H O.H/\XC O/\∃ td R clk,BX [] B vb m c V O D E td R clk
  | 2=>r0=0/\qiC [bp,bs,br] H O.H/\XC O/\∃ td R clk,BX [] B vb m c V' O D E td R clk
  | 3=>r0=0/\qiC [bp,bs,br] H O.H/\XC O/\∃ td R clk,BX [] B vb m c V' O D E td R clk
  | 4=>r0=0/\qiC [bp,bs,br] H O.H/\XC O/\∃ gb vv dv gvv,CC vv (.sl 0 [] .nil) (.sl 0 [] .nil) dv gvv O/\zi vb 4 qo O.H vv V'/\DC dv/\GAt gb O.H gvv gs/\(gb≠B/\gb≠br)
  | 5=>r0=0/\r4=0/\qiC [bp,bs,br] H O.H/\XC O/\∃ hb gb vv hv dv gvv,CC vv hv (.sl 0 [] .nil) dv gvv O/\zi vb 4 qo O.H vv V'/\zi hb 4 qz O.H hv hd/\DC dv/\GAt gb O.H gvv gs/\(gb≠B/\gb≠br)/\(hd≠[]->hb≠B)
  | 6=>r0=0/\r4=0/\r5=0/\qiC [bp,bs,br] H O.H/\BD B br c ⟨V',hd,sf,D,gs⟩ O.H
  | _=>qiC [bp,bs,br] H O.H/\BD B br c ⟨V',hd,sf,D,gs⟩ O.H
 have hfs:=qli [⟨47,[],[.ptr bl 0,.ptr bc 0,.ptr bx 0,.ptr bp 0],r0⟩,⟨51,[],[.ptr bp 0,.ptr bs 0],r1⟩,⟨53,[.ptr B 0],[],r2⟩,⟨54,[.ptr B 0],[],if acyc E V.length=true then 0 else 10⟩,⟨55,[],[.ptr bp 0,.ptr bx 0],r4⟩,⟨57,[],[.ptr bp 0,.ptr bx 0],r5⟩,⟨58,[],[.ptr bp 0],zT ⟨V',hd,sf,D,gs⟩⟩] (by simp) J (fun O=>qiC [bp,bs,br] H O.H) tok ?_ ⟨H,T⟩ rfl (fun _ _ _ h=>h)
 . refine hfs.imp fun v O'=>?_
   rintro⟨rfl,q1,hJ⟩;obtain⟨z,hz1,hz2⟩:=e6;refine⟨by simp[qh],⟨z,q1 _ _ hbr hz1,hz2⟩,fun hz=>?_⟩;obtain⟨_,q2⟩:J 7 O':=hJ (Eq.trans (by simp[qh]) hz);exact⟨q1 _ _ hbp e4,q2⟩
 . rintro i st ⟨H1,T1⟩ hi hJ
   match i,hi,hJ with
   | 0,hi,hJ=>
    cases hi;cases hJ;refine hex.imp fun v O'=>?_
    rintro⟨rfl,hkp,hpost⟩;refine⟨rfl,qiC.of (fun _ _ _ h=>h) hkp fun k hk=>(hk0 k hk).1,fun h0=>?_⟩;obtain⟨td',R',clk',sz,tok',hB,hx,hsz⟩:=hpost h0;exact⟨h0,qiC.of (fun _ _ _ h=>h) hkp fun k hk=>(hk0 k hk).1,⟨sz,tok',hx,hsz⟩,td',R',clk',hB⟩
   | 1,hi,hJ=>
    cases hi;obtain⟨h0,hk,hx,td,R,clk,hB⟩:=hJ;refine step51 (hk _ _ hbp e4) (hk _ _ hbs e5) rfl rfl ((hst H1 T1 hB).imp fun v O'=>?_);rintro⟨rfl,hT,hkp,hpost⟩;refine⟨_,rfl,rfl,hk.of hkp fun k hk=>by have:=(hk0 k hk).2;simpa using this,fun h1=>?_⟩;obtain⟨sz,tok',hx,hsz⟩:=hx;exact⟨h0,hk.of hkp fun k hk=>by have:=(hk0 k hk).2;simpa using this,⟨sz,tok',hkp.2 _ _ hx (by simpa using n2.2.2),hsz⟩,td,R,clk,hpost h1⟩
   | 2,hi,hJ=>
    cases hi;obtain⟨h0,hk,hx,td,R,clk,hB⟩:=hJ;obtain⟨vv,dv,hc1,hv1,hd1⟩:=hB.cell;have hda:yc 0 2 qG T1 dv D:=by
     rcases hd1 with ⟨rfl,rfl⟩|⟨g1,rfl,g2,g3,_⟩
     . exact .inl ⟨rfl,rfl⟩
     . exact .inr ⟨g1,_,qsW _,rfl,g3⟩
    have hds:=qbA V' D (hEl h0).2.1 H1 T1 0 B vb _ _ _ _ vv dv _ (by simp) hc1 hv1 hda;rw[hdS]at hds;refine hds.imp fun v O'=>?_
    rintro⟨rfl,t,rfl⟩;refine⟨rfl,fun k x hm hx=>qb (hk k x hm hx) t,fun h2=>⟨h0,fun k x hm hx=>qb (hk k x hm hx) t,?_,td,R,clk,hB.ext t qr6⟩⟩;obtain⟨sz,tok',hx,hsz⟩:=hx;exact⟨sz,tok',qb hx t,hsz⟩
   | 3,hi,hJ=>
    cases hi;obtain⟨h0,hk,hx,td,R,clk,hB⟩:=hJ;obtain⟨vv,dv,hc1,hv1,hd1⟩:=hB.cell;have hg:=qkH (by rw[hV'l];exact hl) (hEl h0).1 (by rw[hV'l];exact hbel) H1 T1 hB hc1;rw[hV'l,hgS]at hg;refine hg.imp fun v O'=>?_
    rintro⟨rfl,hT,hkp,hpost⟩;refine⟨rfl,hk.of hkp hkB,fun h3=>?_⟩;have ha:acyc E V.length=true:=by
     cases e:acyc E V.length with
     | true=>rfl
     | false=>simp[e]at h3
    obtain⟨gvv,gb,hgb,hga,hc2⟩:=hpost ha;obtain⟨sz,tok',hx,hsz⟩:=hx;have hBl:=(qqV.1 hc1).1;exact⟨h0,hk.of hkp hkB,⟨sz,tok',hkp.2 _ _ hx (by simpa using n2.1),hsz⟩,gb,vv,dv,gvv,hc2,hv1.keep fun x _ hx=>hkp.2 _ _ hx (by simpa using Ne.symm n3),BX.dists hd1,hga,by simp only at hBl;omega,by
     obtain⟨z,hz1,_⟩:=e6;have:=(qqV.1 (hk _ _ hbr hz1)).1;simp only at this;omega⟩
   | 4,hi,hJ=>
    cases hi;obtain⟨h0,hk,⟨sz,tok',hx,hsz⟩,gb,vv,dv,gvv,hC,hv,hd',hg,hgB⟩:=hJ;have hh:=hard56 c hc X (fun x hx=>((hxo h0).1 x hx).1) (by have:=(hEl h0).2.2;omega) 1 H1 T1 B m vv (.sl 0 [] .nil) dv gvv sz tok' hsz hC;rw[hVdef,hr4,hHD]at hh;refine step55 (hk _ _ hbp e4) hx rfl (hh.imp fun v O'=>?_);rintro⟨rfl,hT,hkp,hpost⟩;refine⟨_,rfl,rfl,hk.of hkp hkB,fun h4=>?_⟩;obtain⟨hb,hv',hc2,hov,hge⟩:=hpost h4;have hBl:=(qqV.1 hC).1;exact⟨h0,h4,hk.of hkp hkB,⟨sz,tok',hkp.2 _ _ hx (by simpa using n2.1),hsz⟩,hb,gb,vv,hv',dv,gvv,hc2,hv.keep fun x _ hx=>hkp.2 _ _ hx (by simpa using Ne.symm n3),hov,hd',hg.keep fun x hx=>hkp.2 _ _ hx (by simpa using hgB.1),hgB,fun hne=>by
     have:=hge (by rintro e;rw[<- hHD,e]at hne;exact hne rfl);simp only at hBl;omega⟩
   | 5,hi,hJ=>
    cases hi;obtain⟨h0,h4,hk,⟨sz,tok',hx,hsz⟩,hb,gb,vv,hv,dv,gvv,hC,hvv,hh,hd',hg,hgB,hhB⟩:=hJ;have hh2:=soft56 c hc X (fun x hx=>((hxo h0).1 x hx).1) (by have:=(hEl h0).2.2;omega) 2 H1 T1 B m vv hv dv gvv sz tok' hsz hC;rw[hVdef,hr5,hSF]at hh2;refine step57 (hk _ _ hbp e4) hx rfl (hh2.imp fun v O'=>?_);rintro⟨rfl,hT,hkp,hpost⟩;refine⟨_,rfl,rfl,hk.of hkp hkB,fun h5=>?_⟩;obtain⟨sb,sv',hc2,hov,hge⟩:=hpost h5;exact⟨h0,h4,h5,hk.of hkp hkB,vb,hb,sb,gb,m,vv,hv,sv',dv,gvv,hc2,hvv.keep fun x _ hx=>hkp.2 _ _ hx (by simpa using Ne.symm n3),hh.keep fun x hne hx=>hkp.2 _ _ hx (by simpa using hhB hne),hov,hd',hg.keep fun x hx=>hkp.2 _ _ hx (by simpa using hgB.1),hgB.2⟩
   | 6,hi,hJ=>
    cases hi;obtain⟨h0,h4,h5,hk,vb',hb,sb,gb,m',vv,hv,sv,dv,gvv,hC,hvv,hh,hs,hd',hg,hgr⟩:=hJ;refine (step58 (p:=⟨V',hd,sf,D,gs⟩) (hvq (hxo h0).1 (hEl h0).2.2 h4 h5) (hk _ _ hbp e4) hC hvv hh hs hd' hg).imp fun v O'=>?_
    rintro⟨rfl,rfl⟩;exact⟨rfl,hk,fun _=>⟨hk,vb',hb,sb,gb,m',vv,hv,sv,dv,gvv,hC,hvv,hh,hs,hd',hg,hgr⟩⟩
   | k+7,hi,hJ=>simp at hi
end
end
section
def qpK:List (Nat×Sch×List Nat):=[(13,.step 0 [8,7,6,5,2,1] (.step 1 [8,7,6,5,2] (.step 2 [8,7,6,5] (.step 3 [8,7,6,5,4] (.step 4 [8,7,6,5] (.step 5 [8,7,6] (.step 6 [8,7] (.step 7 [8] (.step 8 [] (.done))))))))),[])]
def qoU {α:Type}(H0:List Blk)(sz:Nat)(en:α->List AV)(H:List Blk)(v:AV)(l:List α):Prop :=
 ∃ ob,zi ob sz en H v l/\(l=[]\/H0.length<=ob)/\H0.length<=H.length/\∀ (k:Nat) (x:Blk),H0[k]?=some x->H[k]?=some x
section
variable {α:Type}{H0 H:List Blk}{sz:Nat}{en:α->List AV}{v:AV}{l m:List α}
end
theorem qqC (c:Cls)(hc:c.fields.length<=50)(hb:c.blocks.length<=50)(H:List Blk)(T:List (Option Nat)) :
 qq Zp GG 45 [.agg (qn c)] ⟨H,T⟩ (fun r O'=>∃ H',O'=⟨H',T⟩/\qoU H 4 qo H' r (qf c)):=by
 refine qq.kO ⟨true,qpK,[],[]⟩ qg Tryz.func45 rfl (by kernel_rfl) ?_;have hr:qf c=if ZX c≠0 then [] else c.fields.flatMap yG:=rfl
 generalize qf c=R at hr;simp[-getElem?_pos];refine qd.call (qi7 c (by unfold Fits;omega) (by unfold Fits;omega)) (by simp) ?_;by_cases h0:ZX c=0
 . rw[if_neg (by simp[h0])]at hr;subst hr;have hok:=WQ h0;simp[-getElem?_pos,h0];refine qv.listR c.fields (fun d ev O=>ev 12=sF c.fields/\ev 13=I_ c.fields.length/\ev 14=I_ d.length/\(d.flatMap yG).length<=d.length*8/\∃ H',O=⟨H',T⟩/\qoU H 4 qo H' (ev 3) (d.flatMap yG)) ?_ ?_ ?_
   . refine⟨by simp,by simp,by simp,by simp,_,by simp;rfl,0,.inl ⟨rfl,by simp⟩,.inl rfl,by simp,fun k x hk=>qb hk _⟩
   . rintro d f r ev O R hR hd hv hlt ⟨h12,h13,h14,hln,H1,rfl,hrow⟩;have hf:=zk (hok.fields f (qqW hv));have hs0:=hf.s0;have hs8:=hf.s8;obtain⟨n,hn8⟩:=qrj hs0;have hn8':n<=8:=(by omega);have hdl:d.length<50:=(by omega);have hvf:yG f=(if f.size=0 then [⟨f.name,f.width,f.mode,f.init⟩] else [])++(List.range n).map fun i=>⟨qH f.name i,f.width,f.mode,f.init⟩:=by
      unfold yG;rw[hn8];rfl
     have hnl:f.name.length<=16:=j7 hf.name;obtain⟨ob,ho,hob,hle,hkp⟩:=hrow;have hoblt:d.flatMap yG=[]\/ob<H1.length:=by
      by_cases e:d.flatMap yG=[]
      . exact .inl e
      . exact .inr (ho.lt e)
     have hdv:(d++[f]).flatMap yG=d.flatMap yG++yG f:=(by simp);generalize d.flatMap yG=D at *;generalize hv3:ev 3=v3 at *;simp[-getElem?_pos,-Y6,h12,h13,h14,hlt,hv];refine qbd (fun ev O=>ev 5=.ptr H1.length 0/\ev 6=.ptr (H1.length+1) 0/\ev 12=sF c.fields/\ev 13=I_ c.fields.length/\ev 14=I_ d.length /\
      ∃ H2 ob2,O=⟨H2,T⟩/\H2[H1.length]?=some (.cells (q8 f))/\H2[H1.length+1]?=some (.cells [.str f.name,I_ f.width,I_ f.mode,I_ f.init])/\zi ob2 4 qo H2 (ev 3) (D++(if f.size=0 then [⟨f.name,f.width,f.mode,f.init⟩] else [])) /\
       ((D++(if f.size=0 then [⟨f.name,f.width,f.mode,f.init⟩] else []))=[]\/(H.length<=ob2/\ob2≠H1.length/\ob2≠H1.length+1))/\H1.length+2<=H2.length/\∀ (k:Nat) (x:Blk),H[k]?=some x->H2[k]?=some x) ?_ ?_
     . by_cases z0:f.size=0
       . have ho2:=ho.keep (H':=H1++[.cells (q8 f),.cells [.str f.name,I_ f.width,I_ f.mode,I_ f.init]]) fun x _ hx=>qb hx _
         obtain⟨v',H2,hX,k1,k2,k3⟩:=ho2.append (T:=T) (m:=[⟨f.name,f.width,f.mode,f.init⟩]) (tok:=.tight) D31 rfl D65 rfl (by omega) rfl (by decide) (fun x=>rfl) (by simp only[qq8];omega) (by simp);simp only[qqZ,qq9,qo,q8,z0]at hX k2;rw[if_pos z0];simp[-getElem?_pos,h12,h13,h14,z0,hv3,hX];have hne:∀ k,H1.length<=k->(D=[]\/k≠ob):=fun k hk=>by
          rcases hoblt with e|e
          . exact .inl e
          . exact .inr (by omega)
         refine⟨k2 _ _ (by simp) (hne _ (qrn _)),k2 _ _ (by simp) (hne _ (by omega)),H1.length+2,by simpa using k1,⟨by omega,by omega,by omega⟩,by simp at k3;omega,fun k x hk=>k2 k x (qb (hkp k x hk) _) ?_⟩;have:=(qqV.1 hk).1;rcases hob with e|e
         . exact .inl e
         . exact .inr (by omega)
       . rw[if_neg z0];simp[-getElem?_pos,h12,h13,h14,z0,hv3];refine⟨ob,ho.keep fun x _ hx=>qb hx _,?_,fun k x hk=>qb (hkp k x hk) _⟩;rcases hob with e|e
         . exact .inl e
         . rcases hoblt with e2|e2
           . exact .inl e2
           . exact .inr ⟨e,by omega,by omega⟩
     clear h12 h13 h14 hv3;rintro ev O ⟨h5,h6,h12,h13,h14,H2,ob2,rfl,hf2,hv2,ho2,hob2,hl2,hk2⟩;simp only[q8]at hf2;have hDl:(D++(if f.size=0 then [(⟨f.name,f.width,f.mode,f.init⟩:Var)] else [])).length<=d.length*8+1:=by
      rw[qqY];split<;>simp<;>omega
     have hDl0:f.size≠0->(D++(if f.size=0 then [(⟨f.name,f.width,f.mode,f.init⟩:Var)] else [])).length<=d.length*8:=fun e=>by
      rw[if_neg e];simp;omega
     have hDe:(d++[f]).flatMap yG=(D++(if f.size=0 then [(⟨f.name,f.width,f.mode,f.init⟩:Var)] else []))++(List.range n).map fun i=>⟨qH f.name i,f.width,f.mode,f.init⟩:=by rw[hdv,hvf,qri]
     generalize hE:D++(if f.size=0 then [(⟨f.name,f.width,f.mode,f.init⟩:Var)] else [])=E at *;simp[-getElem?_pos,h5,hf2];rw[hn8];refine qv.count n (fun k ev O=>ev 5=.ptr H1.length 0/\ev 6=.ptr (H1.length+1) 0/\ev 12=sF c.fields/\ev 13=I_ c.fields.length/\ev 14=I_ d.length/\ev 35=I_ n/\ev 36=I_ k /\
      ∃ H3 ob3 nm,O=⟨H3,T⟩/\H3[H1.length]?=some (.cells [.str f.name,I_ f.width,I_ f.size,I_ f.mode,I_ f.init])/\H3[H1.length+1]?=some (.cells [.str nm,I_ f.width,I_ f.mode,I_ f.init])/\zi ob3 4 qo H3 (ev 3) (E++(List.range k).map fun i=>⟨qH f.name i,f.width,f.mode,f.init⟩) /\
       ((E++(List.range k).map fun i=>(⟨qH f.name i,f.width,f.mode,f.init⟩:Var))=[]\/(H.length<=ob3/\ob3≠H1.length/\ob3≠H1.length+1))/\H1.length+2<=H3.length/\∀ (k:Nat) (x:Blk),H[k]?=some x->H3[k]?=some x) ?_ ?_ ?_
     . exact⟨h5,h6,h12,h13,h14,by simp,by simp,H2,ob2,f.name,rfl,hf2,hv2,by simpa using ho2,by simpa using hob2,hl2,hk2⟩
     . clear h5 h6 h12 h13 h14 hf2 hv2 ho2 hob2 hl2 hk2;rintro k ev O hkn ⟨h5,h6,h12,h13,h14,h35,h36,H3,ob3,nm,rfl,hf3,hv3,ho3,hob3,hl3,hk3⟩;have hkn':(k:Int)<n:=(by omega);have hit:=qkv k (by omega);have hnm:∃ ch,UInt8.ofNat (48+k)=ch/\f.name++[91,ch,93]=qH f.name k:=⟨_,rfl,rfl⟩;obtain⟨ch,hch,hnm⟩:=hnm;rw[hch]at hit;have hl1:f.name.length+1<=4611686018427387904:=(by omega);have hl2':f.name.length+1+1<=4611686018427387904:=(by omega);have hl3':f.name.length+1+1+1<=4611686018427387904:=(by omega);have hEl:E.length+k+1<=1073741824:=(by omega);have hrs:(List.range (k+1)).map (fun i=>(⟨qH f.name i,f.width,f.mode,f.init⟩:Var))=(List.range k).map (fun i=>(⟨qH f.name i,f.width,f.mode,f.init⟩:Var))++[⟨qH f.name k,f.width,f.mode,f.init⟩]:=(by rw[qrX,qrf];rfl);generalize hQ:(List.range k).map (fun i=>(⟨qH f.name i,f.width,f.mode,f.init⟩:Var))=Q at *;have hQl:Q.length=k:=(by rw[<- hQ];simp);generalize hv9:ev 3=v9 at *;simp[-getElem?_pos,h35,h36,hkn'];rw[zJ rfl];simp[-getElem?_pos,zR,h5,hf3,hl1];refine qd.call hit rfl ?_;simp[-getElem?_pos,zR,h6,hv3,hl2',hl3'];have hsv:(H3.set (H1.length+1) (.cells [.str (qH f.name k),I_ f.width,I_ f.mode,I_ f.init]))[H1.length+1]?=some (.cells [.str (qH f.name k),I_ f.width,I_ f.mode,I_ f.init]):=(by rw[qq4 (by omega)]);rw[hnm];have hkeep4:∀ (k':Nat) (x:Blk),k'≠H1.length+1->H3[k']?=some x->(H3.set (H1.length+1) (.cells [.str (qH f.name k),I_ f.width,I_ f.mode,I_ f.init]))[k']?=some x:=fun k' x hne hx=>by rw[qqX (Ne.symm hne)];exact hx
       have hlen4:(H3.set (H1.length+1) (.cells [.str (qH f.name k),I_ f.width,I_ f.mode,I_ f.init])).length=H3.length:=(by simp);have ho4:=ho3.keep (H':=H3.set (H1.length+1) (.cells [.str (qH f.name k),I_ f.width,I_ f.mode,I_ f.init])) fun x hl hx=>hkeep4 _ _ (by
        rcases hob3 with e|e
        . exact absurd e hl
        . exact e.2.2) hx
       generalize H3.set (H1.length+1) (.cells [.str (qH f.name k),I_ f.width,I_ f.mode,I_ f.init])=H4 at *;obtain⟨v',H5,hX,k1,k2,k3⟩:=ho4.append (T:=T) (m:=[⟨qH f.name k,f.width,f.mode,f.init⟩]) (tok:=.tight) D31 rfl D65 rfl (by omega) rfl (by decide) (fun x=>rfl) (by simp only[qqY,qq8,hQl];omega) (by simp);simp only[qqZ,qq9,qo]at hX;have hne5:∀ k',(k'=H1.length\/k'=H1.length+1\/k' < H.length)->((E++Q)=[]\/k'≠ob3):=fun k' hk'=>by
        rcases hob3 with e|e
        . exact .inl e
        . right;omega
       have hw:IntKind.i64.wrap ((k:Int)+1)=k+1:=wr (by omega) (by omega);simp[-getElem?_pos,h5,h6,h12,h13,h14,h35,h36,hsv,hv9,hX,hw];refine⟨k2 _ _ (hkeep4 _ _ (by omega) hf3) (hne5 _ (.inl rfl)),⟨_,k2 _ _ hsv (hne5 _ (.inr (.inl rfl)))⟩,H4.length,?_,?_,by omega,fun k' x hk'=>?_⟩
       . rw[hrs,<- qri];exact k1
       . omega
       . have:=(qqV.1 hk').1;exact k2 _ _ (hkeep4 _ _ (by omega) (hk3 _ _ hk')) (hne5 _ (.inr (.inr this)))
     . clear h5 h6 h12 h13 h14 hf2 hv2 ho2 hob2 hl2 hk2;rintro ev O ⟨h5,h6,h12,h13,h14,h35,h36,H3,ob3,nm,rfl,hf3,hv3,ho3,hob3,hl3,hk3⟩;simp[-getElem?_pos,h14,h35,h36];refine hR _ _ ⟨h12,h13,by simp;exact wr (by omega) (by omega),?_,H3,rfl,ob3,by rw[hDe];simpa using ho3,?_,by omega,hk3⟩
       . rw[hDe];simp;by_cases z0:f.size=0
         . omega
         . have:=hDl0 z0;omega
       . rw[hDe];rcases hob3 with e|e
         . exact .inl e
         . exact .inr e.1
   . rintro ev O ⟨h12,h13,h14,hln,H1,rfl,hrow⟩;simp[-getElem?_pos,h13,h14];exact hrow
 . rw[if_pos h0]at hr;subst hr;simp[-getElem?_pos,h0];exact⟨0,.inl ⟨rfl,rfl⟩,.inl rfl,by simp,fun k x hk=>qb hk _⟩
end
theorem same44 (b:Blc)(s:Str):PZ 44 [.agg (qR b),.rptr [.str s]] (.bool (b.name==s)):=by
 refine Pure.k qg Tryz.func44 rfl (by kernel_rfl) ?_;simp[qR]
theorem qiq (l:List Blc)(hl:Fits l)(s:Str):PZ 43 [.sl 2 (l.map qR) .none,.fn 44 [] [.rptr [.str s]]] (.bool (l.any fun b=>b.name==s)) :=
 Q0 GG l (fun b=>b.name==s) 44 [] [.rptr [.str s]] hl rfl rfl fun b _=>by simpa using same44 b s
theorem zfin (H:List Blk)(n:Int):zg (frz H 8 (.tup [.agg [.sl 0 [] .nil,.sl 0 [] .nil,.sl 0 [] .nil,.sl 0 [] .nil,.sl 0 [] .nil],I_ n]))=true/\Leq (frz H 8 (.tup [.agg [.sl 0 [] .nil,.sl 0 [] .nil,.sl 0 [] .nil,.sl 0 [] .nil,.sl 0 [] .nil],I_ n])) (.tup [.agg [.sl 4 [] .none,.sl 4 [] .none,.sl 4 [] .none,.sl 2 [] .none,.sl 1 [] .none],I_ n]):=by
 rw[qP (by simp)];simp[Leq,zt]
theorem qb4 {c:Cls}(hc:ClsOk c):∀ v∈qf c,0<=v.width/\v.width<=8:=fun v hv=>by
 obtain⟨f,hf,⟨_,rfl⟩|⟨i,_,rfl⟩⟩:=(wa hc).1 hv <;>
 . have h:=zk (hc.fields f hf);have:=h.w1;have:=h.w8;exact⟨by show 0<=f.width;omega,by show f.width<=8;omega⟩
theorem Z9 {c:Cls}(hc:ClsOk c):(qf c).length<=1000:=by
 rw[qaz hc];have h:=yW (f:=yG) (n:=9) (l:=c.fields) fun f hf=>by
  have:=(zk (hc.fields f hf)).s8;unfold yG;rw[qqY,qrv,qtf];split<;>simp<;>omega
 have:=hc.nf;omega
theorem qnu {H:List Blk}{n:Nat}{c:List AV}:frz H (n+1) (.tup c)=.tup (c.map (frz H n)):=by
 by_cases h:zg (.tup c)=true
 . rw[qP h];congr 1;simp only[zg]at h
   induction c with
   | nil=>rfl
   | cons a r ih=>
    simp only[qu,qq1]at h;rw[qqZ,qP h.1,<- ih h.2]
 . rw[frz,if_neg h]
theorem qaU {α:Type}{b:Nat}{en:α->List AV}{H:List Blk}{v:AV}{l:List α}(h:zi b 4 en H v l)(hl:∀ x,(en x).length=4)(hne:l≠[]){z0 z1 z2 z3 z4:AV}(h1:H[1]?=some (.cells [z0,z1,z2,z3,z4])):b≠1:=by
 obtain⟨_,hr⟩:=h.at hne;rintro rfl;rw[h1]at hr;simp only[Option.some.injEq,Blk.cells.injEq]at hr;have:=Go.Abs.flat_len hl l;rw[<- hr]at this;simp at this;omega
def Laid (c:Cls)(off:List Str)(more:List It)(state:List Signal)(ev:Env)(O:St):Prop :=
 ev 2=.sl 1 (off.map qs) .none/\ev 3=.sl 12 (more.map qK) .none/\ev 9=.ptr 0 0/\ev 10=.ptr 1 0/\ev 12=.ptr 2 0 /\
 O.H[0]?=some (.cells [.sl 2 (state.map qD) .none])/\O.H[1]?=some (.cells [.sl 0 [] .nil,.sl 0 [] .nil,.sl 0 [] .nil,.sl 0 [] .nil,.sl 0 [] .nil])/\O.H[2]?=some (.cells [.str c.name,.str c.parent,.sl 5 (c.fields.map q8) .none,.sl 2 (c.blocks.map qR) .none]) /\
 ∃ B m bp vb vv,ev 16=.ptr bp 0/\3<=B/\3<=m/\3<=bp/\bp≠B/\bp≠m/\B≠m/\(qf c≠[]->3<=vb/\vb≠B/\vb≠bp/\vb≠m)/\O.H[bp]?=some (.cells [.ptr B 0])/\O.H[m]?=some (.map [] 0) /\
  O.H[B]?=some (.cells [.str c.name,.str c.parent,.sl 5 (c.fields.map q8) .none,.sl 2 (c.blocks.map qR) .none,vv,.sl 0 [] .nil,.sl 0 [] .nil,.sl 0 [] .nil,.sl 0 [] .nil,.map m])/\zi vb 4 qo O.H vv (qf c)
theorem ji {c:Cls}{off:List Str}{more:List It}{state:List Signal}{ev:Env}{H1 Hf:List Blk}{T1:List (Option Nat)}{B m bp ob:Nat}{vv:AV}(hl:3<=H1.length)
 (b0:H1[0]?=some (.cells [.sl 2 (state.map qD) .none])) (b1:H1[1]?=some (.cells [.sl 0 [] .nil,.sl 0 [] .nil,.sl 0 [] .nil,.sl 0 [] .nil,.sl 0 [] .nil])) (b2:H1[2]?=some (.cells [.str c.name,.str c.parent,.sl 5 (c.fields.map q8) .none,.sl 2 (c.blocks.map qR) .none]))
 (h2:ev 2=.sl 1 (off.map qs) .none) (h3:ev 3=.sl 12 (more.map qK) .none) (h9:ev 9=.ptr 0 0) (h10:ev 10=.ptr 1 0) (h12:ev 12=.ptr 2 0) (h16:ev 16=.ptr bp 0)
 (g1:H1.length<=B) (g2:H1.length<=m) (g3:H1.length<=bp) (hbp:Hf[bp]?=some (.cells [.ptr B 0])) (hm:Hf[m]?=some (.map [] 0))
 (hB:Hf[B]?=some (.cells [.str c.name,.str c.parent,.sl 5 (c.fields.map q8) .none,.sl 2 (c.blocks.map qR) .none,vv,.sl 0 [] .nil,.sl 0 [] .nil,.sl 0 [] .nil,.sl 0 [] .nil,.map m]))
 (hold:∀ (k:Nat) (x:Blk),H1[k]?=some x->Hf[k]?=some x) (hown:zi ob 4 qo Hf vv (qf c)) (hob:qf c=[]\/H1.length<=ob):Laid c off more state ev ⟨Hf,T1⟩:=by
 refine⟨h2,h3,h9,h10,h12,hold _ _ b0,hold _ _ b1,hold _ _ b2,B,m,bp,ob,vv,h16,by omega,by omega,by omega,?_,?_,?_,fun hne=>?_,hbp,hm,hB,hown⟩
 . rintro rfl;rw[hbp]at hB;simp at hB
 . rintro rfl;rw[hbp]at hm;cases hm
 . rintro rfl;rw[hB]at hm;cases hm
 . obtain⟨_,hr⟩:=hown.at hne;refine⟨by have:=hob.resolve_left hne;omega,?_,?_,?_⟩
   . rintro rfl;rw[hB]at hr
     revert hr
     cases hv:qf c with
     | nil=>exact absurd hv hne
     | cons v r=>intro hr;simp[qo]at hr
   . rintro rfl;rw[hbp]at hr
     revert hr
     cases hv:qf c with
     | nil=>exact absurd hv hne
     | cons v r=>intro hr;simp[qo]at hr
   . rintro rfl;rw[hm]at hr;cases hr
structure AskOk (q:Ask):Prop where
 src:q.src.length<=900
 low:∀ c∈q.src,LowC c
 off:Fits q.off
 state:Fits q.state
 few:∀ l∈zr (qy q.src q.name) q.off q.more,FewN l
def qpL:List (Nat×Sch×List Nat):=[(10,.step 1 [8,6,5,3,2] (.fork (.cons 0 (.fork (.cons 2 (.step 3 [8,6,5] (.fork (.cons 4 (.step 5 [8,6] (.fork (.cons 6 (.step 7 [8] (.step 8 [] (.done))) (.cons 7 (.step 6 [8] (.step 8 [] (.done))) (.nil))))) (.cons 7 (.step 4 [8,6,5] (.step 5 [8,6] (.step 6 [8] (.step 8 [] (.done))))) (.nil))))) (.cons 4 (.fork (.cons 2 (.step 3 [8,6,5] (.step 5 [8,6] (.fork (.cons 6 (.step 7 [8] (.step 8 [] (.done))) (.cons 7 (.step 6 [8] (.step 8 [] (.done))) (.nil)))))) (.cons 7 (.step 2 [8,6,5,3] (.step 3 [8,6,5] (.step 5 [8,6] (.step 6 [8] (.step 8 [] (.done)))))) (.nil)))) (.cons 7 (.fork (.cons 2 (.step 3 [8,6,5] (.step 4 [8,6,5] (.step 5 [8,6] (.step 6 [8] (.step 8 [] (.done)))))) (.cons 4 (.step 2 [8,6,5,3] (.step 3 [8,6,5] (.step 5 [8,6] (.step 6 [8] (.step 8 [] (.done)))))) (.nil)))) (.nil))))) (.cons 2 (.step 0 [8,6,5] (.step 3 [8,6,5] (.fork (.cons 4 (.step 5 [8,6] (.fork (.cons 6 (.step 7 [8] (.step 8 [] (.done))) (.cons 7 (.step 6 [8] (.step 8 [] (.done))) (.nil))))) (.cons 7 (.step 4 [8,6,5] (.step 5 [8,6] (.step 6 [8] (.step 8 [] (.done))))) (.nil)))))) (.cons 4 (.fork (.cons 0 (.fork (.cons 2 (.step 3 [8,6,5] (.step 5 [8,6] (.fork (.cons 6 (.step 7 [8] (.step 8 [] (.done))) (.cons 7 (.step 6 [8] (.step 8 [] (.done))) (.nil)))))) (.cons 7 (.step 2 [8,6,5,3] (.step 3 [8,6,5] (.step 5 [8,6] (.step 6 [8] (.step 8 [] (.done)))))) (.nil)))) (.cons 2 (.step 0 [8,6,5] (.step 3 [8,6,5] (.step 5 [8,6] (.fork (.cons 6 (.step 7 [8] (.step 8 [] (.done))) (.cons 7 (.step 6 [8] (.step 8 [] (.done))) (.nil))))))) (.cons 7 (.fork (.cons 0 (.step 2 [8,6,5,3] (.step 3 [8,6,5] (.step 5 [8,6] (.step 6 [8] (.step 8 [] (.done)))))) (.cons 2 (.step 0 [8,6,5] (.step 3 [8,6,5] (.step 5 [8,6] (.step 6 [8] (.step 8 [] (.done)))))) (.nil)))) (.nil))))) (.cons 7 (.fork (.cons 0 (.fork (.cons 2 (.step 3 [8,6,5] (.step 4 [8,6,5] (.step 5 [8,6] (.step 6 [8] (.step 8 [] (.done)))))) (.cons 4 (.step 2 [8,6,5,3] (.step 3 [8,6,5] (.step 5 [8,6] (.step 6 [8] (.step 8 [] (.done)))))) (.nil)))) (.cons 2 (.step 0 [8,6,5] (.step 3 [8,6,5] (.step 4 [8,6,5] (.step 5 [8,6] (.step 6 [8] (.step 8 [] (.done))))))) (.cons 4 (.fork (.cons 0 (.step 2 [8,6,5,3] (.step 3 [8,6,5] (.step 5 [8,6] (.step 6 [8] (.step 8 [] (.done)))))) (.cons 2 (.step 0 [8,6,5] (.step 3 [8,6,5] (.step 5 [8,6] (.step 6 [8] (.step 8 [] (.done)))))) (.nil)))) (.nil))))) (.nil)))))),[2])]
theorem qcz (q:Ask)(h:AskOk q):PZ 12 [.sl 4 (q.src.map qn) .none,.str q.name,.sl 1 (q.off.map qs) .none,.sl 12 (q.more.map qK) .none,.sl 2 (q.state.map qD) .none] (.tup [.agg (yM (jP q)),I_ (jm q)]):=by
 refine Pure.kO ⟨true,qpL,[],[]⟩ true qg Tryz.func12 rfl (by kernel_rfl) ?_;have hfl:=qkQ q.src h.src h.low q.name;have hE:jm q=if jR q.src q.name≠0 then jR q.src q.name else if q.off.any (fun s=>!(qy q.src q.name).blocks.any fun b=>b.name==s)=true then 7 else WW (qy q.src q.name) q.off q.more q.state:=rfl
 have hS:jP q=if jm q≠0 then yC else Qr (qy q.src q.name) q.off q.more q.state:=rfl
 have hok:jR q.src q.name=0->ClsOk (qy q.src q.name):=fun h=>qbr h
 have hfew:=h.few;have hoff:=h.off;have hst:=h.state;generalize jP q=PS at *;generalize hPE:jm q=pe at *;generalize qy q.src q.name=c at *;generalize jR q.src q.name=le at *;obtain⟨src,name,off,more,state⟩:=q;simp only at *;have hzp:∀ n:Int,pe=n->n≠0->PS=yC:=fun n e1 e2=>by rw[hS,if_pos (by rw[e1];exact e2)]
 simp only[qn]at hfl;simp[-getElem?_pos];refine qd.call hfl (by simp) ?_;by_cases hl:le=0
 . subst hl;rw[if_neg (by simp)]at hE;have hc:=hok rfl;simp[-getElem?_pos];simp only[]at *;refine qv.listR off (fun d ev O=>ev 2=.sl 1 (off.map qs) .none/\ev 3=.sl 12 (more.map qK) .none/\ev 9=.ptr 0 0/\ev 10=.ptr 1 0/\ev 12=.ptr 2 0/\ev 30=.sl 1 (off.map qs) .none/\ev 31=I_ off.length/\ev 32=I_ d.length/\(∀ s∈d,(c.blocks.any fun b=>b.name==s)=true) /\
    O.H[0]?=some (.cells [.sl 2 (state.map qD) .none])/\O.H[1]?=some (.cells [.sl 0 [] .nil,.sl 0 [] .nil,.sl 0 [] .nil,.sl 0 [] .nil,.sl 0 [] .nil])/\O.H[2]?=some (.cells [.str c.name,.str c.parent,.sl 5 (c.fields.map q8) .none,.sl 2 (c.blocks.map qR) .none])) ?_ ?_ ?_
   . exact⟨by simp,by simp,by simp,by simp,by simp,by simp,by simp,by simp,by simp,by simp,by simp,by simp⟩
   . rintro d s r ev ⟨H1,T1⟩ Rl hRl hd hx hlt ⟨h2,h3,h9,h10,h12,h30,h31,h32,hz,b0,b1,b2⟩;simp only at b0 b1 b2;have hcn:=qiq c.blocks (by have:=hc.nb;unfold Fits;omega) s;have hdw:IntKind.i64.wrap ((d.length:Int)+1)=(d.length+1:Nat):=(by rw[wr (by omega) (by omega)];omega);simp[-getElem?_pos,h12,h30,h31,h32,hlt,hx,qs,qb b2];refine qd.lent hcn rfl ?_ ?_
     . have hb3:(H1++[Blk.cells [AV.str s]])[H1.length]?=some (.cells [.str s]):=(by simp);have f1:frz (H1++[Blk.cells [AV.str s]]) 8 (.fn 44 [] [.ptr H1.length 0])=.fn 44 [] [.rptr [.str s]]:=by
        rw[frz,if_neg (by simp[zg,qu])];simp only[qqZ,qq9,qbo hb3,qsv,Qi]
       simp only[qqZ,qq9,f1,zt,and_true];exact⟨by rw[qP (by simp)];exact Leq.refl _,Leq.refl _⟩
     . by_cases hin:(c.blocks.any fun b=>b.name==s)=true
       . simp[-getElem?_pos,hin,hdw,h32];refine hRl _ _ ⟨h2,h3,h9,h10,h12,h30,h31,by simp,zu hz hin,qb b0 _,qb b1 _,qb b2 _⟩
       . have hany:off.any (fun s=>!c.blocks.any fun b=>b.name==s)=true:=qq2.2 ⟨s,qqW hx,by simpa using hin⟩;rw[if_pos hany]at hE;have hz0:=hzp 7 hE (by decide);subst hE hz0;have b1':=qb b1 [Blk.cells [AV.str s]];have sb1:=fun y:Blk=>(by have:=kL (y:=y) (t:=[]) b1';simpa using this:((H1++[Blk.cells [AV.str s]]).set 1 y)[1]?=some y)
         simp[-getElem?_pos,hin,h10,b1',sb1,yC];exact zfin _ _
   . rintro ev ⟨H1,T1⟩ ⟨h2,h3,h9,h10,h12,h30,h31,h32,hz,b0,b1,b2⟩;simp only at b0 b1 b2;have hany:¬ off.any (fun s=>!c.blocks.any fun b=>b.name==s)=true:=by
      intro hh;obtain⟨s,hs,hs2⟩:=qq2.1 hh;rw[hz s hs]at hs2;cases hs2
     rw[if_neg hany]at hE;simp[-getElem?_pos,h31,h32];rw[zJ rfl];refine qos (Laid c off more state) ?_ ?_
     . have hlen3:3<=H1.length:=(qqV.1 b2).1;have hcv:=fun (H:List Blk) (T:List (Option Nat))=>qqC c (by have:=hc.nf;omega) (by have:=hc.nb;omega) H T
       simp only[qn]at hcv;simp[-getElem?_pos,zR,h12,b2,qb b2]
       repeat' with_reducible apply And.intro
       . refine qd.acall (hcv _ _) ?_;rintro v O' ⟨H',rfl,ob,hrow,hob,hlen,hkeep⟩;have hb2:=hkeep 2 _ (by first | exact b2 | exact qb b2 _);have hac:=hrow.acells;have hat:=hrow.atom;simp[-getElem?_pos,zR,hac,hat];have hge:H1.length<=H'.length:=(by first | exact hlen | (simp at hlen;omega));refine⟨⟨?_,?_⟩,?_⟩
         . exact ji hlen3 b0 b1 b2 (by simp[h2]) (by simp[h3]) (by simp[h9]) (by simp[h10]) (by simp[h12]) (B:=H'.length+1) (m:=H'.length) (bp:=H'.length+2) (by simp) (by omega) (by omega) (by omega) (by simp) (by simp) (by simp) (fun k x hk=>qb (hkeep k x (by first | exact hk | exact qb hk _)) _) (hrow.keep fun x _ hx=>qb hx _) (hob.imp id fun h=>by first | exact h | (simp at h;omega))
         . exact ji hlen3 b0 b1 b2 (by simp[h2]) (by simp[h3]) (by simp[h9]) (by simp[h10]) (by simp[h12]) (B:=H'.length+2) (m:=H'.length) (bp:=H'.length+1) (by simp) (by omega) (by omega) (by omega) (by simp) (by simp) (by simp) (fun k x hk=>qb (hkeep k x (by first | exact hk | exact qb hk _)) _) (hrow.keep fun x _ hx=>qb hx _) (hob.imp id fun h=>by first | exact h | (simp at h;omega))
         . exact ji hlen3 b0 b1 b2 (by simp[h2]) (by simp[h3]) (by simp[h9]) (by simp[h10]) (by simp[h12]) (B:=H'.length+2) (m:=H'.length+1) (bp:=H'.length) (by simp) (by omega) (by omega) (by omega) (by simp) (by simp) (by simp) (fun k x hk=>qb (hkeep k x (by first | exact hk | exact qb hk _)) _) (hrow.keep fun x _ hx=>qb hx _) (hob.imp id fun h=>by first | exact h | (simp at h;omega))
       . refine qd.acall (hcv _ _) ?_;rintro v O' ⟨H',rfl,ob,hrow,hob,hlen,hkeep⟩;have hb2:=hkeep 2 _ (by first | exact b2 | exact qb b2 _);have hac:=hrow.acells;have hat:=hrow.atom;have hm1:H'[H1.length]?=some (.map [] 0):=hkeep _ _ (by simp);simp[-getElem?_pos,zR,hac,hat];have hge:H1.length<=H'.length:=(by first | exact hlen | (simp at hlen;omega));refine⟨?_,?_⟩
         . exact ji hlen3 b0 b1 b2 (by simp[h2]) (by simp[h3]) (by simp[h9]) (by simp[h10]) (by simp[h12]) (B:=H'.length) (m:=H1.length) (bp:=H'.length+1) (by simp) (by omega) (by omega) (by omega) (by simp) (qb hm1 _) (by simp) (fun k x hk=>qb (hkeep k x (by first | exact hk | exact qb hk _)) _) (hrow.keep fun x _ hx=>qb hx _) (hob.imp id fun h=>by first | exact h | (simp at h;omega))
         . exact ji hlen3 b0 b1 b2 (by simp[h2]) (by simp[h3]) (by simp[h9]) (by simp[h10]) (by simp[h12]) (B:=H'.length+1) (m:=H1.length) (bp:=H'.length) (by simp) (by omega) (by omega) (by omega) (by simp) (qb hm1 _) (by simp) (fun k x hk=>qb (hkeep k x (by first | exact hk | exact qb hk _)) _) (hrow.keep fun x _ hx=>qb hx _) (hob.imp id fun h=>by first | exact h | (simp at h;omega))
       . refine qd.acall (hcv _ _) ?_;rintro v O' ⟨H',rfl,ob,hrow,hob,hlen,hkeep⟩;have hb2:=hkeep 2 _ (by first | exact b2 | exact qb b2 _);have hac:=hrow.acells;have hat:=hrow.atom;have hm1:H'[H1.length]?=some (.map [] 0):=hkeep _ _ (by simp);have hp1:H'[H1.length+1]?=some (.cells [.nilp]):=hkeep _ _ (by simp);simp[-getElem?_pos,zR,hac,hat,qb hp1,zV hp1];have hge:H1.length<=H'.length:=(by first | exact hlen | (simp at hlen;omega));exact ji hlen3 b0 b1 b2 (by simp[h2]) (by simp[h3]) (by simp[h9]) (by simp[h10]) (by simp[h12]) (B:=H'.length) (m:=H1.length) (bp:=H1.length+1) (by simp) (by omega) (by omega) (by omega) (qb (qq4 (qqV.1 hp1).1) _) (qb (by rw[qqX (by omega)];exact hm1) _) (by simp) (fun k x hk=>qb (by rw[qqX (by have:=(qqV.1 hk).1;omega)];exact hkeep k x (qb hk _)) _) (hrow.keep fun x hne hx=>qb (by rw[qqX (by have:=hob.resolve_left hne;simp at this;omega)];exact hx) _) (hob.imp id fun h=>by first | exact h | (simp at h;omega))
       . refine qd.acall (hcv _ _) ?_;rintro v O' ⟨H',rfl,ob,hrow,hob,hlen,hkeep⟩;have hb2:=hkeep 2 _ (by first | exact b2 | exact qb b2 _);have hac:=hrow.acells;have hat:=hrow.atom;have hp1:H'[H1.length]?=some (.cells [.nilp]):=hkeep _ _ (by simp);simp[-getElem?_pos,zR,hac,hat,qb hp1,zV hp1];have hge:H1.length<=H'.length:=(by first | exact hlen | (simp at hlen;omega));exact ji hlen3 b0 b1 b2 (by simp[h2]) (by simp[h3]) (by simp[h9]) (by simp[h10]) (by simp[h12]) (B:=H'.length+1) (m:=H'.length) (bp:=H1.length) (by simp) (by omega) (by omega) (by omega) (qb (qq4 (qqV.1 hp1).1) _) (by simp) (by simp) (fun k x hk=>qb (by rw[qqX (by have:=(qqV.1 hk).1;omega)];exact hkeep k x (qb hk _)) _) (hrow.keep fun x hne hx=>qb (by rw[qqX (by have:=hob.resolve_left hne;simp at this;omega)];exact hx) _) (hob.imp id fun h=>by first | exact h | (simp at h;omega))
       . refine qd.acall (hcv _ _) ?_;rintro v O' ⟨H',rfl,ob,hrow,hob,hlen,hkeep⟩;have hb2:=hkeep 2 _ (by first | exact b2 | exact qb b2 _);have hac:=hrow.acells;have hat:=hrow.atom;have hm1:H'[H1.length+1]?=some (.map [] 0):=hkeep _ _ (by simp);have hp1:H'[H1.length]?=some (.cells [.nilp]):=hkeep _ _ (by simp);simp[-getElem?_pos,zR,hac,hat,qb hp1,zV hp1];have hge:H1.length<=H'.length:=(by first | exact hlen | (simp at hlen;omega));exact ji hlen3 b0 b1 b2 (by simp[h2]) (by simp[h3]) (by simp[h9]) (by simp[h10]) (by simp[h12]) (B:=H'.length) (m:=H1.length+1) (bp:=H1.length) (by simp) (by omega) (by omega) (by omega) (qb (qq4 (qqV.1 hp1).1) _) (qb (by rw[qqX (by omega)];exact hm1) _) (by simp) (fun k x hk=>qb (by rw[qqX (by have:=(qqV.1 hk).1;omega)];exact hkeep k x (qb hk _)) _) (hrow.keep fun x hne hx=>qb (by rw[qqX (by have:=hob.resolve_left hne;simp at this;omega)];exact hx) _) (hob.imp id fun h=>by first | exact h | (simp at h;omega))
       . refine qd.acall (hcv _ _) ?_;rintro v O' ⟨H',rfl,ob,hrow,hob,hlen,hkeep⟩;have hb2:=hkeep 2 _ (by first | exact b2 | exact qb b2 _);have hac:=hrow.acells;have hat:=hrow.atom;simp[-getElem?_pos,zR,hac,hat,hb2,h12];have hge:H1.length<=H'.length:=(by first | exact hlen | (simp at hlen;omega));refine⟨⟨?_,?_⟩,?_⟩
         . exact ji hlen3 b0 b1 b2 (by simp[h2]) (by simp[h3]) (by simp[h9]) (by simp[h10]) (by simp[h12]) (B:=H'.length+1) (m:=H'.length) (bp:=H'.length+2) (by simp) (by omega) (by omega) (by omega) (by simp) (by simp) (by simp) (fun k x hk=>qb (hkeep k x (by first | exact hk | exact qb hk _)) _) (hrow.keep fun x _ hx=>qb hx _) (hob.imp id fun h=>by first | exact h | (simp at h;omega))
         . exact ji hlen3 b0 b1 b2 (by simp[h2]) (by simp[h3]) (by simp[h9]) (by simp[h10]) (by simp[h12]) (B:=H'.length+2) (m:=H'.length) (bp:=H'.length+1) (by simp) (by omega) (by omega) (by omega) (by simp) (by simp) (by simp) (fun k x hk=>qb (hkeep k x (by first | exact hk | exact qb hk _)) _) (hrow.keep fun x _ hx=>qb hx _) (hob.imp id fun h=>by first | exact h | (simp at h;omega))
         . exact ji hlen3 b0 b1 b2 (by simp[h2]) (by simp[h3]) (by simp[h9]) (by simp[h10]) (by simp[h12]) (B:=H'.length+2) (m:=H'.length+1) (bp:=H'.length) (by simp) (by omega) (by omega) (by omega) (by simp) (by simp) (by simp) (fun k x hk=>qb (hkeep k x (by first | exact hk | exact qb hk _)) _) (hrow.keep fun x _ hx=>qb hx _) (hob.imp id fun h=>by first | exact h | (simp at h;omega))
       . refine qd.acall (hcv _ _) ?_;rintro v O' ⟨H',rfl,ob,hrow,hob,hlen,hkeep⟩;have hb2:=hkeep 2 _ (by first | exact b2 | exact qb b2 _);have hac:=hrow.acells;have hat:=hrow.atom;have hm1:H'[H1.length]?=some (.map [] 0):=hkeep _ _ (by simp);simp[-getElem?_pos,zR,hac,hat];have hge:H1.length<=H'.length:=(by first | exact hlen | (simp at hlen;omega));refine⟨?_,?_⟩
         . exact ji hlen3 b0 b1 b2 (by simp[h2]) (by simp[h3]) (by simp[h9]) (by simp[h10]) (by simp[h12]) (B:=H'.length) (m:=H1.length) (bp:=H'.length+1) (by simp) (by omega) (by omega) (by omega) (by simp) (qb hm1 _) (by simp) (fun k x hk=>qb (hkeep k x (by first | exact hk | exact qb hk _)) _) (hrow.keep fun x _ hx=>qb hx _) (hob.imp id fun h=>by first | exact h | (simp at h;omega))
         . exact ji hlen3 b0 b1 b2 (by simp[h2]) (by simp[h3]) (by simp[h9]) (by simp[h10]) (by simp[h12]) (B:=H'.length+1) (m:=H1.length) (bp:=H'.length) (by simp) (by omega) (by omega) (by omega) (by simp) (qb hm1 _) (by simp) (fun k x hk=>qb (hkeep k x (by first | exact hk | exact qb hk _)) _) (hrow.keep fun x _ hx=>qb hx _) (hob.imp id fun h=>by first | exact h | (simp at h;omega))
       . refine qd.acall (hcv _ _) ?_;rintro v O' ⟨H',rfl,ob,hrow,hob,hlen,hkeep⟩;have hb2:=hkeep 2 _ (by first | exact b2 | exact qb b2 _);have hac:=hrow.acells;have hat:=hrow.atom;have hm1:H'[H1.length]?=some (.map [] 0):=hkeep _ _ (by simp);have hp1:H'[H1.length+1]?=some (.cells [.nilp]):=hkeep _ _ (by simp);simp[-getElem?_pos,zR,hac,hat,qb hp1,zV hp1];have hge:H1.length<=H'.length:=(by first | exact hlen | (simp at hlen;omega));exact ji hlen3 b0 b1 b2 (by simp[h2]) (by simp[h3]) (by simp[h9]) (by simp[h10]) (by simp[h12]) (B:=H'.length) (m:=H1.length) (bp:=H1.length+1) (by simp) (by omega) (by omega) (by omega) (qb (qq4 (qqV.1 hp1).1) _) (qb (by rw[qqX (by omega)];exact hm1) _) (by simp) (fun k x hk=>qb (by rw[qqX (by have:=(qqV.1 hk).1;omega)];exact hkeep k x (qb hk _)) _) (hrow.keep fun x hne hx=>qb (by rw[qqX (by have:=hob.resolve_left hne;simp at this;omega)];exact hx) _) (hob.imp id fun h=>by first | exact h | (simp at h;omega))
       . refine qd.acall (hcv _ _) ?_;rintro v O' ⟨H',rfl,ob,hrow,hob,hlen,hkeep⟩;have hb2:=hkeep 2 _ (by first | exact b2 | exact qb b2 _);have hac:=hrow.acells;have hat:=hrow.atom;have hm1:H'[H1.length]?=some (.map [] 0):=hkeep _ _ (by simp);simp[-getElem?_pos,zR,hac,hat,hb2,h12];have hge:H1.length<=H'.length:=(by first | exact hlen | (simp at hlen;omega));refine⟨?_,?_⟩
         . exact ji hlen3 b0 b1 b2 (by simp[h2]) (by simp[h3]) (by simp[h9]) (by simp[h10]) (by simp[h12]) (B:=H'.length) (m:=H1.length) (bp:=H'.length+1) (by simp) (by omega) (by omega) (by omega) (by simp) (qb hm1 _) (by simp) (fun k x hk=>qb (hkeep k x (by first | exact hk | exact qb hk _)) _) (hrow.keep fun x _ hx=>qb hx _) (hob.imp id fun h=>by first | exact h | (simp at h;omega))
         . exact ji hlen3 b0 b1 b2 (by simp[h2]) (by simp[h3]) (by simp[h9]) (by simp[h10]) (by simp[h12]) (B:=H'.length+1) (m:=H1.length) (bp:=H'.length) (by simp) (by omega) (by omega) (by omega) (by simp) (qb hm1 _) (by simp) (fun k x hk=>qb (hkeep k x (by first | exact hk | exact qb hk _)) _) (hrow.keep fun x _ hx=>qb hx _) (hob.imp id fun h=>by first | exact h | (simp at h;omega))
       . refine qd.acall (hcv _ _) ?_;rintro v O' ⟨H',rfl,ob,hrow,hob,hlen,hkeep⟩;have hb2:=hkeep 2 _ (by first | exact b2 | exact qb b2 _);have hac:=hrow.acells;have hat:=hrow.atom;have hm1:H'[H1.length]?=some (.map [] 0):=hkeep _ _ (by simp);have hp1:H'[H1.length+1]?=some (.cells [.nilp]):=hkeep _ _ (by simp);simp[-getElem?_pos,zR,hac,hat,qb hp1,zV hp1];have hge:H1.length<=H'.length:=(by first | exact hlen | (simp at hlen;omega));exact ji hlen3 b0 b1 b2 (by simp[h2]) (by simp[h3]) (by simp[h9]) (by simp[h10]) (by simp[h12]) (B:=H'.length) (m:=H1.length) (bp:=H1.length+1) (by simp) (by omega) (by omega) (by omega) (qb (qq4 (qqV.1 hp1).1) _) (qb (by rw[qqX (by omega)];exact hm1) _) (by simp) (fun k x hk=>qb (by rw[qqX (by have:=(qqV.1 hk).1;omega)];exact hkeep k x (qb hk _)) _) (hrow.keep fun x hne hx=>qb (by rw[qqX (by have:=hob.resolve_left hne;simp at this;omega)];exact hx) _) (hob.imp id fun h=>by first | exact h | (simp at h;omega))
       . refine qd.acall (hcv _ _) ?_;rintro v O' ⟨H',rfl,ob,hrow,hob,hlen,hkeep⟩;have hb2:=hkeep 2 _ (by first | exact b2 | exact qb b2 _);have hac:=hrow.acells;have hat:=hrow.atom;have hm1:H'[H1.length]?=some (.map [] 0):=hkeep _ _ (by simp);have hp1:H'[H1.length+1]?=some (.cells [.nilp]):=hkeep _ _ (by simp);simp[-getElem?_pos,zR,hac,hat,hb2,h12,qb hp1,zV hp1];have hge:H1.length<=H'.length:=(by first | exact hlen | (simp at hlen;omega));exact ji hlen3 b0 b1 b2 (by simp[h2]) (by simp[h3]) (by simp[h9]) (by simp[h10]) (by simp[h12]) (B:=H'.length) (m:=H1.length) (bp:=H1.length+1) (by simp) (by omega) (by omega) (by omega) (qb (qq4 (qqV.1 hp1).1) _) (qb (by rw[qqX (by omega)];exact hm1) _) (by simp) (fun k x hk=>qb (by rw[qqX (by have:=(qqV.1 hk).1;omega)];exact hkeep k x (qb hk _)) _) (hrow.keep fun x hne hx=>qb (by rw[qqX (by have:=hob.resolve_left hne;simp at this;omega)];exact hx) _) (hob.imp id fun h=>by first | exact h | (simp at h;omega))
       . refine qd.acall (hcv _ _) ?_;rintro v O' ⟨H',rfl,ob,hrow,hob,hlen,hkeep⟩;have hb2:=hkeep 2 _ (by first | exact b2 | exact qb b2 _);have hac:=hrow.acells;have hat:=hrow.atom;have hp1:H'[H1.length]?=some (.cells [.nilp]):=hkeep _ _ (by simp);simp[-getElem?_pos,zR,hac,hat,qb hp1,zV hp1];have hge:H1.length<=H'.length:=(by first | exact hlen | (simp at hlen;omega));exact ji hlen3 b0 b1 b2 (by simp[h2]) (by simp[h3]) (by simp[h9]) (by simp[h10]) (by simp[h12]) (B:=H'.length+1) (m:=H'.length) (bp:=H1.length) (by simp) (by omega) (by omega) (by omega) (qb (qq4 (qqV.1 hp1).1) _) (by simp) (by simp) (fun k x hk=>qb (by rw[qqX (by have:=(qqV.1 hk).1;omega)];exact hkeep k x (qb hk _)) _) (hrow.keep fun x hne hx=>qb (by rw[qqX (by have:=hob.resolve_left hne;simp at this;omega)];exact hx) _) (hob.imp id fun h=>by first | exact h | (simp at h;omega))
       . refine qd.acall (hcv _ _) ?_;rintro v O' ⟨H',rfl,ob,hrow,hob,hlen,hkeep⟩;have hb2:=hkeep 2 _ (by first | exact b2 | exact qb b2 _);have hac:=hrow.acells;have hat:=hrow.atom;have hm1:H'[H1.length+1]?=some (.map [] 0):=hkeep _ _ (by simp);have hp1:H'[H1.length]?=some (.cells [.nilp]):=hkeep _ _ (by simp);simp[-getElem?_pos,zR,hac,hat,qb hp1,zV hp1];have hge:H1.length<=H'.length:=(by first | exact hlen | (simp at hlen;omega));exact ji hlen3 b0 b1 b2 (by simp[h2]) (by simp[h3]) (by simp[h9]) (by simp[h10]) (by simp[h12]) (B:=H'.length) (m:=H1.length+1) (bp:=H1.length) (by simp) (by omega) (by omega) (by omega) (qb (qq4 (qqV.1 hp1).1) _) (qb (by rw[qqX (by omega)];exact hm1) _) (by simp) (fun k x hk=>qb (by rw[qqX (by have:=(qqV.1 hk).1;omega)];exact hkeep k x (qb hk _)) _) (hrow.keep fun x hne hx=>qb (by rw[qqX (by have:=hob.resolve_left hne;simp at this;omega)];exact hx) _) (hob.imp id fun h=>by first | exact h | (simp at h;omega))
       . refine qd.acall (hcv _ _) ?_;rintro v O' ⟨H',rfl,ob,hrow,hob,hlen,hkeep⟩;have hb2:=hkeep 2 _ (by first | exact b2 | exact qb b2 _);have hac:=hrow.acells;have hat:=hrow.atom;have hp1:H'[H1.length]?=some (.cells [.nilp]):=hkeep _ _ (by simp);simp[-getElem?_pos,zR,hac,hat,hb2,h12,qb hp1,zV hp1];have hge:H1.length<=H'.length:=(by first | exact hlen | (simp at hlen;omega));exact ji hlen3 b0 b1 b2 (by simp[h2]) (by simp[h3]) (by simp[h9]) (by simp[h10]) (by simp[h12]) (B:=H'.length+1) (m:=H'.length) (bp:=H1.length) (by simp) (by omega) (by omega) (by omega) (qb (qq4 (qqV.1 hp1).1) _) (by simp) (by simp) (fun k x hk=>qb (by rw[qqX (by have:=(qqV.1 hk).1;omega)];exact hkeep k x (qb hk _)) _) (hrow.keep fun x hne hx=>qb (by rw[qqX (by have:=hob.resolve_left hne;simp at this;omega)];exact hx) _) (hob.imp id fun h=>by first | exact h | (simp at h;omega))
       . refine qd.acall (hcv _ _) ?_;rintro v O' ⟨H',rfl,ob,hrow,hob,hlen,hkeep⟩;have hb2:=hkeep 2 _ (by first | exact b2 | exact qb b2 _);have hac:=hrow.acells;have hat:=hrow.atom;have hm1:H'[H1.length+1]?=some (.map [] 0):=hkeep _ _ (by simp);have hp1:H'[H1.length]?=some (.cells [.nilp]):=hkeep _ _ (by simp);simp[-getElem?_pos,zR,hac,hat,qb hp1,zV hp1];have hge:H1.length<=H'.length:=(by first | exact hlen | (simp at hlen;omega));exact ji hlen3 b0 b1 b2 (by simp[h2]) (by simp[h3]) (by simp[h9]) (by simp[h10]) (by simp[h12]) (B:=H'.length) (m:=H1.length+1) (bp:=H1.length) (by simp) (by omega) (by omega) (by omega) (qb (qq4 (qqV.1 hp1).1) _) (qb (by rw[qqX (by omega)];exact hm1) _) (by simp) (fun k x hk=>qb (by rw[qqX (by have:=(qqV.1 hk).1;omega)];exact hkeep k x (qb hk _)) _) (hrow.keep fun x hne hx=>qb (by rw[qqX (by have:=hob.resolve_left hne;simp at this;omega)];exact hx) _) (hob.imp id fun h=>by first | exact h | (simp at h;omega))
       . refine qd.acall (hcv _ _) ?_;rintro v O' ⟨H',rfl,ob,hrow,hob,hlen,hkeep⟩;have hb2:=hkeep 2 _ (by first | exact b2 | exact qb b2 _);have hac:=hrow.acells;have hat:=hrow.atom;have hm1:H'[H1.length+1]?=some (.map [] 0):=hkeep _ _ (by simp);have hp1:H'[H1.length]?=some (.cells [.nilp]):=hkeep _ _ (by simp);simp[-getElem?_pos,zR,hac,hat,hb2,h12,qb hp1,zV hp1];have hge:H1.length<=H'.length:=(by first | exact hlen | (simp at hlen;omega));exact ji hlen3 b0 b1 b2 (by simp[h2]) (by simp[h3]) (by simp[h9]) (by simp[h10]) (by simp[h12]) (B:=H'.length) (m:=H1.length+1) (bp:=H1.length) (by simp) (by omega) (by omega) (by omega) (qb (qq4 (qqV.1 hp1).1) _) (qb (by rw[qqX (by omega)];exact hm1) _) (by simp) (fun k x hk=>qb (by rw[qqX (by have:=(qqV.1 hk).1;omega)];exact hkeep k x (qb hk _)) _) (hrow.keep fun x hne hx=>qb (by rw[qqX (by have:=hob.resolve_left hne;simp at this;omega)];exact hx) _) (hob.imp id fun h=>by first | exact h | (simp at h;omega))
     . clear h2 h3 h9 h10 h12 h30 h31 h32 hz b0 b1 b2;rintro ev ⟨H2,T2⟩ ⟨h2,h3,h9,h10,h12,b0,b1,b2,B,m,bp,vb,vv,h16,g1,g2,g3,g4,g5,g6,hvb,hbp,hm,hB,hown⟩;simp only at b0 b1 b2 hbp hm hB hown;have hls:(zr c off more).length<=25:=by
        have:=hc.nb;have h1:=qrr (onB off) c.blocks;simp only[zr,qqY,qrv,qq8];omega
       have hcon:=qbD c off more (by have:=hc.nb;omega) hoff H2 T2 B _ _ _ _ _ _ _ _ _ hB;simp[-getElem?_pos,h2,h3,h16,hbp];refine qd.acall hcon ?_;rintro v O' ⟨rfl,t,T3,rfl,hT3⟩;simp[-getElem?_pos,h16,h9,h12,qb hbp];have hl1:(qf c).length<=1000:=Z9 hc;have hw1:∀ v∈qf c,0<=v.width/\v.width<=8:=qb4 hc;have lB:=(qqV.1 hB).1;have lm:=(qqV.1 hm).1;have lp:=(qqV.1 hbp).1;obtain⟨vb',hown',hvb'⟩:∃ vb',zi vb' 4 qo H2 vv (qf c)/\(vb'=H2.length+t.length+100\/(3<=vb'/\vb' < H2.length/\vb'≠B/\vb'≠bp/\vb'≠m)):=by
        by_cases hV:qf c=[]
        . refine⟨_,?_,.inl rfl⟩;rcases hown with h|⟨h,_⟩
          . exact .inl h
          . exact absurd hV h
        . obtain⟨k1,k2,k3,k4⟩:=hvb hV;exact⟨vb,hown,.inr ⟨k1,hown.lt hV,k2,k3,k4⟩⟩
       have hBX:BX [] B vb' m c (qf c) ⟨H2++(t++[.cells [.sl 1 ((zr c off more).map ZE) .none],.cells [.sl 0 [] .nil]]),T3⟩ [] [] 0 [] 0 :=
        ⟨⟨vv,.sl 0 [] .nil,qb hB _,hown'.keep fun x _ hx=>qb hx _,.inl ⟨rfl,rfl⟩⟩,qb hm _,AfterOk.nil,qtp⟩
       have hans:=JN c off more state;rw[<- hE]at hans;have hbd:=qqI (B:=B) (vb:=vb') (m:=m) hc hl1 hw1 (zr c off more) hls hfew state hst (H2++(t++[.cells [.sl 1 ((zr c off more).map ZE) .none],.cells [.sl 0 [] .nil]])) T3 (H2.length+t.length) 2 (H2.length+(t.length+1)) bp 0 1 0 0 (by simp) (qb b2 _) (by simp) (qb hbp _) (qb b0 _) ⟨_,qb b1 _,rfl⟩
        (by
          intro k hk;simp only[qra,qru,or_false]at hk ⊢;omega) (by omega) (by omega) hBX .tight
       rw[<- hans]at hbd;refine qd.acall hbd ?_;rintro v ⟨H5,T5⟩ ⟨rfl,⟨z,hz1,hz2⟩,hpost⟩;simp only at hz1;obtain⟨z0,z1,z2,z3,z4,rfl⟩:∃ z0 z1 z2 z3 z4,z=[z0,z1,z2,z3,z4]:=by
        match z,hz2 with
        | [z0,z1,z2,z3,z4],_=>exact⟨z0,z1,z2,z3,z4,rfl⟩
       have hz1l:=(qqV.1 hz1).1;have sz1:=fun y:Blk=>(by have:=kL (y:=y) (t:=[]) hz1;simpa using this:(H5.set 1 y)[1]?=some y)
       by_cases h0:pe=0
       . obtain⟨hbp5,vb5,hb,sb,gb,m5,vv5,hv,sv,dv,gvv,hC,hV5,hH5,hS5,hD5,hG5,hgb5⟩:=hpost h0;simp only at hbp5 hC hV5 hH5 hS5 hG5;have d1:acells dv=some [dv]:=(by obtain⟨sz,tok,rfl,_⟩:=hD5;rfl);have d2:acells gvv=some [gvv]:=(by obtain⟨ps,tl,rfl,_⟩:=hG5;rfl);have d3:AV.atom dv=true:=(by obtain⟨sz,tok,rfl,_⟩:=hD5;rfl);have d4:AV.atom gvv=true:=(by obtain⟨ps,tl,rfl,_⟩:=hG5;rfl);simp[-getElem?_pos,h0,h16,h10,hbp5,hC,hz1,sz1,hV5.atom,hH5.atom,hS5.atom,d3,d4];have hPS:PS=Qr c off more state:=(by rw[hS,if_neg (by simp[h0])]);rw[hPS];obtain⟨r1,r2⟩:=qgG (H:=H5.set 1 (.cells [vv5,hv,sv,dv,gvv])) (p:=Qr c off more state) (hV5.keep fun x hne hx=>by rw[qqX (Ne.symm (qaU hV5 (fun x=>by simp) hne hz1))];exact hx) (hH5.keep fun x hne hx=>by rw[qqX (Ne.symm (qaU hH5 zz hne hz1))];exact hx) (hS5.keep fun x hne hx=>by rw[qqX (Ne.symm (qaU hS5 zz hne hz1))];exact hx) hD5 (hG5.keep fun x hx=>by rw[qqX (Ne.symm hgb5)];exact hx) 4;rw[qnu];simp only[qqZ,qq9,qkK];simp only[yM]at r2;exact⟨by simp only[zg,qu,r1,qsp],by simp only[Leq,zt,and_true];exact r2⟩
       . have hz0:=hzp pe rfl h0;subst hz0;simp[-getElem?_pos,h0,h16,h10,hz1,sz1,yC];exact zfin _ _
 . rw[if_pos hl]at hE;have hz:=hzp le hE hl;subst hE hz;simp[-getElem?_pos,hl,yC];exact zfin _ _
section
attribute [local simp] acells fin zh ze pl1 plain pl2 AV.atom
theorem wG (x:It):((qK x).drop 1).take 4=qz x.expr/\(qK x).take 1=[.int .i64 x.kind]/\((qK x).drop 5).take 1=[.str x.name]/\((qK x).drop 6).take 1=[.str x.index]/\((qK x).drop 7).take 1=[.sl 4 (x.ws.map zs) .none]/\((qK x).drop 8).take 1=[.sl 12 (x.items.map qK) .none]/\((qK x).drop 9).take 1=[.sl 12 (x.els.map qK) .none]/\((qK x).drop 10).take 1=[.sl 1 (x.before.map qs) .none]/\((qK x).drop 11).take 1=[.sl 1 (x.after.map qs) .none]:=by
 rw[ql,qa];exact⟨rfl,rfl,rfl,rfl,rfl,rfl,rfl,rfl,rfl⟩
theorem qdI (x:It):((qK x).tail).take 4=qz x.expr:=by rw[<- List.drop_one];exact (wG x).1
theorem qdH (x:It):(qK x).take 1=[.int .i64 x.kind]:=(wG x).2.1
theorem qdG (x:It):((qK x).drop 5).take 1=[.str x.name]:=(wG x).2.2.1
theorem qai (x:It):((qK x).drop 6).take 1=[.str x.index]:=(wG x).2.2.2.1
theorem qla (x:It):((qK x).drop 7).take 1=[.sl 4 (x.ws.map zs) .none]:=(wG x).2.2.2.2.1
theorem qah (x:It):((qK x).drop 8).take 1=[.sl 12 (x.items.map qK) .none]:=(wG x).2.2.2.2.2.1
theorem qgR (x:It):((qK x).drop 9).take 1=[.sl 12 (x.els.map qK) .none]:=(wG x).2.2.2.2.2.2.1
theorem WL (x:It):((qK x).drop 10).take 1=[.sl 1 (x.before.map qs) .none]:=(wG x).2.2.2.2.2.2.2.1
theorem qaj (x:It):((qK x).drop 11).take 1=[.sl 1 (x.after.map qs) .none]:=(wG x).2.2.2.2.2.2.2.2
attribute [local simp high] zO Z0
attribute [local simp] z9 z8 zP jq zS zK zz jd zY jC yy yY Kr qdI qdH qdG qai qla qah qgR WL qaj
def wY:Nat->List It->Bool
 | 0,_=>false
 | r+1,l=>decide (l.length<=8)&&l.all fun x=>yu x.expr 0&&decide (x.ws.length<=20)&&decide (x.before.length<=8)&&decide (x.after.length<=8)&&wY r x.items&&wY r x.els
theorem yF.self {x:It}(h:yF x):Hold1 x:=h x (by rw[qX];simp)
theorem yF.item {x a:It}(h:yF x)(ha:a∈x.items):yF a:=fun y hy=>h y (by rw[qX];exact qrk _ (qrD _ (qV.2 ⟨a,ha,hy⟩)))
theorem yF.else {x a:It}(h:yF x)(ha:a∈x.els):yF a:=fun y hy=>h y (by rw[qX];exact qrk _ (qrK _ (qV.2 ⟨a,ha,hy⟩)))
theorem few38:∀ (r:Nat) (l:List It),r<=5->Fits l->(∀ x∈l,yF x)->PZ 38 [.sl 12 (l.map qK) .none,.int .i64 ((5-r:Nat):Int)] (.bool (wY r l)):=by
 intro r
 induction r with
 | zero=>
  intro l _ hl _;refine Pure.vc qg Tryz.func38 rfl (by kernel_rfl) ?_;by_cases h8:8<l.length
  . have h8':(8:Int)<l.length:=(by omega);simp[-acells,wY,h8']
  . have h8':¬ (8:Int)<l.length:=(by omega);simp[-acells,wY,h8']
 | succ r ihr=>
  intro l hr5 hl hh;refine Pure.vc qg Tryz.func38 rfl (by kernel_rfl) ?_;have hd:¬ (4:Int)<((5-(r+1):Nat):Int):=by omega
  have hd1:IntKind.i64.wrap (((5-(r+1):Nat):Int)+1)=((5-r:Nat):Int):=by rw[wr (by omega) (by omega)];omega
  have he:wY (r+1) l=(decide (l.length<=8)&&l.all fun x=>yu x.expr 0&&decide (x.ws.length<=20)&&decide (x.before.length<=8)&&decide (x.after.length<=8)&&wY r x.items&&wY r x.els):=rfl;generalize wY (r+1) l=res at he;generalize ((5-(r+1):Nat):Int)=D at hd hd1;by_cases h8:8<l.length
  . have h8':(8:Int)<l.length:=(by omega);rw[decide_eq_false (by omega:¬ l.length<=8)]at he;simp at he;subst he;simp[-acells,h8']
  have h8':¬ (8:Int)<l.length:=by omega
  rw[decide_eq_true (by omega:l.length<=8),qsi]at he;simp[-acells,h8',hd];refine qC.intro (fun n ev O=>∃ i,i<=l.length/\n=l.length-i/\ev 0=.sl 12 (l.map qK) .none/\ev 1=.int .i64 D/\ev 5=.int .i64 i/\O=⟨[],[]⟩/\∀ x∈l.take i,(yu x.expr 0&&decide (x.ws.length<=20)&&decide (x.before.length<=8)&&decide (x.after.length<=8)&&wY r x.items&&wY r x.els)=true) l.length ⟨0,by simp,by simp,by simp,by simp,by simp,rfl,by simp⟩ ?_;rintro n ev O ⟨i,hi,rfl,h0,h1,h5,rfl,hz⟩
  cases hvi:l[i]? with
  | some x=>
   obtain⟨hc,hv'⟩:=qqV.1 hvi;have hm:=qqW hvi;have hx:=hh x hm;have hx1:=hx.self;have bad:(yu x.expr 0&&decide (x.ws.length<=20)&&decide (x.before.length<=8)&&decide (x.after.length<=8)&&wY r x.items&&wY r x.els)=false->res=false:=fun hb=>by rw[he];exact Ym hm hb
   have hbr:=qqK x.expr hx1.expr 0 (by omega);have hi1:=ihr x.items (by omega) hx1.items fun y hy=>hx.item hy
   have hi2:=ihr x.els (by omega) hx1.els fun y hy=>hx.else hy
   simp[-acells,h0,h1,h5,hc,hv'];refine qe.call hbr (by simp) ?_;cases hb:yu x.expr 0
   . rw[bad (by rw[hb];simp)];simp[-acells]
   rw[hb]at bad;by_cases c1:20<x.ws.length
   . have c1':(20:Int)<x.ws.length:=(by omega);rw[bad (by rw[decide_eq_false (by omega:¬ x.ws.length<=20)];simp)];simp[-acells,h0,h5,hc,hv',c1']
   have c1':¬ (20:Int)<x.ws.length:=(by omega);by_cases c2:8<x.before.length
   . have c2':(8:Int)<x.before.length:=(by omega);rw[bad (by rw[decide_eq_false (by omega:¬ x.before.length<=8)];simp)];simp[-acells,h0,h5,hc,hv',c1',c2']
   have c2':¬ (8:Int)<x.before.length:=(by omega);by_cases c3:8<x.after.length
   . have c3':(8:Int)<x.after.length:=(by omega);rw[bad (by rw[decide_eq_false (by omega:¬ x.after.length<=8)];simp)];simp[-acells,h0,h5,hc,hv',c1',c2',c3']
   have c3':¬ (8:Int)<x.after.length:=(by omega);simp[-acells,h0,h1,h5,hc,hv',c1',c2',c3',hd1];refine qe.call hi1 (by simp) ?_;cases hf1:wY r x.items
   . rw[bad (by rw[hf1];simp)];simp[-acells]
   simp[-acells,h0,h1,h5,hc,hv',hd1];refine qe.call hi2 (by simp) ?_;cases hf2:wY r x.els
   . rw[bad (by rw[hf2];simp)];simp[-acells]
   simp[-acells,h0,h1,h5];refine⟨_,by omega,i+1,by omega,rfl,wr (by omega) (by omega),?_⟩;have good:(yu x.expr 0&&decide (x.ws.length<=20)&&decide (x.before.length<=8)&&decide (x.after.length<=8)&&wY r x.items&&wY r x.els)=true:=by
    rw[hb,hf1,hf2,decide_eq_true (by omega:x.ws.length<=20),decide_eq_true (by omega:x.before.length<=8),decide_eq_true (by omega:x.after.length<=8)];rfl
   have:=q9 (p:=fun x:It=>(yu x.expr 0&&decide (x.ws.length<=20)&&decide (x.before.length<=8)&&decide (x.after.length<=8)&&wY r x.items&&wY r x.els)=true) hvi hz good;simpa using this
  | none=>
   have hle:l.length<=i:=(by simpa using hvi);have hc:¬ i<l.length:=(by omega);have hall:=Zo (p:=fun x:It=>yu x.expr 0&&decide (x.ws.length<=20)&&decide (x.before.length<=8)&&decide (x.after.length<=8)&&wY r x.items&&wY r x.els) hle hz;rw[hall]at he;subst he;simp[-acells,h0,h1,h5,hc]
end
section
attribute [local simp] acells fin zh ze pl1 plain pl2 AV.atom
attribute [local simp high] zO Z0
attribute [local simp] z9 z8 zP jq zS zK zz jd zY jC yy yY Kr qdI qdH qdG qai qla qah qgR WL qaj
def okC (c:Cls):Bool:=decide (c.fields.length<=8)&&decide (c.blocks.length<=4)&&c.blocks.all fun b=>wY 5 b.items
def Jy (q:Ask):Bool:=decide (q.src.length<=4)&&decide (q.off.length<=8)&&decide (q.state.length<=8)&&wY 5 q.more&&q.src.all okC
theorem qp8 (q:Ask)(h:HoldA q):PZ 10 [.agg (JJ q)] (.bool (Jy q)):=by
 refine Pure.vc qg Tryz.func10 rfl (by kernel_rfl) ?_;have hfm:=few38 5 q.more (by omega) h.more h.items;simp only[qsP,qti]at hfm;have hls:Fits q.src:=h.src;have hr:Jy q=(decide (q.src.length<=4)&&decide (q.off.length<=8)&&decide (q.state.length<=8)&&wY 5 q.more&&q.src.all okC):=rfl;generalize Jy q=r at hr;have bad:∀ c∈q.src,okC c=false->r=false:=fun c hc hb=>by rw[hr,Ym hc hb,qsO]
 simp[-acells];refine qC.intro (fun n ev O=>∃ i,i<=q.src.length/\n=q.src.length-i/\ev 1=.ptr 0 0/\ev 3=.int .i64 i/\O=⟨[.cells (JJ q)],[]⟩/\∀ c∈q.src.take i,okC c=true) q.src.length ⟨0,by simp,by simp,by simp,by simp,by simp,by simp⟩ ?_;rintro n ev O ⟨i,hi,rfl,h1,h3,rfl,hz⟩;have fin:q.src.all okC=true\/4<q.src.length->r=(decide (q.src.length<=4)&&decide (q.off.length<=8)&&decide (q.state.length<=8)&&wY 5 q.more):=fun hor=>by
  rcases hor with hor|hor
  . rw[hr,hor,qsp]
  . rw[hr,decide_eq_false (by omega:¬ q.src.length<=4)];simp
 by_cases hgo:i<q.src.length/\i<5
 . obtain⟨hc,h5⟩:=hgo;have hc':(i:Int)<q.src.length:=(by omega);have h5':(i:Int)<5:=(by omega);obtain⟨c,hvi⟩:∃ c,q.src[i]?=some c:=⟨_,qq6 hc⟩;have hv':=(qqV.1 hvi).2;have hm:=qqW hvi;have hcl:=h.classes c hm;have bad:=bad c hm;have hok:okC c=(decide (c.fields.length<=8)&&decide (c.blocks.length<=4)&&c.blocks.all fun b=>wY 5 b.items):=rfl;by_cases f1:8<c.fields.length
   . have f1':(8:Int)<c.fields.length:=(by omega);rw[bad (by rw[hok,decide_eq_false (by omega:¬ c.fields.length<=8)];rfl)];simp[-acells,h1,h3,hc,hc',h5,h5',hv',f1']
   have f1':¬ (8:Int)<c.fields.length:=(by omega);by_cases f2:4<c.blocks.length
   . have f2':(4:Int)<c.blocks.length:=(by omega);rw[bad (by rw[hok,decide_eq_false (by omega:¬ c.blocks.length<=4)];simp)];simp[-acells,h1,h3,hc,hc',h5,h5',hv',f1',f2']
   have f2':¬ (4:Int)<c.blocks.length:=(by omega);rw[decide_eq_true (by omega:c.fields.length<=8),decide_eq_true (by omega:c.blocks.length<=4),qsi,qsi]at hok;simp[-acells,h1,h3,hc,hc',h5,h5',hv',f1',f2'];refine qC.intro (fun n ev O=>∃ k,k<=c.blocks.length/\n=c.blocks.length-k/\ev 1=.ptr 0 0/\ev 3=.int .i64 i/\ev 4=.int .i64 k/\O=⟨[.cells (JJ q)],[]⟩/\∀ b∈c.blocks.take k,wY 5 b.items=true) c.blocks.length ⟨0,by simp,by simp,by simp[h1],by simp[h3],by simp,by simp,by simp⟩ ?_;clear h1 h3;rintro n ev O ⟨k,hk,rfl,h1,h3,h4,rfl,hzk⟩
   cases hbk:c.blocks[k]? with
   | some b=>
    obtain⟨hck,hb'⟩:=qqV.1 hbk;have hbm:=qqW hbk;obtain⟨g1,g2,g3⟩:=hcl.bnames b hbm;have hfb:=few38 5 b.items (by omega) g2 g3;simp only[qsP,qti]at hfb;simp[-acells,h1,h3,h4,hc,hv',hck,hb'];refine qe.call hfb (by simp) ?_;cases hf:wY 5 b.items
    . rw[bad (by rw[hok];exact Ym hbm hf)];simp[-acells]
    . simp[-acells,h1,h3,h4];exact⟨_,by omega,k+1,by omega,rfl,wr (by omega) (by omega),by simpa using q9 (p:=fun b:Blc=>wY 5 b.items=true) hbk hzk hf⟩
   | none=>
    have hle:c.blocks.length<=k:=(by simpa using hbk);have hck:¬ k<c.blocks.length:=(by omega);have hall:=Zo (p:=fun b:Blc=>wY 5 b.items) hle hzk;simp[-acells,h1,h3,h4,hc,hv',hck];exact⟨_,by omega,i+1,by omega,rfl,wr (by omega) (by omega),q9 (p:=fun c=>okC c=true) hvi hz (by rw[hok,hall])⟩
 . have hstop:q.src.all okC=true\/4<q.src.length:=by
    by_cases hc:i<q.src.length
    . exact .inr (by omega)
    . exact .inl (Zo (by omega) hz)
   have hfin:=fin hstop;by_cases hc:i<q.src.length
   . have hc':(i:Int)<q.src.length:=(by omega);have h5:¬ (i:Int)<5:=(by omega);have h5n:¬ i<5:=(by omega);have l4:¬ (q.src.length:Int)<=4:=(by omega);rw[decide_eq_false (by omega:¬ q.src.length<=4)]at hfin;simp at hfin;subst hfin;simp[-acells,h1,h3,hc,hc',h5,h5n,l4]
   . have hc':¬ (i:Int)<q.src.length:=(by omega);by_cases l4:q.src.length<=4
     . have l4':(q.src.length:Int)<=4:=(by omega);by_cases o8:q.off.length<=8
       . have o8':(q.off.length:Int)<=8:=(by omega);by_cases s8:q.state.length<=8
         . have s8':(q.state.length:Int)<=8:=(by omega);rw[decide_eq_true l4,decide_eq_true o8,decide_eq_true s8]at hfin;simp at hfin;subst hfin;simp[-acells,h1,h3,hc,hc',l4',o8',s8'];refine qe.call hfm (by simp) ?_;simp[-acells]
         . have s8':¬ (q.state.length:Int)<=8:=(by omega);rw[decide_eq_false s8]at hfin;simp at hfin;subst hfin;simp[-acells,h1,h3,hc,hc',l4',o8',s8']
       . have o8':¬ (q.off.length:Int)<=8:=(by omega);rw[decide_eq_false o8]at hfin;simp at hfin;subst hfin;simp[-acells,h1,h3,hc,hc',l4',o8']
     . have l4':¬ (q.src.length:Int)<=4:=(by omega);rw[decide_eq_false l4]at hfin;simp at hfin;subst hfin;simp[-acells,h1,h3,hc,hc',l4']
end
section
attribute [local simp] acells fin zh ze pl1 plain pl2 AV.atom
theorem qjQ:∀ (l:List Ex) (x:Ex),x∈l->(pre x).length<=(ki l).length
 | [],x,h=>by cases h
 | a::r,x,h=>by
  rw[jF,qqY];rcases qra.1 h with rfl|h
  . omega
  . have:=qjQ r x h;omega
theorem qpF (e:Ex):1<=(pre e).length:=by rw[zb];simp
theorem qgW:∀ l:List Ex,l.length<=(ki l).length
 | []=>by simp
 | a::r=>by
  have:=qgW r;have:=qpF a;rw[jF,qqY,qq5];omega
theorem qpE:∀ (e x:Ex),x∈pre e->(pre x).length<=(pre e).length:=by
 refine Ex.ind fun e ih x hx=>?_
 rw[zb]at hx;rcases qra.1 hx with rfl|hx
 . exact qrn _
 . obtain⟨a,ha,hxa⟩:=jz.1 hx;have h1:=ih a ha x hxa;have h2:=qjQ e.args a ha;rw[zb e,qq5];omega
theorem qme {e:Ex}(h:(pre e).length<=1000):vG e:=fun x hx=>by
 have h1:=qpE e x hx;have h2:=qgW x.args;rw[zb x,qq5]at h1;omega
theorem qfb:∀ (r:Nat) (l:List It),wY r l=true->∀ y∈zA l,(pre y.expr).length<=60/\y.ws.length<=20/\y.before.length<=8/\y.after.length<=8/\y.items.length<=8/\y.els.length<=8
 | 0,l,h,y,hy=>by simp[wY]at h
 | r+1,l,h,y,hy=>by
  obtain⟨x,hx,hyx⟩:=qV.1 hy;simp only[wY,qq1,decide_eq_true_eq,qq7]at h;obtain⟨⟨⟨⟨⟨h1,h2⟩,h3⟩,h4⟩,h5⟩,h6⟩:=h.2 x hx;rw[qX]at hyx;rcases qra.1 hyx with rfl|hyx
  . have hl:∀ m,wY r m=true->m.length<=8:=fun m hm=>by
     cases r with
     | zero=>simp[wY]at hm
     | succ r=>simp only[wY,qq1,decide_eq_true_eq]at hm;exact hm.1
    exact⟨qln h1,h2,h3,h4,hl _ h5,hl _ h6⟩
  . rcases qre.1 hyx with hyx|hyx
    . exact qfb r x.items h5 y hyx
    . exact qfb r x.els h6 y hyx
def capF:Nat->Nat
 | 0=>0
 | r+1=>8*(1+2*capF r)
theorem WB:∀ (r:Nat) (l:List It),wY r l=true->(zA l).length<=capF r
 | 0,l,h=>by simp[wY]at h
 | r+1,l,h=>by
  simp only[wY,qq1,decide_eq_true_eq,qq7]at h;have hx:∀ x∈l,(Zy x).length<=1+2*capF r:=fun x hx=>by
   obtain⟨⟨_,h5⟩,h6⟩:=h.2 x hx;have g1:=WB r x.items h5;have g2:=WB r x.els h6;rw[qX,qq5,qqY];omega
  have hf:zA l=l.flatMap Zy:=by
   clear h hx
   induction l with
   | nil=>simp[zA]
   | cons a r ih=>rw[qrm,<- ih];simp[zA]
  rw[hf];have:=yW hx;have h8:=h.1;show _<=8*(1+2*capF r);exact qrN this (qrJ _ h8)
theorem qkW {l:List It}(h:wY 5 l=true)(hh:∀ x∈l,yF x):FewN l/\l.length<=8:=by
 have ha:=qfb 5 l h;have hs:=WB 5 l h;have h8:l.length<=8:=by
  simp only[wY,qq1,decide_eq_true_eq]at h;exact h.1
 have hc:capF 5=559240:=by decide
 have hho:∀ y∈zA l,Hold1 y:=fun y hy=>by
  obtain⟨x,hx,hyx⟩:=qV.1 hy;exact hh x hx y hyx
 refine⟨⟨⟨hho,fun y hy=>?_,by omega,by omega,fun y hy=>by have:=(ha y hy).1;omega⟩,fun y hy=>⟨(ha y hy).2.2.1,(ha y hy).2.2.2.1⟩⟩,h8⟩;obtain⟨g1,g2,g3,g4,g5,g6⟩:=ha y hy;exact⟨qme (by omega),(hho y hy).expr,by omega,by omega,by omega,by omega,by omega⟩
theorem qjN {l:List Blc}{b x:Blc}(h:x∈JO l b):x∈l\/x=b:=by
 unfold JO at h;split at h
 . exact qsj h
 . rcases qre.1 h with h|h
   . exact .inl h
   . simp at h;exact .inr h
theorem V6:∀ (m l:List Blc) (x:Blc),x∈m.foldl JO l->x∈l\/x∈m
 | [],l,x,h=>.inl h
 | b::r,l,x,h=>by
  rcases V6 r _ x h with h|h
  . rcases qjN h with h|rfl
    . exact .inl h
    . exact .inr (by simp)
  . exact .inr (qrk _ h)
theorem JD:∀ (line:List Cls) (x:Blc),x∈(q7 line).1.blocks->∃ c∈line,x∈c.blocks
 | [],x,h=>by simp[q7,Z7]at h
 | c::r,x,h=>by
  have h':x∈c.blocks.foldl JO (q7 r).1.blocks:=h;rcases V6 _ _ _ h' with h|h
  . obtain⟨d,hd,hx⟩:=JD r x h;exact⟨d,qrk _ hd,hx⟩
  . exact⟨c,by simp,h⟩
theorem ZC {src:List Cls}{name:Str}{x:Blc}(h:x∈(qy src name).blocks):∃ c∈src,x∈c.blocks:=by
 unfold qy at h;split at h
 . simp[Z7]at h
 rename_i h0;have hlin:wc src name=j4 src (yo src name):=by unfold wc;rw[if_neg h0]
 rw[hlin]at h;obtain⟨c,hc,hx⟩:=JD _ x h;have hfd:yo src name∈src\/yo src name=Z7:=by
  unfold yo
  cases e:yI src name with
  | none=>exact .inr rfl
  | some d=>exact .inl (qrW e)
 unfold j4 at hc
 cases e:yE src src.length (yo src name) with
 | none=>rw[e]at hc;simp at hc
 | some l=>
  rw[e]at hc;rcases qbP e c hc with rfl|h' | rfl
  . rcases hfd with h1|h1
    . exact⟨_,h1,hx⟩
    . rw[h1]at hx;simp[Z7]at hx
  . exact⟨c,h',hx⟩
  . simp[Z7]at hx
theorem qlv {q:Ask}(h:HoldA q)(hl:Jy q=true):AskOk q:=by
 unfold Jy at hl;simp only[qq1,decide_eq_true_eq,qq7]at hl;obtain⟨⟨⟨⟨h1,h2⟩,h3⟩,h4⟩,h5⟩:=hl;have hb:∀ c∈q.src,c.fields.length<=8/\c.blocks.length<=4/\∀ b∈c.blocks,FewN b.items/\b.items.length<=8:=fun c hc=>by
  have:=h5 c hc;unfold okC at this;simp only[qq1,decide_eq_true_eq,qq7]at this;exact⟨this.1.1,this.1.2,fun b hb=>qkW (this.2 b hb) (((h.classes c hc).bnames b hb).2.2)⟩
 refine⟨by omega,fun c hc=>?_,by unfold Fits;omega,by unfold Fits;omega,fun l hl=>?_⟩
 . obtain⟨g1,g2,g3⟩:=hb c hc;refine⟨by omega,by omega,fun b hb=>⟨by have:=(g3 b hb).2;omega,fun x hx y hy=>?_⟩⟩;exact (g3 b hb).1.few.low y (qV.2 ⟨x,hx,hy⟩)
 . unfold zr at hl;rcases qre.1 hl with hl|hl
   . obtain⟨b,hb2,rfl⟩:=qq3.1 hl;obtain⟨c,hc,hx⟩:=ZC (qrz.1 hb2).1;exact ((hb c hc).2.2 b hx).1
   . simp at hl;subst hl;exact (qkW h4 h.items).1
end
section
attribute [local simp] acells fin zh ze pl1 plain pl2 AV.atom
theorem qoL {q:Ask}(h:AskOk q)(h0:jm q=0):VQ (jP q)/\zT (jP q)=0:=by
 have hE:jm q=if jR q.src q.name≠0 then jR q.src q.name else if q.off.any (fun s=>!(qy q.src q.name).blocks.any fun b=>b.name==s)=true then 7 else WW (qy q.src q.name) q.off q.more q.state:=rfl
 have hS:jP q=Qr (qy q.src q.name) q.off q.more q.state:=by
  have:jP q=if jm q≠0 then yC else Qr (qy q.src q.name) q.off q.more q.state:=rfl
  rw[this,if_neg (by simp[h0])]
 rw[h0]at hE;have hl:jR q.src q.name=0:=by
  apply Classical.byContradiction;intro hn;rw[if_pos hn]at hE;exact hn hE.symm
 rw[if_neg (by simp[hl])]at hE;split at hE
 . cases hE
 rw[JN]at hE;have hz:=qr.1 hE.symm;have hc:=qbr hl;have hfew:=h.few;have hv:=hz (zT (Qr (qy q.src q.name) q.off q.more q.state)) (by simp[vF,Qr]);have hac:=hz (if acyc ((qi (qc (qy q.src q.name)) (zr (qy q.src q.name) q.off q.more)).flatMap (zE (qf (qy q.src q.name)))) (qf (qy q.src q.name)).length=true then 0 else 10) (by simp[vF]);have hx:=hz (qh (qU (qc (qy q.src q.name))) (zr (qy q.src q.name) q.off q.more)) (by simp[vF]);have h5:=hz (qh (fun y=>qE (qc (qy q.src q.name)) (qf (qy q.src q.name)) y.expr) (qx 1 (qi (qc (qy q.src q.name)) (zr (qy q.src q.name) q.off q.more)))) (by simp[vF]);have h6:=hz (qh (fun y=>qE (qc (qy q.src q.name)) (qf (qy q.src q.name)) y.expr) (qx 2 (qi (qc (qy q.src q.name)) (zr (qy q.src q.name) q.off q.more)))) (by simp[vF]);simp only[id]at hv hac hx h5 h6;rw[hS];have hxo:=ZT (F:=qc (qy q.src q.name)) hfew hx;generalize qy q.src q.name=c at *;have hnb:(zr c q.off q.more).length<=25:=by
  have:=hc.nb;have h1:=qrr (onB q.off) c.blocks;simp only[zr,qqY,qrv,qq8];omega
 have hvq:=J2 hc (Z9 hc) _ hxo.1 (by have:=hxo.2;omega) q.state h5 h6;exact⟨hvq,hv⟩
end
section
attribute [local simp] acells fin zh ze pl1 plain pl2 AV.atom
theorem qiI {l:List Var}{a:List Int}{i:Nat}{v:Var}{x:Int}(h:l[i]?=some v)(h':a[i]?=some x):(l.zip a)[i]?=some (v,x):=(qtH (z:=(v,x))).2 ⟨h,h'⟩
theorem qfy {l:List Var}{a:List Int}(h:¬ a.length=l.length):ku l a=false:=by simp[ku,h]
theorem qdS {l:List Var}{a:List Int}{i:Nat}{v:Var}{x:Int}(h:l[i]?=some v)(h':a[i]?=some x)(hb:kJ (v,x)=false):ku l a=false:=by
 unfold ku;rw[Ym (qqW (qiI h h')) hb,qsO]
theorem qbH {l:List Var}{a:List Int}{i:Nat}(hlen:a.length=l.length)(hi:l.length<=i)(hz:∀ q∈(l.zip a).take i,kJ q=true):ku l a=true:=by
 unfold ku;rw[decide_eq_true hlen,qsi];exact Zo (by simp;omega) hz
theorem qhk {v:Var}(h:kv v=0):1<=v.width/\v.width<=8:=(QA h).2
theorem qlt (p:Problem)(a:List Int)(hl:p.vars.length<=1000)(ha:Fits a)(hv:∀ v∈p.vars,kv v=0):PZ 71 [.agg (yM p),.sl 1 (a.map qY) .none] (.bool (ku p.vars a)):=by
 refine Pure.vc qg Tryz.func71 rfl (by kernel_rfl) ?_;by_cases hlen:a.length=p.vars.length
 . generalize hr:ku p.vars a=r;simp[hlen];refine qC.intro (fun n ev O=>∃ i tl,i<=p.vars.length/\n=p.vars.length-i/\ev 1=.sl 1 (a.map qY) .none/\ev 14=.sl 4 (p.vars.map qo) .none/\ev 15=.int .i64 p.vars.length/\ev 16=.int .i64 i/\O=⟨tl,[]⟩/\∀ q∈(p.vars.zip a).take i,kJ q=true) p.vars.length ⟨0,_,by simp,by simp,by simp,by simp,by simp,by simp,rfl,by simp⟩ ?_;rintro n ev O ⟨i,tl,hi,rfl,h1,h14,h15,h16,rfl,hz⟩
   cases hvi:p.vars[i]? with
   | some v=>
    obtain⟨hc,hv'⟩:=qqV.1 hvi;have hca:i<a.length:=(by omega);obtain⟨x,hx⟩:∃ x,a[i]?=some x:=⟨_,qq6 hca⟩;have hx':=(qqV.1 hx).2;obtain⟨w1,w8⟩:=qhk (hv v (qqW hvi));have hs:IntKind.i64.wrap (2 ^ min v.width.toNat IntKind.i64.bits)=2 ^ v.width.toNat:=shl1 w1 w8;have hw0:¬ v.width<0:=(by omega);have bad:kJ (v,x)=false->r=false:=fun hb=>by rw[<- hr];exact qdS hvi hx hb
    have good:kJ (v,x)=true->∀ q∈(p.vars.zip a).take (i+1),kJ q=true:=fun hg=>q9 (p:=fun q=>kJ q=true) (qiI hvi hx) hz hg
    by_cases c1:x<0
    . rw[bad (by simp only[kJ];rw[decide_eq_false (by omega:¬ 0<=x)];rfl)];simp[h1,h14,h15,h16,hc,hca,hv',hx',qrg,c1]
    by_cases c2:(2:Int) ^ v.width.toNat<=x
    . rw[bad (by simp only[kJ];rw[decide_eq_false (by omega:¬ x<2 ^ v.width.toNat)];simp)];simp[h1,h14,h15,h16,hc,hca,hv',hx',qrg,c1,hs,hw0,c2]
    by_cases c3:v.mode=0
    . by_cases c4:x=v.value
      . have g:=good (by simp only[kJ];rw[decide_eq_true (by omega:0<=x),decide_eq_true (by omega:x<2 ^ v.width.toNat),decide_eq_true c4];simp);subst c4;simp[h1,h14,h15,h16,hc,hca,hv',hx',qrg,c1,hs,hw0,c2,c3];exact⟨_,by omega,i+1,by omega,rfl,wr (by omega) (by omega),by simpa using g⟩
      . rw[bad (by simp only[kJ];rw[decide_eq_true c3,decide_eq_false c4];simp)];simp[h1,h14,h15,h16,hc,hca,hv',hx',qrg,c1,hs,hw0,c2,c3,c4]
    . have g:=good (by simp only[kJ];rw[decide_eq_true (by omega:0<=x),decide_eq_true (by omega:x<2 ^ v.width.toNat),decide_eq_false c3];simp);simp[h1,h14,h15,h16,hc,hca,hv',hx',qrg,c1,hs,hw0,c2,c3];exact⟨_,by omega,i+1,by omega,rfl,wr (by omega) (by omega),by simpa using g⟩
   | none=>
    have hle:p.vars.length<=i:=(by simpa using hvi);have hc:¬ i<p.vars.length:=(by omega);rw[qbH hlen hle hz]at hr;subst hr;simp[h1,h14,h15,h16,hc]
 . rw[qfy hlen];have hlen':¬ (a.length:Int)=p.vars.length:=(by omega);simp[hlen,hlen']
theorem qky (p:Problem)(a:List Int)(e:Ex):Wl p a e=(decide (zT p=0)&&ku p.vars a&&decide (qdw (qlO p.vars a) e=0)&&!decide (qdv (qlO p.vars a) e=0)):=rfl
theorem qgx (p:Problem)(a:List Int)(e:Ex)(h:VQ p)(ha:Fits a)(hwe:Wen e)(hh:hgt e<=1000)(hsz:(pre e).length<=100000):PZ 19 [.agg (yM p),.sl 1 (a.map qY) .none,.agg (qz e)] (.bool (Wl p a e)):=by
 refine Pure.vc qg Tryz.func19 rfl (by kernel_rfl) ?_;have hva:=Ja p h;have hen:=env16 p a h.vars ha;have hev:=eval37 (qlO p.vars a) (by have:=qnI (l:=p.vars) (a:=a);have:=h.vars;omega) e hwe (by omega) hsz;have hr:=qky p a e;generalize Wl p a e=r at hr ⊢;simp only[yM]at hva hen;simp only[qa e];simp;refine qe.call hva (by simp) ?_;by_cases h0:zT p=0
 . have has:=qlt p a h.vars ha (qei h0);simp only[yM]at has;simp[h0];refine qe.call has (by simp) ?_;rw[decide_eq_true h0,qsi]at hr;cases hc:ku p.vars a
   . rw[hc]at hr;subst hr;simp
   . rw[hc,qsi]at hr;simp;refine qe.call hen (by simp) ?_
     try simp[qa e]
     try rw[<- qa e]
     refine qe.call hev (by simp) ?_;by_cases h1:qdw (qlO p.vars a) e=0
     . by_cases h2:qdv (qlO p.vars a) e=0
       . rw[decide_eq_true h1,decide_eq_true h2]at hr;subst hr;simp[h1,h2]
       . rw[decide_eq_true h1,decide_eq_false h2]at hr;subst hr;simp[h1,h2]
     . rw[decide_eq_false h1]at hr;simp at hr;subst hr;simp[h1]
 . rw[decide_eq_false h0]at hr;simp at hr;subst hr;simp[h0]
end
section
attribute [local simp] acells fin zh ze pl1 plain pl2 AV.atom
section
variable {s:Str}{k:Int}{env:List Signal}
theorem qc1 {b:Ex}(hb:b.args=[]):∀ e,hgt (qZ s b e)<=hgt e:=by
 refine Ex.ind fun e ih=>?_
 rw[kf];split
 . rw[jo b,hb,jo e];simp
 . rw[jo,jo e];simp only[Ex.args_mk];have:∀ l:List Ex,(∀ a∈l,hgt (qZ s b a)<=hgt a)->Z4 (l.map (qZ s b))<=Z4 l:=by
    intro l
    induction l with
    | nil=>simp
    | cons x r ihl=>
     intro h;have h1:=h x (by simp);have h2:=ihl fun a ha=>h a (by simp[ha])
     simp only[qqZ,we];omega
   have:=this e.args ih;omega
end
theorem qo7:∀ (x:It) (p:Place),∀ y∈Zy x,∃ z∈qg8 p x,z.1=y:=by
 refine It.ind fun x h1 h2 p y hy=>?_
 rw[qX]at hy;rcases qra.1 hy with rfl|hy
 . exact⟨_,qbY p y,rfl⟩
 . rcases qre.1 hy with hy|hy
   . obtain⟨a,ha,hya⟩:=qV.1 hy;obtain⟨z,hz,hzy⟩:=h1 a ha (ym x p) y hya;exact⟨z,by rw[v8];exact qrk _ (qrD _ (kl.2 ⟨a,ha,hz⟩)),hzy⟩
   . obtain⟨a,ha,hya⟩:=qV.1 hy;obtain⟨z,hz,hzy⟩:=h2 a ha (jx x p) y hya;exact⟨z,by rw[v8];exact qrk _ (qrK _ (kl.2 ⟨a,ha,hz⟩)),hzy⟩
end
end Go.Proofs.YtpgcmnabljandaaGreatDoor
end
