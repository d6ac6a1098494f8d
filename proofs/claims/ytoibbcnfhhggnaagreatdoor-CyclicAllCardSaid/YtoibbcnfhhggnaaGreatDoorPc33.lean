/- A part of the proof. -/
import Derived.Test.YtoibbcnfhhggnaaGreatDoorPc30
import Derived.Test.YtoibbcnfhhggnaaGreatDoorPc32
set_option maxHeartbeats 16000000
set_option linter.unusedVariables false
set_option linter.unusedSimpArgs false
set_option maxRecDepth 100000
set_option linter.defProp false
section
namespace Go.Proofs.YtoibbcnfhhggnaaGreatDoor
open Go Go.Abs
noncomputable def qaB (p:Problem)(fx:Nat->Option Nat)(a:List Int)(gi:Nat):Nat:=qcm p (qp p).1 fx ((NG p).getD gi []) (((NG p).take gi).flatten.map fun i=>(i,aN a i))
noncomputable def ZI (p:Problem)(gi:Int)(a:List Int):Int×Int :=
 if gi<0\/((NG p).length:Int)<=gi\/zD p.vars a=false then (0,1)
 else if qaB p (fun _=>none) a gi.toNat=0 then (0,11) else if qaB p (fun _=>none) a gi.toNat=lim then (0,3) else (qaB p (fun _=>none) a gi.toNat,0)
noncomputable def chP (p:Problem)(a:List Int)(gi:Nat):List Nat->(Nat->Option Nat)->Int->List Int->List Int
 | [],_,_,out=>out
 | i::r,fx,idx,out=>
  let q:=j9 (fun x=>qaB p (yF fx i x) a gi) (2 ^ wdN p i) 0 idx
  chP p a gi r (yF fx i q.1) q.2 (out.set i q.1)
noncomputable def jV (p:Problem)(gi:Nat)(a:List Int)(idx:Int):List Int:=chP p a gi (yp ((NG p).getD gi [])) (fun _=>none) idx a
noncomputable def qbp (p:Problem):List Nat->List Int->Rng->List Int×Rng×Int
 | [],a,r=>(a,r,0)
 | gi::rest,a,r=>
  if (ZI p gi a).2≠0 then ([],(0,0),(ZI p gi a).2)
  else if (jI (ZI p gi a).1 r).2.2≠0 then ([],(0,0),(jI (ZI p gi a).1 r).2.2)
  else qbp p rest (jV p gi a (jI (ZI p gi a).1 r).1) (jI (ZI p gi a).1 r).2.1
noncomputable def zd (p:Problem)(r:Rng):List Int×Rng×Int:=if (qp p).2≠0 then ([],(0,0),(qp p).2) else qbp p (List.range (NG p).length) (qP p.vars) r
theorem qds (p:Problem)(i:Nat):wdN p i=jx p i:=by
 unfold wdN jx zK;split<;>rename_i h<;>simp[h]
theorem qd5 (F:Nat->Nat):∀ (n x:Nat) (idx:Int),0<n->x<=(j9 F n x idx).1/\(j9 F n x idx).1<x+n
 | 0,x,idx,h=>absurd h (by omega)
 | n+1,x,idx,_=>by
  unfold j9;split
  . exact⟨qqf _,by simp⟩
  . split
    . exact⟨qqf _,by simp⟩
    . have:=qd5 F n (x+1) (idx-F x) (by omega);omega
theorem YN {F G:Nat->Nat}:∀ (n x:Nat) (idx:Int),(∀ y,x<=y->y<x+n->F y=G y)->j9 F n x idx=j9 G n x idx
 | 0,x,idx,h=>rfl
 | n+1,x,idx,h=>by
  unfold j9;rw[h x (qqf _) (by omega),YN n (x+1) _ fun y h1 h2=>h y (by omega) (by omega)]
theorem qj1.upd {p:Problem}{fx:Nat->Option Nat}(h:qj1 p fx){i x:Nat}(hx:x<2 ^ jx p i):qj1 p (yF fx i x):=fun k y hy=>by
 unfold yF at hy;split at hy
 . rename_i e;subst e;have:x=y:=by simpa using hy
   omega
 . exact h k y hy
theorem chS_eq {s:Spc}{d:List Nd}{p:Problem}{a:List Int}{gi:Nat}(hp:s.p=p)(hs:∀ fx,qj1 p fx->Vc s d fx a gi=qaB p fx a gi):∀ (l:List Nat) (fx:Nat->Option Nat) (idx:Int) (out:List Int),qj1 p fx->chS s d a gi l fx idx out=chP p a gi l fx idx out:=by
 intro l
 induction l with
 | nil=>intro fx idx out _;rfl
 | cons i r ih=>
  intro fx idx out hf;have hpos:0<2 ^ jx p i:=qrw _;have hpk:j9 (fun x=>Vc s d (yF fx i x) a gi) (2 ^ wdN s.p i) 0 idx=j9 (fun x=>qaB p (yF fx i x) a gi) (2 ^ wdN p i) 0 idx:=by
   rw[hp];refine YN _ _ _ fun y _ hy=>hs _ (hf.upd ?_)
   rw[qds]at hy;omega
  have hlt:=qd5 (fun x=>qaB p (yF fx i x) a gi) (2 ^ wdN p i) 0 idx (qrw _);rw[qds]at hlt;unfold chS chP;dsimp only;rw[hpk];rw[qds]at *;exact ih _ _ _ (hf.upd (by omega))
theorem qgw {p:Problem}(h:qi p=0){a:List Int}(ha:zD p.vars a=true):a.length=p.vars.length/\∀ i∈(NG p).flatten,aN a i<2 ^ jx p i:=by
 unfold zD at ha;simp only[qp9,decide_eq_true_eq]at ha;refine⟨ha.1,fun i hi=>?_⟩;obtain⟨v,hv,hm⟩:=yQ h hi;have hil:=(qp5.1 hv).1;obtain⟨x,hx⟩:∃ x,a[i]?=some x:=⟨_,qp8 (by omega)⟩;have hz:(v,x)∈p.vars.zip a:=qp6 (i:=i) (qrc.2 ⟨hv,hx⟩);have h1:=qqi.1 ha.2 _ hz;unfold w9 at h1;simp only[qp9,decide_eq_true_eq]at h1;have h3:((2 ^ v.width.toNat:Nat):Int)=(2:Int) ^ v.width.toNat:=by simp
 unfold aN;rw[qqh,hx,(qnY h hv).1];dsimp only[Option.getD];omega
structure SpR (p:Problem)(s:Spc)(d:List Nd):Prop where
 pe:s.p=p
 R:s.R=(qp p).1
 v:SpV s d
 root:s.small=true->∀ b,evD d b s.root=Qe p.vars (qp p).1 (ZJ p.vars (qT p) b)
theorem SpR.sum {p:Problem}{s:Spc}{d:List Nd}(h:SpR p s d){a:List Int}(ha:zD p.vars a=true){gi:Nat}(hgi:gi<(NG p).length)(fx:Nat->Option Nat)(hf:qj1 p fx):Vc s d fx a gi=qaB p fx a gi:=by
 obtain⟨hp,hR,hv,hr⟩:=h;subst hp;have:=qoc hv (by rw[hR];exact hr) hf (qgw hv.vp ha).2 hgi;rw[this,hR];rfl
theorem SpR.tot {p:Problem}{s:Spc}{d:List Nd}(h:SpR p s d)(gi:Int)(a:List Int):Wc s d gi a=ZI p gi a:=by
 unfold Wc ZI;rw[h.pe];split
 . rfl
 . rename_i hn;have h1:zD p.vars a=true:=by
    cases hA:zD p.vars a with
    | true=>rfl
    | false=>exact absurd (.inr (.inr hA)) hn
   have h2:gi.toNat<(NG p).length:=by
    have:¬ gi<0:=fun e=>hn (.inl e)
    have:¬ ((NG p).length:Int)<=gi:=fun e=>hn (.inr (.inl e))
    omega
   rw[h.sum h1 h2 _ (fun i x hx=>by cases hx)]
theorem SpR.ch {p:Problem}{s:Spc}{d:List Nd}(h:SpR p s d){a:List Int}(ha:zD p.vars a=true){gi:Nat}(hgi:gi<(NG p).length)(idx:Int):VY s d gi a idx=jV p gi a idx:=by
 unfold VY jV;rw[chS_eq h.pe (fun fx hf=>h.sum ha hgi fx hf) _ _ _ _ (fun i x hx=>by cases hx),h.pe]
theorem v9 {n:Int}(h1:1<=n)(r:Rng):0<=(wb n r).1/\(wb n r).1<n:=by
 have hv:=Z7 (cutS n) 64 0 r (by omega) (by omega);unfold wb;dsimp only;rw[qsg hv.1];exact⟨Int.emod_nonneg _ (by omega),Int.emod_lt_of_pos _ (by omega)⟩
theorem qjo (p:Problem)(a:List Int)(gi:Nat):∀ (l:List Nat) (fx:Nat->Option Nat) (idx:Int) (out:List Int),(chP p a gi l fx idx out).length=out.length
 | [],_,_,_=>rfl
 | i::r,fx,idx,out=>by
  unfold chP;dsimp only;rw[qjo p a gi r];simp
theorem QX (p:Problem)(gi:Nat)(a:List Int)(idx:Int):(jV p gi a idx).length=a.length:=qjo _ _ _ _ _ _ _
def qoz:List (Nat×Sch×List Nat):=[(23,.step 0 [4,3,2] (.step 1 [4,3] (.step 2 [4,3] (.step 3 [4] (.step 4 [] (.done))))),[])]
def SlvQ (q:List Int×Rng×Int)(H:List Blk)(r:AV)(U':St):Prop:=KpL [] H U'.H/\∃ v b,r=.tup [v,.agg (yh q.2.1),.int .i64 q.2.2]/\qj0 b U'.H v q.1/\H.length<=b
theorem Yr (d:List Var)(v:Var):qP (d++[v])=qP d++[if v.mode=0 then v.value else 0]:=by simp[qP]
theorem yY (d:List Var):(qP d).length=d.length:=by simp[qP]
theorem qeY (p:Problem)(h:VQ p)(hv20:p.vars.length<=20)(hl12:qi p=0->(NG p).flatten.length<=12)(hb:yB p.vars (qz p)<=18)(hd:p.dists.length<=10000)(hs5:p.soft.length<=10000)(hws:∀ d∈p.dists,d.weights.length<=1000)(r:Rng)(H:List Blk)(T:List (Option Nat)) :
 qg Tryz.prog GG 34 [.agg (qJ p),.agg (yh r)] ⟨H,T⟩ (SlvQ (zd p r) H):=by
 refine qg.kO ⟨true,qoz,[],[]⟩ qe Tryz.func34 rfl (by kernel_rfl) ?_;have hop:=open75 p h hv20 hb hd hs5 hws;simp[-getElem?_pos,yh];refine qc.acall (hop _ _) ?_;rintro v ⟨H1,T1⟩ ⟨hk1,hr⟩;dsimp only at hk1;rcases hr with ⟨he,rfl⟩|⟨he,s,d,rfl,hS,hL,hLL,hsp,hsR,hso,hsv,hroot⟩
 . have hq:zd p r=([],(0,0),(qp p).2):=if_pos he;rw[hq];have b2:=hk1.2 _ _ lk2 (by simp);have b2l:=(qp5.1 b2).1;have hkH:KpL [] H H1:=KpL.app.trans hk1;have hq:∀ T',SlvQ ([],(0,0),(qp p).2) H (.tup [.sl 0 [] .nil,.agg [.int .u64 0,.int .u64 0],.int .i64 (qp p).2]) ⟨H1.set (H.length+2) (.cells [.int .u64 0,.int .u64 0]),T'⟩:=fun T'=>⟨hkH.setF (by omega),_,H.length,rfl,.inl ⟨rfl,_,_,rfl⟩,qqf _⟩
   simp[-getElem?_pos,he,b2,b2l];exact hq _
 . have hq:zd p r=qbp p (List.range (NG p).length) (qP p.vars) r:=if_neg (by simp[he]);rw[hq];have hR:SpR p s d:=⟨hsp,hsR,hsv,hroot⟩;have bx:=hk1.2 _ _ lk0 (by simp);have b1:=hk1.2 _ _ lk1 (by simp);have b2:=hk1.2 _ _ lk2 (by simp);have b2l:=(qp5.1 b2).1;have hkH:KpL [] H H1:=KpL.app.trans hk1;by_cases hv0:p.vars=[]
   . have hng:NG p=[]:=by
      have h1:=qe0 hsv.vp;rw[hsp,hv0]at h1;have h2:∀ g∈NG p,g≠[]:=fun g hg=>by
       obtain⟨g',hg',rfl⟩:=qqx.1 hg;have:=(j8 (hsp▸hsv.vp)).1 g' hg';simpa using this
      cases hN:NG p with
      | nil=>rfl
      | cons g t=>
       rw[hN]at h1 h2;have:=h2 g (by simp);simp at h1;exact absurd h1.1 this
     have hgr:p.groups=[]:=(by simpa[NG] using hng);rw[hng,hv0];have hq:∀ T',SlvQ ([],r,0) H (.tup [.sl 1 [] .tight,.agg [.int .u64 r.1,.int .u64 r.2],.int .i64 0]) ⟨H1.set (H.length+2) (.cells [.int .u64 r.1,.int .u64 r.2]),T'⟩:=fun T'=>⟨hkH.setF (by omega),_,H.length,rfl,.inl ⟨rfl,_,_,rfl⟩,qqf _⟩
     simp[-getElem?_pos,bx,hv0,hgr,qw,mkX];refine qL.gen (fun m ev U=>ev 2=.ptr H.length 0/\ev 3=.ptr (H.length+1) 0/\ev 5=.ptr (H.length+2) 0/\ev 9=.sl 1 [] .tight/\ev 31=.int .i64 0/\ev 32=.int .i64 0/\∃ T',U=⟨H1,T'⟩) 0 ?_ ?_
     . exact⟨by simp,by simp,by simp,by simp,by simp,by simp,_,rfl⟩
     rintro m ev U R0 hR0 ⟨e2,e3,e5,e9,e31,e32,T2,rfl⟩;simp[-getElem?_pos,e2,e31,e32,bx,hv0,hgr];refine qL.gen (fun m ev U=>ev 3=.ptr (H.length+1) 0/\ev 5=.ptr (H.length+2) 0/\ev 9=.sl 1 [] .tight/\ev 48=.int .i64 0/\ev 49=.int .i64 0/\U=⟨H1,T2⟩) 0 ?_ ?_
     . exact⟨by simp[e3],by simp[e5],by simp[e9],by simp,by simp,rfl⟩
     rintro m ev U R1 hR1 ⟨e3,e5,e9,e48,e49,rfl⟩;simp[-getElem?_pos,e48,e49];rw[qG rfl];simp[-getElem?_pos,qM,e3,e5,e9,b1,b2,b2l];exact hq _
   . obtain⟨n,hn⟩:∃ n,n=p.vars.length:=⟨_,rfl⟩;have hnp:0<n:=(by rw[hn];exact qql.2 hv0);have hn0:¬ (n:Int)=0:=(by omega);have hn0':n≠0:=(by omega);have hn1:(n:Int)<=549755813888:=(by omega);have hbx:=qa bx [.cells (List.replicate n (.int .i64 0))];have hvl:=hsv.vq.vars;rw[hsp,<- hn]at hvl;have hz:List.replicate n (AV.int .i64 0)=zF (qP []++List.replicate n 0):=(by simp[zF,qP]);rw[hz]at hbx;simp[-getElem?_pos,bx,<- hn,hn0',hn1,qw,mkX,hz,hbx];refine qL.listR p.vars (fun dn ev U=>ev 2=.ptr H.length 0/\ev 3=.ptr (H.length+1) 0/\ev 5=.ptr (H.length+2) 0/\ev 7=.ptr s.S 0/\ev 9=.ms H1.length 0 n 1/\ev 30=.sl 4 (p.vars.map qo) .none/\ev 31=.int .i64 n/\ev 32=.int .i64 dn.length/\KpL [] H1 U.H/\U.H[H1.length]?=some (.cells (zF (qP dn++List.replicate (n-dn.length) 0)))) ?_ ?_ ?_
     . exact⟨by simp,by simp,by simp,by simp,by simp,by simp,by simp,by simp,KpL.app,by simp[qP]⟩
     . rintro dn v rest ev ⟨H2,T2⟩ R0 hR0 hd0 hx hlt ⟨e2,e3,e5,e7,e9,e30,e31,e32,hk2,hrow⟩;dsimp only at hk2 hrow;rw[<- hn]at hlt;have hlt':(dn.length:Int)<n:=(by omega);have hlt1:dn.length+1<=n:=(by omega);have hwl:=wr (n:=(dn.length:Int)+1) (by omega) (by omega);have hrl:(qP dn++List.replicate (n-dn.length) 0).length=n:=(by simp[yY];omega);have hrow2:∀ w,(H2++w)[H1.length]?=_:=fun w=>qa hrow w
       obtain⟨j,hj⟩:∃ j,n-dn.length=j+1:=⟨n-dn.length-1,by omega⟩;have hst:∀ x,(qP dn++List.replicate (n-dn.length) 0).set dn.length x=qP dn++[x]++List.replicate (n-(dn++[v]).length) 0:=fun x=>by
        rw[qrb _ _ (by rw[yY];exact qqf _),yY,qrl,hj];simp[qrr];have:n-(dn.length+1)=j:=by omega
        rw[this]
       have hst0:qP dn++List.replicate (n-dn.length) 0=qP dn++[0]++List.replicate (n-(dn++[v]).length) 0:=by
        rw[hj];have:n-(dn++[v]).length=j:=by simp;omega
        rw[this];simp[qrr]
       have h1l:=(qp5.1 hrow).1;by_cases hm:v.mode=0
       . simp[-getElem?_pos,e9,e30,e31,e32,hlt',hx,qo,hm,hwl,hrow2,hlt1,qY,hrl,yD];refine hR0 _ _ ⟨by simp[e2],by simp[e3],by simp[e5],by simp[e7],by simp[e9],by simp[e30],by simp[e31],by simp,(hk2.trans KpL.app).setF (qqf _),?_⟩;dsimp only;rw[qqa (by simp;omega),Yr,if_pos hm,hst]
       . simp[-getElem?_pos,e9,e30,e31,e32,hlt',hx,qo,hm,hwl,hrow2,hlt1,qY,hrl,yD];refine hR0 _ _ ⟨by simp[e2],by simp[e3],by simp[e5],by simp[e7],by simp[e9],by simp[e30],by simp[e31],by simp,hk2.trans KpL.app,?_⟩;dsimp only;rw[hrow2,Yr,if_neg hm,hst0]
     . rintro ev ⟨H2,T2⟩ ⟨e2,e3,e5,e7,e9,e30,e31,e32,hk2,hrow⟩;dsimp only at hk2 hrow;rw[<- hn]at e32;have hrow':H2[H1.length]?=some (.cells (zF (qP p.vars))):=(by rw[hrow];simp[<- hn]);have bx2:=hk2.2 _ _ bx (by simp);simp[-getElem?_pos,e2,e31,e32,bx2];have b12:=hk2.2 _ _ b1 (by simp);have b22:=hk2.2 _ _ b2 (by simp);have hkH2:=hkH.trans hk2;have hlen1:=hk1.1;simp only[qqb,qqm,qqK]at hlen1;have hS2:=hso.keep hk2 (by simp) (by simp) (by simp);have hSS:=(qp5.1 hS2.c).1;obtain⟨m,hm⟩:∃ m,m=(NG p).length:=⟨_,rfl⟩;have hml:p.groups.length=m:=(by rw[hm];simp[NG]);have hm1:m<=1000:=by
        have:=(qjR (hsp▸hsv.vp) (by rw[<- hn];exact hvl)).2;omega
       obtain⟨RES,hRES⟩:∃ RES,RES=qbp p (List.range m) (qP p.vars) r:=⟨_,rfl⟩;rw[<- hm,<- hRES];refine qL.gen (fun k ev U=>ev 3=.ptr (H.length+1) 0/\ev 5=.ptr (H.length+2) 0/\ev 7=.ptr s.S 0/\ev 48=.int .i64 m /\
        ∃ (i N:Nat) (a:List Int) (rr:Rng),k=m-i/\i<=m/\ev 49=.int .i64 i/\ev 9=.ms N 0 n 1/\a.length=n/\H1.length<=N/\U.H[N]?=some (.cells (zF a))/\KpL [] H U.H/\U.H[H.length+1]?=some (.cells (yh rr))/\U.H[H.length+2]?=some (.cells (yh (0,0)))/\SpOk s U.H/\qbp p (List.range' i (m-i)) a rr=RES) m ?_ ?_
       . exact⟨by simp[e3],by simp[e5],by simp[e7],by simp[hml],0,H1.length,qP p.vars,r,rfl,by omega,by simp,by simp[e9],by rw[yY,hn],qqf _,hrow',hkH2,b12,b22,hS2,by rw[hRES,qrv];rfl⟩
       . rintro k ev ⟨H3,T3⟩ R1 hR1 ⟨e3,e5,e7,e48,i,N,a,rr,rfl,him,e49,e9,hal,hN1,hN,hk3,b13,b23,hS3,hres⟩;dsimp only at hN hk3 b13 b23 hS3;have b2l3:=(qp5.1 b23).1;have haR:AsR (.ms N 0 n 1) a H3:=.inr ⟨N,by rw[hal],hN⟩;by_cases hi:i<m
         . have hi':(i:Int)<m:=(by omega);have hwi:=wr (n:=(i:Int)+1) (by omega) (by omega);obtain⟨j,hj⟩:∃ j,m-i=j+1:=⟨m-i-1,by omega⟩;rw[hj,qrx,qbp]at hres;have ht:=qob hsv (i:Int) hS3 haR T3;rw[hR.tot]at ht;have hgi:i<(NG p).length:=(by omega);simp[-getElem?_pos,e7,e9,e48,e49,hi'];refine qc.acall ht ?_;rintro v ⟨H4,T4⟩ ⟨rfl,hk4⟩;dsimp only at hk4;have b14:=hk4.2 _ _ b13 (by simp);have b24:=hk4.2 _ _ b23 (by simp);have b2l4:=(qp5.1 b24).1;have hS4:=hS3.keep hk4 (by simp) (by simp) (by simp);have haR4:=haR.keep hk4 (by simp);have hkk4:=hk3.trans hk4;have herr:∀ (er:Int) (T':List (Option Nat)) (X:List Blk),(∀ (j:Nat) (y:Blk),H4[j]?=some y->X[j]?=some y)->H4.length<=X.length->SlvQ ([],(0,0),er) H (.tup [.sl 0 [] .nil,.agg [.int .u64 0,.int .u64 0],.int .i64 er]) ⟨X.set (H.length+2) (.cells [.int .u64 0,.int .u64 0]),T'⟩:=fun er T' X hX hXl=>
            ⟨KpL.setF (hkk4.trans ⟨hXl,fun j y hj _=>hX j y hj⟩) (by omega),_,H.length,rfl,.inl ⟨rfl,_,_,rfl⟩,qqf _⟩
           simp only[yh]at b14 b24;obtain⟨t,er,hte⟩:∃ t er,ZI p (i:Int) a=(t,er):=⟨_,_,rfl⟩;rw[hte]at hres ⊢;dsimp only at hres ⊢;by_cases her:er=0
           . subst her;rw[if_neg (by simp)]at hres;have htp:zD p.vars a=true/\1<=t/\t<lim:=by
              have h0:=hte;unfold ZI at h0;split at h0
              . simp at h0
              . rename_i hn';split at h0
                . simp at h0
                . split at h0
                  . simp at h0
                  . have hle:qaB p (fun _=>none) a (i:Int).toNat<=lim:=by
                     cases hA:zD p.vars a with
                     | false=>exact absurd (.inr (.inr hA)) hn'
                     | true=>rw[<- hR.sum hA (by simpa using hgi) _ (fun i x hx=>by cases hx)];exact qcl _ _ _ _ _
                    refine⟨?_,?_⟩
                    . cases hA:zD p.vars a with
                      | false=>exact absurd (.inr (.inr hA)) hn'
                      | true=>rfl
                    . have:t=(qaB p (fun _=>none) a (i:Int).toNat:Nat):=by
                       have:=congrArg Prod.fst h0;exact this.symm
                      omega
             obtain⟨hA,ht1,ht2⟩:=htp;have hlim:lim=1099511627777:=rfl;have hbr:jI t rr=((wb t rr).1,(wb t rr).2,0):=if_neg (by omega);have hB:=qp3 t rr;rw[hbr]at hres hB;simp only[tupB,yh]at hB;dsimp only at hres;rw[if_neg (by simp)]at hres;obtain⟨hx0,hx1⟩:=v9 ht1 rr;generalize wb t rr=q at *;have b14l:=(qp5.1 b14).1;simp[-getElem?_pos,e3,b14];refine qc.call hB (by simp) ?_;simp[-getElem?_pos,e3,e7,e9,b14];have hsub:KpL [H.length+1] H4 (H4.set (H.length+1) (.cells [.int .u64 q.2.1,.int .u64 q.2.2])):=⟨by simp,fun k x hk hn=>by rw[qp7 (by simp at hn;omega)];exact hk⟩;simp only[qqb,qqm,qqK]at hS hL hLL;have hS5:=hS4.keep hsub (by simp;omega) (by simp;omega) (by simp;omega);have haR5:=haR4.keep hsub (by rintro N' o n' z e;cases e;simp;omega);have hch:=qmp hsv (hsp▸hl12 (hsp▸hsv.vp)) (gi:=i) (by rw[hsp];exact hgi) (KE hsv.vp (by rw[hsp];exact hA)) (by rw[hsp,<- hn];exact hal) hS5 haR5 T4 hx0 (by omega);rw[hR.ch hA hgi]at hch;obtain⟨out,hout⟩:∃ out,out=jV p i a q.1:=⟨_,rfl⟩;rw[<- hout]at hch hres;refine qc.acall hch ?_;rintro v ⟨H6,T6⟩ ⟨hk6,N',rfl,hN',hN6⟩;dsimp only at hk6 hN6;have hkk5:KpL [] H (H4.set (H.length+1) (.cells [.int .u64 q.2.1,.int .u64 q.2.2])):=hkk4.setF (by omega);have b15:(H4.set (H.length+1) (.cells [.int .u64 q.2.1,.int .u64 q.2.2]))[H.length+1]?=some (.cells [.int .u64 q.2.1,.int .u64 q.2.2]):=qqa b14l;have b25:(H4.set (H.length+1) (.cells [.int .u64 q.2.1,.int .u64 q.2.2]))[H.length+2]?=some (.cells [.int .u64 0,.int .u64 0]):=(by rw[qp7 (by omega)];exact b24);have hol:out.length=n:=by
              rw[hout,QX,hal]
             simp[-getElem?_pos,e49,hwi];refine hR1 (m-(i+1)) _ _ (by omega) ⟨by simp[e3],by simp[e5],by simp[e7],by simp[e48],i+1,N',out,q.2,rfl,by omega,by simp,by simp[hol],hol,?_,hN6,hkk5.trans hk6,hk6.2 _ _ b15 (by simp),hk6.2 _ _ b25 (by simp),hS5.keep hk6 (by simp) (by simp) (by simp),?_⟩
             . have:=hk4.1;have:=(qp5.1 hN).1;simp at hN';omega
             . rw[<- hres];have:m-(i+1)=j:=by omega
               rw[this]
           . rw[if_pos her]at hres;rw[<- hres];simp[-getElem?_pos,e3,e5,her,b24,b2l4];exact herr er _ H4 (fun _ _ h=>h) (qqf _)
         . have hi':¬ (i:Int)<m:=(by omega);have hj:m-i=0:=(by omega);rw[hj]at hres;have hres':RES=(a,rr,0):=hres.symm;rw[hres'];simp only[yh]at b13 b23;simp[-getElem?_pos,e48,e49,hi'];rw[qG rfl];simp[-getElem?_pos,qM,e3,e5,e9,b13,b23,b2l3];refine⟨hk3.setF (by omega),_,N,rfl,.inr ⟨fun e=>by dsimp only at e;rw[e]at hal;simp at hal;omega,by dsimp only;rw[hal],?_⟩,by omega⟩;dsimp only;rw[qp7 (by omega)];exact hN
end Go.Proofs.YtoibbcnfhhggnaaGreatDoor
end
section
namespace Go.Abs
open Go Go.RowKit
theorem Pure.ofA {P:Program}{G:Nat->AV}{f:FuncId}{args:List AV}{r:AV}{Q:AV->St->Prop}(h:qg P (jh G) f args ⟨[],[]⟩ Q)(hq:∀ v U',Q v U'->qC (frz U'.H 8 v)=true/\Leq (frz U'.H 8 v) r):Pure P G f args r:=by
 refine⟨h.1,?_⟩;intro w0 ro vs hg hro hvs;have hw:WRel (jh G) w0 ro (K0 ro) ⟨[],[]⟩ w0:=⟨Below.refl _ _,hg,hro,fun b o v e _=>e,by simp,fun _ _ _ e=>by simp[K0]at e,fun _ _ e=>by simp[K0]at e,by simp,fun _ _ e=>by simp[K0]at e,
  fun _ _ _ _ e=>by simp[K0]at e,rfl,fun _ _ _ _ _ e=>by simp[K0]at e,fun _ _ e=>by simp[K0]at e,fun _ _ e=>by simp[K0]at e⟩
 refine (h.2 w0 ro (K0 ro) w0 vs hw hvs).mono ?_;rintro e w' (⟨v',v,U',K',rfl,h1,h2,hv,hQ⟩|⟨c,U',K',rfl,h1,h2,hX⟩)
 . obtain⟨q1,q2⟩:=h2.end_ro;obtain⟨g1,g2⟩:=hq v U' hQ;exact⟨v',vz w0 w' K'.ro,rfl,h2.below,fun b o v e=>JV _ _ _ _ _ _ (h1.ro b o v e),q1,q2,Leq.rel _ _ g2 (qiF h2 8 hv)⟩
 . exact hX.elim
end Go.Abs
namespace Go.Proofs.YtoibbcnfhhggnaaGreatDoor
open Go Go.Abs
theorem qj0.frz {b:Nat}{H:List Blk}{v:AV}{a:List Int}(h:qj0 b H v a)(n:Nat):qC (Abs.frz H (n+1) v)=true/\Leq (Abs.frz H (n+1) v) (.sl 1 (a.map qy) .none)/\(qC v=true->Leq v (.sl 1 (a.map qy) .none)):=by
 rcases h with ⟨rfl,sz,tok,rfl⟩|⟨h0,rfl,hb⟩
 . have h1:∀ t,Leq (.sl sz [] t) (.sl 1 (([]:List Int).map qy) .none):=fun t=>by simp[Leq]
   refine⟨?_,?_,fun _=>h1 _⟩
   . unfold Abs.frz;split
     . assumption
     . simp
   . unfold Abs.frz;split
     . exact h1 _
     . simp
 . have ho:jw b 1 qy H (.ms b 0 a.length 1) a:=.inr ⟨h0,rfl,by rw[hb,kw]⟩;exact⟨ho.frzNo (fun _=>rfl) (fun _=>rfl) (fun _=>rfl) n,ho.frz (fun _=>rfl) (fun _=>rfl) (fun _=>rfl) n,fun h=>by simp[qC]at h⟩
end Go.Proofs.YtoibbcnfhhggnaaGreatDoor
end
section
namespace Go.Proofs.YtoibbcnfhhggnaaGreatDoor
open Go Go.Abs
def Je (p:Problem)(e:Ex):Problem:={ p with hard:=p.hard++[e] }
theorem WV (p:Problem)(e:Ex):(Je p e).vars=p.vars/\(Je p e).soft=p.soft/\(Je p e).dists=p.dists/\(Je p e).groups=p.groups:=⟨rfl,rfl,rfl,rfl⟩
def CleQ (l:List Ex)(H:List Blk)(t:Nat)(r:AV)(U':St):Prop:=U'.H=H/\((l=[]/\(r=.sl 0 [] .nil\/r=.sl 4 [] .tight))\/(l≠[]/\r=.sl 4 (l.map qs) (.chain t l.length)))/\(l≠[]->U'.T[t]?=some (some l.length))
theorem qmn (l:List Ex)(hl:l.length<=1000000)(H:List Blk)(T:List (Option Nat)):qg Tryz.prog GG 59 [.sl 4 (l.map qs) .none] ⟨H,T⟩ (CleQ l H T.length):=by
 refine qg.kO o0 qe Tryz.func59 rfl (by kernel_rfl) ?_;by_cases h0:l=[]
 . subst h0;simp[-getElem?_pos,CleQ,qB,zp]
 . obtain⟨e,r,rfl⟩:=qsh h0;have hl1:r.length+1<=549755813888:=(by simp at hl;omega);simp[CleQ,qB,zp,qk,hl1]
def qoy:List (Nat×Sch×List Nat):=[(1,.step 0 [7,6,5,2,1] (.step 1 [7,6,5,2] (.fork (.cons 2 (.step 3 [7,6,5,4] (.step 4 [7,6,5] (.step 5 [7,6] (.step 6 [7] (.step 7 [] (.done)))))) (.cons 3 (.step 4 [7,6,5] (.step 2 [7,6,5] (.step 5 [7,6] (.step 6 [7] (.step 7 [] (.done)))))) (.nil))))),[2])]
theorem qaQ (p:Problem)(e:Ex)(hl:p.hard.length<=100000):Pure Tryz.prog GG 31 [.agg (qJ p),.agg (qs e)] (.agg (qJ (Je p e))):=by
 refine Pure.kO ⟨false,qoy,[],[]⟩ false qe Tryz.func31 rfl (by kernel_rfl) ?_;have hc:=fun H T=>qmn p.hard (by omega) H T
 have ha:=yE e;have hnr:=nrE e;have hnr':=nrE' e;have hl4:=zj e;have hats:=ju e;have htk:(qs e).take 4=qs e:=qqg (by rw[hl4];exact qqf _);have hmap:(Je p e).hard.map qs=p.hard.map qs++[qs e]:=by simp[Je]
 have hna:qQ (p.hard.map qs++[qs e])=true:=by
  have h:qQ ((p.hard++[e]).map qs)=true:=zz (fun x=>nrE' x) _;rw[qqY]at h;exact h
 have hl1:p.hard.length+1<=549755813888:=by omega
 have hl2:p.hard.length<=549755813887:=by omega
 simp only[qJ];rw[hmap];show _;generalize qs e=W at *;simp[-getElem?_pos,-qK,ha,hl4,Qb,KG];rw[qG rfl];simp[-getElem?_pos,-qK,ha,hl4,htk,qM];refine⟨qc.acall (hc _ _) ?_,?_⟩
 . rintro v ⟨H1,T1⟩ ⟨rfl,hv,hT⟩;dsimp only at hT;rcases hv with ⟨h0,rfl|rfl⟩|⟨h0,rfl⟩
   . simp[-getElem?_pos,-qK,ha,hl4,htk,qM,h0,Qb,qB,zp,WV,hnr']
   . simp[-getElem?_pos,-qK,ha,hl4,htk,qM,h0,Qb,qB,zp,WV,hnr']
   . have hT0:T1[0]?=some (some p.hard.length):=hT h0;simp[-getElem?_pos,-qK,ha,hl4,htk,qM,h0,hT0,hl2,hna,Qb,qB,zp,WV,hnr']
 . refine qc.acall (hc _ _) ?_;rintro v ⟨H1,T1⟩ ⟨rfl,hv,hT⟩;dsimp only at hT;rcases hv with ⟨h0,rfl|rfl⟩|⟨h0,rfl⟩
   . simp[-getElem?_pos,-qK,ha,hl4,htk,qM,h0,Qb,qB,zp,WV,hnr']
   . simp[-getElem?_pos,-qK,ha,hl4,htk,qM,h0,Qb,qB,zp,WV,hnr']
   . have hT0:T1[0]?=some (some p.hard.length):=hT h0;simp[-getElem?_pos,-qK,ha,hl4,htk,qM,h0,hT0,hl2,hna,Qb,qB,zp,WV,hnr']
def StaQ (n:Nat)(H:List Blk)(r:AV)(U':St):Prop:=KpL [] H U'.H/\∃ B,r=.agg [.ms B 0 n 1]/\H.length<=B/\U'.H[B]?=some (.cells (List.replicate n (.sl 0 [] .nil)))
theorem qku (p:Problem)(hl:p.vars.length<=1000)(h0:p.vars≠[])(H:List Blk)(T:List (Option Nat)):qg Tryz.prog GG 10 [.agg (qJ p)] ⟨H,T⟩ (StaQ p.vars.length H):=by
 refine qg.kO o0 qe Tryz.func10 rfl (by kernel_rfl) ?_;have hl2:(p.vars.length:Int)<=549755813888:=by omega
 simp[-getElem?_pos,qw,qV,zu,qv,hl2,h0];refine⟨KpL.app,_,rfl,?_,?_⟩
 . simp
 . simp
theorem qkt (p:Problem)(h0:p.vars=[])(H:List Blk)(T:List (Option Nat)):qg Tryz.prog GG 10 [.agg (qJ p)] ⟨H,T⟩ (fun r U'=>KpL [] H U'.H/\∃ tok,r=.agg [.sl 1 [] tok]):=by
 refine qg.kO o0 qe Tryz.func10 rfl (by kernel_rfl) ?_;simp[-getElem?_pos,qw,qV,zu,qv,h0];exact KpL.app
def qf2 (p:Problem):List (List Int):=p.vars.map fun v=>if v.mode=2 then (List.range (zi v)).map (fun n:Nat=>(n:Int)) else []
def EmpV (x:AV):Prop:=x=.sl 1 [] .tight\/x=.sl 0 [] .nil
def qhH:List (Nat×Sch×List Nat):=[(6,.step 0 [7,6,1] (.step 2 [7,6] (.step 3 [7,6,5,4] (.step 4 [7,6,5] (.fork (.cons 1 (.step 5 [7,6] (.step 6 [7] (.step 7 [] (.done)))) (.cons 5 (.step 1 [7,6] (.step 6 [7] (.step 7 [] (.done)))) (.nil))))))),[])]
def Ji (B:Nat)(H:List Blk)(x:AV)(u:List Int):Prop:=(u=[]/\EmpV x)\/(u≠[]/\∃ b,B<b/\x=.ms b 0 u.length 1/\H[b]?=some (.cells (zF u)))
theorem Ji.keep {B:Nat}{H H':List Blk}{x:AV}{u:List Int}{bs:List Nat}(h:Ji B H x u)(hk:KpL bs H H')(hb:∀ b∈bs,b<=B):Ji B H' x u:=by
 rcases h with h|⟨h0,b,h1,h2,h3⟩
 . exact .inl h
 . exact .inr ⟨h0,b,h1,h2,hk.2 _ _ h3 (fun hm=>by have:=hb b hm;omega)⟩
def jU (v:Var)(l:List Int):List Int:=if l.length<zi v then l else []
theorem qbE:∀ (l:List Int),(l.map qy).flatten=zF l
 | []=>rfl
 | n::l=>by rw[qqk,qqO,qbE l];rfl
def qdn (ws:List AV):Prop:=∀ (i j b b' k k':Nat),i≠j->ws[i]?=some (.ms b 0 k 1)->ws[j]?=some (.ms b' 0 k' 1)->b≠b'
theorem qdn.set {ws:List AV}(h:qdn ws){n:Nat}{y:AV}(hy:∀ b k,y=.ms b 0 k 1->∀ i b' k',i≠n->ws[i]?=some (.ms b' 0 k' 1)->b'≠b):qdn (ws.set n y):=by
 intro i j b b' k k' hij hi hj;have hu:∀ m x,(ws.set n y)[m]?=some x->(m=n/\x=y)\/(m≠n/\ws[m]?=some x):=fun m x hx=>by
  by_cases hm:m=n
  . subst hm;have hl:m<ws.length:=(by have:=(qp5.1 hx).1;simpa using this);rw[qqa hl]at hx;exact .inl ⟨rfl,(Option.some.inj hx).symm⟩
  . rw[qp7 (Ne.symm hm)]at hx;exact .inr ⟨hm,hx⟩
 rcases hu _ _ hi with ⟨hi1,e1⟩|⟨hi1,e1⟩<;>rcases hu _ _ hj with ⟨hj1,e2⟩|⟨hj1,e2⟩
 . omega
 . exact (hy _ _ e1.symm _ _ _ hj1 e2).symm
 . exact hy _ _ e2.symm _ _ _ hi1 e1
 . exact h i j b b' k k' hij e1 e2
theorem Ji.lt {B:Nat}{H:List Blk}{u:List Int}{b k:Nat}(h:Ji B H (.ms b 0 k 1) u):b<H.length/\B<b/\u≠[]:=by
 rcases h with ⟨_,h|h⟩|⟨h0,b',h1,h2,h3⟩
 . cases h
 . cases h
 . cases h2;exact⟨(qp5.1 h3).1,h1,h0⟩
def CopG (p:Problem)(c:List (List Int))(H:List Blk)(r:AV)(U':St):Prop:=KpL [] H U'.H/\∃ B ws,r=.agg [.ms B 0 p.vars.length 1]/\H.length<=B/\U'.H[B]?=some (.cells ws)/\ws.length=p.vars.length/\qdn ws /\
 ∀ (i:Nat) (v:Var) (l:List Int) (x:AV),p.vars[i]?=some v->c[i]?=some l->ws[i]?=some x->Ji B U'.H x (jU v l)
theorem qja (p:Problem)(c:List (List Int))(hl:p.vars.length<=1000)(h0:p.vars≠[])(hc:c.length=p.vars.length)(hw:∀ v∈p.vars,0<=v.width/\v.width<=8)(hcl:∀ l∈c,l.length<=100000)(H:List Blk)(T:List (Option Nat)) :
 qg Tryz.prog GG 30 [.agg (qJ p),.agg (jZ c)] ⟨H,T⟩ (CopG p c H):=by
 refine qg.kO ⟨true,qhH,[],[]⟩ qe Tryz.func30 rfl (by kernel_rfl) ?_;have hst:=qku p hl h0;simp[-getElem?_pos];refine qc.acall (hst _ _) ?_;rintro v ⟨H1,T1⟩ ⟨hk1,B2,rfl,hB2,b2⟩;dsimp only at hk1 b2;have bx:=hk1.2 _ _ lk0 (by simp);have bh:=hk1.2 _ _ lk1 (by simp);simp only[qqb,qqm,qqK]at hB2;have bz:=hk1.2 _ _ lk2 (by simp);have hkH:KpL [] H H1:=KpL.app.trans hk1;have hlen1:=hk1.1;simp only[qqb,qqm,qqK]at hlen1;have hb2l:=(qp5.1 b2).1;obtain⟨n,hn⟩:∃ n,n=p.vars.length:=⟨_,rfl⟩;rw[<- hn]at b2 hl hc ⊢;simp[-getElem?_pos,bx,bh,qa bx,qa bh,jZ];refine qL.listR c (fun dn ev U=>ev 2=.ptr H.length 0/\ev 3=.ptr (H.length+1) 0/\ev 4=.ptr (H.length+2) 0/\ev 5=.ptr H1.length 0/\ev 11=.sl 1 (c.map zc) .none/\ev 12=.int .i64 n/\ev 13=.int .i64 dn.length/\KpL [] H U.H/\H1.length<=U.H.length/\U.H[H.length]?=some (.cells (qJ p))/\U.H[H.length+2]?=some (.cells [.sl 0 [] .nil])/\U.H[H1.length]?=some (.cells [.ms B2 0 n 1])/\∃ ws,U.H[B2]?=some (.cells ws)/\ws.length=n/\qdn ws/\∀ (i:Nat) (v:Var) (l:List Int) (x:AV),p.vars[i]?=some v->c[i]?=some l->ws[i]?=some x->Ji B2 U.H x (if i<dn.length then jU v l else [])/\(dn.length<=i->x=.sl 0 [] .nil)) ?_ ?_ ?_
 . refine⟨by simp,by simp,by simp,by simp,by simp,by simp[hc],by simp,hkH.trans KpL.app,by simp,qa bx _,qa bz _,by simp,_,qa b2 _,by simp,(fun i j b b' k k' _ hx=>by have:=qr0 (qp6 hx);cases this),fun i v l x _ _ hx=>?_⟩;have hx:=qr0 (qp6 hx);subst hx;exact⟨.inl ⟨by simp,.inr rfl⟩,fun _=>rfl⟩
 . rintro dn l rest ev ⟨H2,T2⟩ R hR hd hx hlt ⟨e2,e3,e4,e5,e11,e12,e13,hk,hH1,cx,cz,c5,ws,cw,hwl,hdi,hwe⟩;dsimp only at hk hH1 cx cz c5 cw hwe;rw[hc]at hlt;have hlt':(dn.length:Int)<n:=(by omega);have hlt1:dn.length+1<=n:=(by omega);have hwl1:=wr (n:=(dn.length:Int)+1) (by omega) (by omega);obtain⟨v,hv⟩:∃ v,p.vars[dn.length]?=some v:=⟨_,qp8 (by omega)⟩;have hvw:=hw v (qp6 hv);have hvwn:¬ v.width<0:=(by omega);have hs1:=kg hvw.1 (by omega);simp only[qJ,qqB,qqw]at cx;have hp0:0<2 ^ v.width.toNat:=qrw _;have hll:=hcl l (qp6 hx);have hkv:jU v l=if l.length<2 ^ v.width.toNat then l else []:=rfl
   obtain⟨W,hW⟩:∃ W,W=2 ^ v.width.toNat:=⟨_,rfl⟩;rw[<- hW]at hs1 hp0 hkv;have hlt3:dn.length<p.vars.length:=(by omega);have hlt4:(dn.length:Int)<p.vars.length:=(by omega);by_cases hlw:l.length<W
   case neg=>
    rw[if_neg hlw]at hkv;have hlw':¬ (l.length:Int)<W:=(by omega);simp[-getElem?_pos,e2,e3,e4,e5,e11,e12,e13,hlt,hlt',hlt1,hlt3,hlt4,hc,cx,hx,hv,qo,zc,hvwn,IntKind.bits,hs1,hlw,hlw',hwl1];refine hR _ _ ⟨by simp[e2],by simp[e3],by simp[e4],by simp[e5],by simp[e11],by simp[e12],by simp,hk,hH1,cx,cz,c5,ws,cw,hwl,hdi,fun i v' l' x hvi hci hxi=>?_⟩;obtain⟨h1,h2⟩:=hwe i v' l' x hvi hci hxi;refine⟨?_,fun h=>h2 (by simp at h;omega)⟩;by_cases hi:i<dn.length
    . rw[if_pos hi]at h1;rw[if_pos (by simp;omega)];exact h1
    . rw[if_neg hi]at h1;by_cases hi2:i=dn.length
      . subst hi2;rw[if_pos (by simp)];rw[hv]at hvi;rw[hx]at hci;cases hvi;cases hci;rw[hkv];exact h1
      . rw[if_neg (by simp;omega)];exact h1
   . rw[if_pos hlw]at hkv;have hlw':(l.length:Int)<W:=(by omega);have cwl:=(qp5.1 cw).1;have hg:∀ y,(H2.set B2 y)[B2]?=some y:=fun y=>qqa cwl
     have c52:∀ y,(H2.set B2 y)[H1.length]?=some (.cells [.ms B2 0 n 1]):=fun y=>by rw[qp7 (by omega)];exact c5
     have hdw:∀ y,(ws.set dn.length y).drop dn.length=y::ws.drop (dn.length+1):=fun y=>by
      rw[qqt (by simp;omega)];simp[List.drop_set]
     have hlt2:dn.length<ws.length:=(by omega);simp[-getElem?_pos,e2,e3,e4,e5,e11,e12,e13,hlt,hlt',hlt1,hlt3,hlt4,hc,cx,hx,hv,qo,zc,hvwn,IntKind.bits,hs1,hlw,hlw',hwl1];rw[qG rfl];have fin:∀ ev' T' H' y,ev' 2=.ptr H.length 0->ev' 3=.ptr (H.length+1) 0->ev' 4=.ptr (H.length+2) 0->ev' 5=.ptr H1.length 0->ev' 11=.sl 1 (c.map zc) .none->ev' 12=.int .i64 n->ev' 13=.int .i64 ((dn.length:Int)+1)->KpL [B2] H2 H'->KpL [] H H'->H'[B2]?=some (.cells (ws.set dn.length y))->Ji B2 H' y l->(∀ b k,y=.ms b 0 k 1->H2.length<=b)->R ev' ⟨H',T'⟩:=by
      intro ev' T' H' y a2 a3 a4 a5 a11 a12 a13 k1 k2 k3 k4 k5;refine hR _ _ ⟨a2,a3,a4,a5,a11,a12,by rw[a13];simp,k2,by have:=k1.1;dsimp only;omega,k1.2 _ _ cx (by simp;omega),k1.2 _ _ cz (by simp;omega),k1.2 _ _ c5 (by simp;omega),_,k3,by simp[hwl],hdi.set (fun b k hy i b' k' hi hb'=>?_),fun i v' l' x hvi hci hxi=>?_⟩
      . have hi3:i<n:=(by have:=(qp5.1 hb').1;omega);have:=(hwe i _ _ _ (qp8 (by omega)) (qp8 (by omega)) hb').1.lt.1;have:=k5 b k hy;omega
      by_cases hi2:i=dn.length
      . subst hi2;rw[hv]at hvi;rw[hx]at hci;cases hvi;cases hci;rw[qqa hlt2]at hxi;cases hxi;rw[if_pos (by simp),hkv];exact⟨k4,fun h=>absurd h (by simp only[qqb,qqA];omega)⟩
      . rw[qp7 (Ne.symm hi2)]at hxi;obtain⟨h1,h2⟩:=hwe i v' l' x hvi hci hxi;refine⟨?_,fun h=>h2 (by simp at h;omega)⟩;have h3:(i<(dn++[l]).length)↔(i<dn.length):=(by simp;omega);have h4:=h1.keep k1 (by simp);by_cases hi:i<dn.length
        . rw[if_pos hi]at h4;rw[if_pos (h3.2 hi)];exact h4
        . rw[if_neg hi]at h4;rw[if_neg (fun h=>hi (h3.1 h))];exact h4
     have kv:∀ ev' T',ev' 2=.ptr H.length 0->ev' 3=.ptr (H.length+1) 0->ev' 4=.ptr (H.length+2) 0->ev' 5=.ptr H1.length 0->ev' 11=.sl 1 (c.map zc) .none->ev' 12=.int .i64 n->ev' 13=.int .i64 ((dn.length:Int)+1)->l=[]->R ev' ⟨H2.set B2 (.cells (ws.set dn.length (.sl 1 [] .tight))),T'⟩:=fun ev' T' a2 a3 a4 a5 a11 a12 a13 h=>
      fin ev' T' _ _ a2 a3 a4 a5 a11 a12 a13 (KpL.set (by simp)) (hk.setF (by omega)) (hg _) (.inl ⟨h,.inl rfl⟩) (fun b k h=>by cases h)
     by_cases hl0:l=[]
     . subst hl0;simp[-getElem?_pos,qM,qgm,e2,e3,e4,e5,e11,e12,e13,hlt,hlt',hlt1,c5,qw,mkX,cw,hwl];refine⟨?_,?_⟩
       all_goals
        simp[-getElem?_pos,e2,e3,e4,e5,e11,e12,e13,hlt,hlt',hlt1,c52,hg,hdw,hwl,hlt2,yA,WG,hwl1];exact kv _ _ (by simp[e2]) (by simp[e3]) (by simp[e4]) (by simp[e5]) (by simp[e11]) (by simp[e12]) (by simp) rfl
     . have hlp:=qql.2 hl0;have hlp':¬ (l.length:Int)=0:=(by omega);have hl9:(l.length:Int)<=549755813888:=(by omega);have cwa:=fun w=>qa cw w
       have c5a:=fun w=>qa c5 w
       have c9l:=(qp5.1 c5).1;have hgA:∀ w y,((H2++w).set B2 y)[B2]?=some y:=fun w y=>qqa (by simp;omega)
       have c5A:∀ w y,((H2++w).set B2 y)[H1.length]?=some (.cells [.ms B2 0 n 1]):=fun w y=>by rw[qp7 (by omega)];exact c5a w
       have hnA:∀ x y,((H2++[x]).set B2 y)[H2.length]?=some x:=fun x y=>by rw[qp7 (by omega)];simp
       have hput:zt (List.replicate l.length (AV.int .i64 0)) 0 (List.take l.length (l.map qy)).flatten=zF l:=by
        rw[qqg (by simp)];rw[qbE];exact putAt_all _ _ (by simp[qY])
       have QS:∀ ev' T',ev' 2=.ptr H.length 0->ev' 3=.ptr (H.length+1) 0->ev' 4=.ptr (H.length+2) 0->ev' 5=.ptr H1.length 0->ev' 11=.sl 1 (c.map zc) .none->ev' 12=.int .i64 n->ev' 13=.int .i64 ((dn.length:Int)+1)->R ev' ⟨((H2++[Blk.cells (List.replicate l.length (.int .i64 0))]).set B2 (.cells (ws.set dn.length (.ms H2.length 0 l.length 1)))).set H2.length (.cells (zF l)),T'⟩:=fun ev' T' a2 a3 a4 a5 a11 a12 a13=>
        fin ev' T' _ _ a2 a3 a4 a5 a11 a12 a13 ((KpL.app.trans (KpL.set (by simp))).setF (qqf _)) (((hk.trans KpL.app).setF (by omega)).setF hk.1) (by rw[qp7 (by omega)];exact hgA _ _) (.inr ⟨hl0,_,cwl,rfl,qqa (by simp)⟩) (fun b k h=>by cases h;exact qqf _)
       simp[-getElem?_pos,qM,qgm,e2,e3,e4,e5,e11,e12,e13,hlt,hlt',hlt1,c5,c5a,qw,mkX,cw,cwa,hwl,hl0,hlp',hl9,hlp];refine⟨?_,?_⟩
       all_goals
        simp[-getElem?_pos,e2,e3,e4,e5,e11,e12,e13,hlt,hlt',hlt1,c5A,hgA,hdw,hnA,hwl,hlt2,yA,WG,hwl1,qkK,hl0,hput];exact QS _ _ (by simp[e2]) (by simp[e3]) (by simp[e4]) (by simp[e5]) (by simp[e11]) (by simp[e12]) (by simp)
 . rintro ev ⟨H2,T2⟩ ⟨e2,e3,e4,e5,e11,e12,e13,hk,hH1,cx,cz,c5,ws,cw,hwl,hdi,hwe⟩;dsimp only at hk cx cz c5 cw hwe;rw[hc]at e13;have czl:=(qp5.1 cz).1;simp[-getElem?_pos,e2,e3,e4,e5,e11,e12,e13,c5,cz,czl];refine⟨hk.setF (by omega),B2,ws,by rw[hn],by omega,?_,by rw[hwl,hn],hdi,fun i v l x hvi hci hxi=>?_⟩
   . dsimp only;rw[qp7 (by omega)];exact cw
   . have h1:=(hwe i v l x hvi hci hxi).1;rw[if_pos (qp5.1 hci).1]at h1;exact h1.keep (KpL.set (bs:=[H.length+2]) (by simp)) (by simp;omega)
def Qy (v:Var)(u:List Int):Ex:=jA v.name (kh (yw v.width u))
noncomputable def WS (v:Var)(u:List Int)(q:Problem):Problem×List Int :=
 if v.mode≠2\/u=[] then (q,u) else if (qp (Je q (Qy v u))).2=11 then (q,[]) else (Je q (Qy v u),u)
noncomputable def qc5 (st:Problem×List (List Int))(x:Var×List Int):Problem×List (List Int):=((WS x.1 x.2 st.1).1,st.2++[(WS x.1 x.2 st.1).2])
noncomputable def yz (l:List (Var×List Int))(q:Problem):Problem×List (List Int):=l.foldl qc5 (q,[])
theorem yn (l:List (Var×List Int))(x:Var×List Int)(q:Problem):yz (l++[x]) q=qc5 (yz l q) x:=by
 unfold yz;rw[qrj];rfl
theorem yT (q:Problem)(l:List (Var×List Int)):(yz l q).2.length=l.length:=by
 induction hn:l.length generalizing l with
 | zero=>
  have:l=[]:=qqj hn;subst this;rfl
 | succ k ih=>
  obtain⟨d,x,rfl⟩:∃ d x,l=d++[x]:=⟨l.dropLast,l.getLast (by rintro rfl;simp at hn),(qqU _).symm⟩;rw[yn];have:=ih d (by simpa using hn);simp[qc5,this]
theorem qpH (q:Problem)(l:List (Var×List Int)):∀ (i:Nat) (u:List Int),(yz l q).2[i]?=some u->∃ x,l[i]?=some x/\(u=x.2\/u=[]):=by
 induction hn:l.length generalizing l with
 | zero=>
  have:l=[]:=qqj hn;subst this;intro i u h;simp[yz]at h
 | succ k ih=>
  obtain⟨d,x,rfl⟩:∃ d x,l=d++[x]:=⟨l.dropLast,l.getLast (by rintro rfl;simp at hn),(qqU _).symm⟩;intro i u h;rw[yn]at h;unfold qc5 at h;dsimp only at h;have hd:=yT q d;by_cases hi:i<d.length
  . rw[qqe (by omega)]at h;obtain⟨y,hy,h2⟩:=ih d (by simpa using hn) i u h;exact⟨y,by rw[qqe hi];exact hy,h2⟩
  . have hi2:i=d.length:=by
     have:=(qp5.1 h).1;simp at this;omega
    subst hi2;rw[qqd (by omega),hd,qrl]at h;refine⟨x,by simp,?_⟩;simp at h;subst h;unfold WS;split
    . exact .inl rfl
    . split
      . exact .inr rfl
      . exact .inl rfl
theorem Vj {w:Int}(l:List Int)(h0:0<=w)(h8:w<=8):(yw w l).Pairwise (· < ·)/\(yw w l).length<=256/\∀ x∈yw w l,0<=x/\x<((2 ^ w.toNat:Nat):Int):=by
 have hp:2 ^ w.toNat<=2 ^ 8:=qqu (by omega) (by omega);unfold yw;refine⟨List.Pairwise.filter _ ?_,?_,fun x hx=>?_⟩
 . rw[qsV];exact (qtz (n:=2 ^ w.toNat)).imp fun h=>by omega
 . refine qq9 (qrT _ _) ?_;rw[qqI,qsA];omega
 . obtain⟨m,hm,rfl⟩:=qqx.1 (qsw.1 hx).1;have:=qqT.1 hm;omega
theorem YG {w:Int}{l:List Int}{x:Int}:x∈yw w l↔(0<=x/\x<((2 ^ w.toNat:Nat):Int))/\x∉l:=by
 unfold yw;rw[qsw,qqx];constructor
 . rintro⟨⟨m,hm,rfl⟩,h⟩;have:=qqT.1 hm;refine⟨by omega,fun hx=>?_⟩;have:(l.any fun y=>(m:Int)==y)=true:=qqr.2 ⟨_,hx,by simp⟩;rw[this]at h;cases h
 . rintro⟨h1,h2⟩;refine⟨⟨x.toNat,qqT.2 (by omega),by omega⟩,?_⟩;have:(l.any fun y=>x==y)=false:=by
    rw[qrf];intro y hy he;exact h2 (by rw[eq_of_beq he];exact hy)
   rw[this];rfl
theorem qee {α:Type}[DecidableEq α]:∀ {a b:List α},a.Nodup->(∀ x∈a,x∈b)->a.length<=b.length
 | [],_,_,_=>by simp
 | x::a,b,hn,hs=>by
  rw[qro]at hn;have hx:=hs x (by simp);have h1:a.length<=(b.erase x).length:=qee hn.2 fun y hy=>by
   have hne:y≠x:=(by rintro rfl;exact hn.1 hy);exact (List.mem_erase_of_ne hne).2 (hs y (by simp[hy]))
  rw[qsR hx]at h1;have:=qtA hx;simp only[qqm];omega
theorem qdT {w:Int}{l:List Int}(h:l.length<2 ^ w.toNat):yw w l≠[]:=fun e=>by
 have h1:(Qu w).Nodup:=by
  unfold Qu;exact (qsV.2 ((List.nodup_range (n:=2 ^ w.toNat)).imp fun hne e=>hne (by omega)))
 have h2:=qee h1 (b:=l) fun x hx=>by
  apply Classical.byContradiction;intro hn;have:x∈yw w l:=YG.2 ⟨by
   obtain⟨m,hm,rfl⟩:=qqx.1 hx;have:=qqT.1 hm;omega,hn⟩
  rw[e]at this;cases this
 rw[Zk]at h2;omega
theorem Yx {w:Int}(l:List Int)(h0:0<=w)(h8:w<=8):(∀ r∈kh (yw w l),qeZ r)/\2*(kh (yw w l)).length<=2 ^ w.toNat+1:=by
 have hp:2 ^ w.toNat<=2 ^ 8:=qqu (by omega) (by omega);obtain⟨h1,_,h3⟩:=Vj l h0 h8;generalize 2 ^ w.toNat=W at *;have:=YD (N:=(W:Int)) h1 (fun x hx=>by have:=h3 x hx;omega) (by omega);exact⟨this.1,by omega⟩
theorem vN {v:Var}(hv:jL v=0)(hf:Fits v.name)(u:List Int):Jg (Qy v u):=by
 have h1:=qU hv;have hp:2 ^ v.width.toNat<=2 ^ 8:=qqu (by omega) (by omega);have h2:=Yx u (w:=v.width) (by omega) h1.2.2;exact Yj h1.1 hf (by omega) h2.1
theorem yZ {vs:List Var}{v:Var}(hm:v∈vs)(hv:jL v=0)(u:List Int):zg vs (Qy v u)=0:=by
 have h1:=qU hv;have hp:2 ^ v.width.toNat<=2 ^ 8:=qqu (by omega) (by omega);have h2:=Yx u (w:=v.width) (by omega) h1.2.2;exact Jn h1.1 (by omega) h2.1 (by unfold vC;rw[qqr];exact⟨v,hm,by simp⟩)
structure MoreH (p q:Problem)(k:Nat):Prop where
 vars:q.vars=p.vars
 soft:q.soft=p.soft
 dists:q.dists=p.dists
 groups:q.groups=p.groups
 hard:∃ es,q.hard=p.hard++es/\es.length<=k/\∀ e∈es,Jg e/\zg p.vars e=0
theorem MoreH.refl (p:Problem):MoreH p p 0:=⟨rfl,rfl,rfl,rfl,[],by simp,by simp,by simp⟩
theorem MoreH.mono {p q:Problem}{k k':Nat}(h:MoreH p q k)(hk:k<=k'):MoreH p q k':=by
 obtain⟨a,b,c,d,es,e1,e2,e3⟩:=h;exact⟨a,b,c,d,es,e1,by omega,e3⟩
theorem MoreH.add {p q:Problem}{k:Nat}(h:MoreH p q k){e:Ex}(h1:Jg e)(h2:zg p.vars e=0):MoreH p (Je q e) (k+1):=by
 obtain⟨a,b,c,d,es,e1,e2,e3⟩:=h;refine⟨a,b,c,d,es++[e],by simp[Je,e1],by simp;omega,fun x hx=>?_⟩;rcases qqo.1 hx with hx|hx
 . exact e3 x hx
 . rw[qqy.1 hx];exact⟨h1,h2⟩
theorem MoreH.vq {p q:Problem}{k:Nat}(h:MoreH p q k)(hp:VQ p)(hl:p.hard.length+k<=10000):VQ q:=by
 obtain⟨a,b,c,d,es,e1,e2,e3⟩:=h;refine⟨a▸hp.vars,a▸hp.names,by rw[e1];simp;omega,b▸hp.soft,fun e he=>?_,c▸hp.dists,c▸hp.weights,d▸hp.groups,d▸hp.group⟩;rw[e1,b]at he;rcases qqo.1 he with he|he
 . rcases qqo.1 he with he|he
   . exact hp.exprs e (qqH _ he)
   . exact (e3 e he).1
 . exact hp.exprs e (qq6 _ he)
theorem MoreH.valid {p q:Problem}{k:Nat}(h:MoreH p q k)(hp:qi p=0):qi q=0:=by
 obtain⟨a,b,c,d,es,e1,e2,e3⟩:=h;have hx:qR (zg p.vars) (p.hard++p.soft)=0:=by
  unfold qi at hp;split at hp
  . exact absurd hp (by assumption)
  . split at hp
    . rename_i h1;exact absurd hp h1
    . rename_i h1;exact qqN.1 h1
 have hy:qR (zg q.vars) (q.hard++q.soft)=0:=by
  rw[a,b,e1];refine zf.2 fun e he=>?_
  have hx:=zf.1 hx;rcases qqo.1 he with he|he
  . rcases qqo.1 he with he|he
    . exact hx e (qqH _ he)
    . exact (e3 e he).2
  . exact hx e (qq6 _ he)
 unfold qi at hp ⊢;rw[hy];rw[hx]at hp;rw[a,c,d];exact hp
theorem MoreH.bits {p q:Problem}{k:Nat}(h:MoreH p q k)(hp:qi p=0):yB q.vars (qz q)=yB p.vars (qz p):=by
 unfold qz;rw[h.valid hp,hp,h.vars]
theorem qi8 {p q:Problem}{k:Nat}(h:MoreH p q k){v:Var}(hv:jL v=0)(hm:v∈p.vars)(hf:Fits v.name)(u:List Int):MoreH p (WS v u q).1 (k+1):=by
 unfold WS;split
 . exact h.mono (by omega)
 . split
   . exact h.mono (by omega)
   . exact h.add (vN hv hf u) (yZ hm hv u)
theorem ZA {p:Problem}(hv:∀ v∈p.vars,jL v=0)(hf:∀ v∈p.vars,Fits v.name):∀ (l:List (Var×List Int)),(∀ x∈l,x.1∈p.vars)->MoreH p (yz l p).1 l.length:=by
 intro l
 induction hn:l.length generalizing l with
 | zero=>
  have:l=[]:=qqj hn;subst this;exact fun _=>MoreH.refl p
 | succ k ih=>
  intro hl;obtain⟨d,x,rfl⟩:∃ d x,l=d++[x]:=⟨l.dropLast,l.getLast (by rintro rfl;simp at hn),(qqU _).symm⟩;rw[yn];have hx:=hl x (by simp);exact qi8 (ih d (by simpa using hn) fun y hy=>hl y (by simp[hy])) (hv _ hx) hx (hf _ hx) _
def UnQ (w:Int)(u:List Int)(H:List Blk)(T:List (Option Nat))(r:AV)(U':St):Prop:=U'=⟨H,we T (yw w u)⟩/\r=YR 1 qy T.length (yw w u)
theorem qg9 (w:Int)(h0:0<=w)(h1:w<=28)(u:List Int)(hl:Fits u)(hu:u≠[])(b:Nat)(H:List Blk)(T:List (Option Nat))(hb:H[b]?=some (.cells (zF u))) :
 qg Tryz.prog GG 33 [.int .i64 w,.ms b 0 u.length 1] ⟨H,T⟩ (UnQ w u H T):=by
 refine qg.kO o0 qe Tryz.func33 rfl (by kernel_rfl) ?_;have hp:(2:Nat) ^ w.toNat<=2 ^ 28:=qqu (by omega) (by omega);have hs:=kg h0 h1;have hw0:¬ w<0:=by omega
 have hlen:=Zk w;have hrest:yw w u=(Qu w).filter (wu u):=rfl;unfold UnQ;rw[hrest];have hget:∀ {d r:List Int} {v:Int},Qu w=d++v::r->v=d.length:=YU;generalize hN:2 ^ w.toNat=N at hp hs hlen;simp[-getElem?_pos,hw0,IntKind.bits,hs];generalize Qu w=nums at hlen hget;refine qL.list nums (fun d env U=>env 1=.ms b 0 u.length 1/\env 5=YR 1 qy T.length (d.filter (wu u))/\env 8=.int .i64 N/\env 9=.int .i64 d.length/\U=⟨H,we T (d.filter (wu u))⟩) ?_ ?_ ?_
 . simp
 . rintro d v r env U hd hv hlt ⟨e1,e5,e8,e9,rfl⟩;have hvd:=hget hd;subst hvd;have hlt':d.length<N:=(by omega);have hw:=wr (n:=(d.length:Int)+1) (by omega) (by omega);simp[-getElem?_pos,e1,e5,e8,e9,hlt'];have hlent:=(qj0.frz (b:=b) (H:=H) (v:=.ms b 0 u.length 1) (a:=u) (.inr ⟨hu,rfl,hb⟩) 7).2.1;refine qc.lent (w8 GG u d.length hl) (by rfl) (by
    simp only[qqk,qqF,zm];exact⟨hlent,by rw[qt (by simp)];simp[Leq.refl],trivial⟩) ?_
   have hfs:=QT (wu u) d (d.length:Int);have hfl:(d.filter (wu u)).length<2 ^ 30:=qr8 (qrT _ _) (by omega);have happ:∀ s:List Int,s.length<2 ^ 30->∀ n,qB (Dof Tryz.prog) ⟨H,we T s⟩ 44 (YR 1 qy T.length s) (.sl 1 [[.int .i64 n]] .tight)=some (YR 1 qy T.length (s++[n]),⟨H,we T (s++[n])⟩):=fun s hs n=>
    vd (D:=Dof Tryz.prog) (sz:=1) (T:=T) (H:=H) (m:=[n]) (en:=qy) D44 rfl D3 rfl (by decide) rfl (by decide) (by simp only[qqA];omega) 1 (.inl rfl)
   cases hc:u.any fun x=>(d.length:Int)==x
   . have hni:wu u d.length=true:=(by unfold wu;rw[hc];rfl);rw[if_pos hni]at hfs;simp[-getElem?_pos,e1,e5,e8,e9,unA,hc,happ _ hfl,hw];have hf1:List.filter (wu u) [(d.length:Int)]=[(d.length:Int)]:=(by rw[qtm,hni];rfl);simp[hf1]
   . have hni:wu u d.length=false:=(by unfold wu;rw[hc];rfl);rw[hni]at hfs;simp only[qqq,if_false]at hfs;have hf1:List.filter (wu u) [(d.length:Int)]=[]:=(by rw[qtm,hni];rfl);simp[-getElem?_pos,e1,e5,e8,e9,unA,hc,hw,hf1]
 . rintro env U ⟨e1,e5,e8,e9,rfl⟩;rw[hlen]at e9;simp[-getElem?_pos,-fin,-kv,-QS,e1,e5,e8,e9]
theorem qpj {p:Problem}{i:Nat}{l:List Int}(h:(qf2 p)[i]?=some l):∃ v,p.vars[i]?=some v/\l=if v.mode=2 then (List.range (zi v)).map (fun n:Nat=>(n:Int)) else []:=by
 unfold qf2 at h;rw[qqp]at h
 cases hv:p.vars[i]? with
 | none=>rw[hv]at h;cases h
 | some v=>rw[hv]at h;exact⟨v,rfl,(Option.some.inj h).symm⟩
theorem qhS (v:Var):okL v.width ((List.range (zi v)).map fun n:Nat=>(n:Int))=true:=by
 unfold okL;rw[qqi];intro k hk;have hk':k<zi v:=by simpa using hk
 have e1:(((List.range (zi v)).map fun n:Nat=>(n:Int)).getD k 0)=(k:Int):=by
  rw[qqh,qqp,qso hk'];rfl
 rw[e1];unfold okN;have h3:((2 ^ v.width.toNat:Nat):Int)=(2:Int) ^ v.width.toNat:=by simp
 have hk2:(k:Int)<(2:Int) ^ v.width.toNat:=by rw[<- h3];unfold zi at hk';omega
 have hn:((((List.range (zi v)).map fun n:Nat=>(n:Int)).take k).any ((k:Int) == ·))=false:=by
  rw[qrf];intro x hx;rw[<- List.map_take,List.take_range]at hx;obtain⟨j,hj,rfl⟩:=qqx.1 hx;have:=qqT.1 hj;simp;omega
 simp[hn,hk2]
theorem qiM (p:Problem):ya p.vars (qf2 p)=true:=by
 unfold ya;simp only[qp9,decide_eq_true_eq];refine⟨by simp[qf2],?_⟩;rw[qqi];rintro⟨v,l⟩ hx;obtain⟨i,hi⟩:=qqJ hx;obtain⟨h1,h2⟩:=qrc.1 hi;obtain⟨v',hv',rfl⟩:=qpj h2;have:v'=v:=by rw[hv']at h1;exact Option.some.inj h1
 subst this;unfold okV;by_cases hm:v'.mode=2
 . simp[hm,qhS]
 . simp[hm,okL]
theorem WN (e:Int):Pure Tryz.prog GG 26 [.int .i64 e] (.tup [.sl 0 [] .nil,.agg [.sl 0 [] .nil],.agg [.int .u64 0,.int .u64 0],.int .i64 e]):=by
 refine Pure.kO o0 true qe Tryz.func26 rfl (by kernel_rfl) ?_;simp[-getElem?_pos,qV,zu];rw[qt (by rfl)];exact⟨rfl,Leq.refl _⟩
theorem qey (p:Problem):∀ (l:List Nat) (a:List Int) (r:Rng),(qbp p l a r).2.2=0->(qbp p l a r).1.length=a.length
 | [],a,r,_=>rfl
 | gi::rest,a,r,h=>by
  unfold qbp at h⊢;split at h
  . exact absurd h (by assumption)
  . rename_i h1;rw[if_neg h1];split at h
    . exact absurd h (by assumption)
    . rename_i h2;rw[if_neg h2,qey p rest _ _ h,QX]
theorem Wg {p:Problem}{r:Rng}(h:(zd p r).2.2=0):(zd p r).1.length=p.vars.length:=by
 unfold zd at h⊢;split at h
 . exact absurd h (by assumption)
 . rename_i h1;rw[if_neg h1,qey p _ _ _ h,yY]
def qoA:List (Nat×Sch×List Nat):=[(16,.step 0 [14,12] (.step 1 [14,12,11,2] (.step 2 [14,12,11] (.step 3 [14,12,11,10,4] (.step 4 [14,12,11,10] (.step 5 [14,12,11,10,9,8,6] (.step 6 [14,12,11,10,9,8] (.step 7 [14,12,11,10,9,8] (.step 8 [14,12,11,10,9] (.step 9 [14,12,11,10] (.step 10 [14,12,11] (.step 11 [14,12] (.step 12 [14] (.step 13 [14] (.step 14 [] (.done))))))))))))))),[]),(29,.step 0 [15,14,1] (.step 1 [15,14] (.step 2 [15,14] (.step 3 [15,14,13,7,6,4] (.step 4 [15,14,13,7,6] (.step 5 [15,14,13,7,6] (.step 6 [15,14,13,7] (.step 7 [15,14,13] (.step 8 [15,14,13,12,11,10] (.step 9 [15,14,13,12,11,10] (.step 10 [15,14,13,12,11] (.step 11 [15,14,13,12] (.step 12 [15,14,13] (.step 13 [15,14] (.step 14 [15] (.step 15 [] (.done)))))))))))))))),[]),(31,.step 0 [6,5,4,3] (.step 1 [6,5,4] (.step 3 [6,5,4] (.fork (.cons 2 (.step 4 [6,5] (.step 5 [6] (.step 6 [] (.done)))) (.cons 4 (.step 2 [6,5] (.step 5 [6] (.step 6 [] (.done)))) (.nil)))))),[])]
def ji (vs:List Var)(c:List (List Int)):List (Var×List Int):=(vs.zip c).map fun x=>(x.1,jU x.1 x.2)
def qjY (v:Var)(u:List Int)(n:Int):List Int:=if v.mode=2 then u++[n] else u
def qfH:List Var->List (List Int)->List Int->List (List Int)
 | v::vs,u::us,n::a=>qjY v u n::qfH vs us a
 | _,_,_=>[]
noncomputable def yG (p:Problem)(c:List (List Int))(r:Rng):List Int×List (List Int)×Rng×Int :=
 if qi p≠0 then ([],[],(0,0),qi p)
 else if ya p.vars c=false then ([],[],(0,0),1)
 else if (qp p).2≠0 then ([],[],(0,0),(qp p).2)
 else if (zd (yz (ji p.vars c) p).1 r).2.2≠0 then ([],[],(0,0),(zd (yz (ji p.vars c) p).1 r).2.2)
 else ((zd (yz (ji p.vars c) p).1 r).1,qfH p.vars (yz (ji p.vars c) p).2 (zd (yz (ji p.vars c) p).1 r).1,(zd (yz (ji p.vars c) p).1 r).2.1,0)
theorem Vq:∀ (vs:List Var) (us:List (List Int)) (a:List Int),us.length=vs.length->a.length=vs.length->(qfH vs us a).length=vs.length
 | [],[],[],_,_=>rfl
 | v::vs,u::us,n::a,h1,h2=>by
  show (qjY v u n::qfH vs us a).length=_;simp only[qqm];rw[Vq vs us a (by simpa using h1) (by simpa using h2)]
 | [],_::_,_,h,_=>by simp at h
 | [],[],_::_,_,h=>by simp at h
 | _::_,[],_,h,_=>by simp at h
 | _::_,_::_,[],_,h=>by simp at h
theorem Vr:∀ (vs:List Var) (us:List (List Int)) (a:List Int) (i:Nat) (u:List Int),(qfH vs us a)[i]?=some u->∃ v u' z,vs[i]?=some v/\us[i]?=some u'/\a[i]?=some z/\u=qjY v u' z
 | v::vs,u::us,n::a,i,w,h=>by
  have e:qfH (v::vs) (u::us) (n::a)=qjY v u n::qfH vs us a:=rfl;rw[e]at h
  cases i with
  | zero=>exact⟨v,u,n,rfl,rfl,rfl,by simpa using h.symm⟩
  | succ i=>
   obtain⟨v',u',z',h1,h2,h3,h4⟩:=Vr vs us a i w (by simpa using h);exact⟨v',u',z',by simpa using h1,by simpa using h2,by simpa using h3,h4⟩
 | [],_,_,i,w,h=>by simp[qfH]at h
 | _::_,[],_,i,w,h=>by simp[qfH]at h
 | _::_,_::_,[],i,w,h=>by simp[qfH]at h
theorem Vk {vs:List Var}{c:List (List Int)}{i:Nat}{v:Var}{l:List Int}(h1:vs[i]?=some v)(h2:c[i]?=some l):(ji vs c)[i]?=some (v,jU v l):=by
 unfold ji;have h:(vs.zip c)[i]?=some (v,l):=qrc.2 ⟨h1,h2⟩;rw[qqp,h];rfl
theorem Zi {vs:List Var}{c:List (List Int)}(h:c.length=vs.length):(ji vs c).length=vs.length:=by
 unfold ji;rw[qqI,List.length_zip,h,Nat.min_self]
def plansC:List (Nat×Sch×List Nat):=[(16,.step 1 [14,12,11,2] (.step 3 [14,12,11,10,4] (.step 4 [14,12,11,10] (.step 5 [14,12,11,10,9,8,6] (.step 6 [14,12,11,10,9,8] (.step 7 [14,12,11,10,9,8] (.step 8 [14,12,11,10,9] (.step 9 [14,12,11,10] (.fork (.cons 0 (.fork (.cons 2 (.fork (.cons 10 (.step 11 [14,12] (.step 12 [14] (.step 13 [14] (.step 14 [] (.done))))) (.cons 13 (.step 10 [14,12,11] (.step 11 [14,12] (.step 12 [14] (.step 14 [] (.done))))) (.nil)))) (.cons 10 (.step 2 [14,12,11] (.step 11 [14,12] (.step 12 [14] (.step 13 [14] (.step 14 [] (.done)))))) (.cons 13 (.fork (.cons 2 (.step 10 [14,12,11] (.step 11 [14,12] (.step 12 [14] (.step 14 [] (.done))))) (.cons 10 (.step 2 [14,12,11] (.step 11 [14,12] (.step 12 [14] (.step 14 [] (.done))))) (.nil)))) (.nil))))) (.cons 2 (.fork (.cons 0 (.fork (.cons 10 (.step 11 [14,12] (.step 12 [14] (.step 13 [14] (.step 14 [] (.done))))) (.cons 13 (.step 10 [14,12,11] (.step 11 [14,12] (.step 12 [14] (.step 14 [] (.done))))) (.nil)))) (.cons 10 (.step 0 [14,12] (.step 11 [14,12] (.step 12 [14] (.step 13 [14] (.step 14 [] (.done)))))) (.cons 13 (.fork (.cons 0 (.step 10 [14,12,11] (.step 11 [14,12] (.step 12 [14] (.step 14 [] (.done))))) (.cons 10 (.step 0 [14,12] (.step 11 [14,12] (.step 12 [14] (.step 14 [] (.done))))) (.nil)))) (.nil))))) (.cons 10 (.step 0 [14,12] (.step 2 [14,12,11] (.step 11 [14,12] (.step 12 [14] (.step 13 [14] (.step 14 [] (.done))))))) (.cons 13 (.fork (.cons 0 (.fork (.cons 2 (.step 10 [14,12,11] (.step 11 [14,12] (.step 12 [14] (.step 14 [] (.done))))) (.cons 10 (.step 2 [14,12,11] (.step 11 [14,12] (.step 12 [14] (.step 14 [] (.done))))) (.nil)))) (.cons 2 (.fork (.cons 0 (.step 10 [14,12,11] (.step 11 [14,12] (.step 12 [14] (.step 14 [] (.done))))) (.cons 10 (.step 0 [14,12] (.step 11 [14,12] (.step 12 [14] (.step 14 [] (.done))))) (.nil)))) (.cons 10 (.step 0 [14,12] (.step 2 [14,12,11] (.step 11 [14,12] (.step 12 [14] (.step 14 [] (.done)))))) (.nil))))) (.nil))))))))))))),[10]),(29,.step 0 [15,14,1] (.step 2 [15,14] (.step 3 [15,14,13,7,6,4] (.step 4 [15,14,13,7,6] (.step 5 [15,14,13,7,6] (.step 6 [15,14,13,7] (.step 7 [15,14,13] (.step 8 [15,14,13,12,11,10] (.step 9 [15,14,13,12,11,10] (.step 10 [15,14,13,12,11] (.step 11 [15,14,13,12] (.step 12 [15,14,13] (.fork (.cons 1 (.step 13 [15,14] (.step 14 [15] (.step 15 [] (.done)))) (.cons 13 (.step 1 [15,14] (.step 14 [15] (.step 15 [] (.done)))) (.nil))))))))))))))),[]),(31,.step 0 [6,5,4,3] (.step 1 [6,5,4] (.step 3 [6,5,4] (.fork (.cons 2 (.step 4 [6,5] (.step 5 [6] (.step 6 [] (.done)))) (.cons 4 (.step 2 [6,5] (.step 5 [6] (.step 6 [] (.done)))) (.nil)))))),[])]
def SolQ (q:List Int×List (List Int)×Rng×Int)(n:Nat)(H:List Blk)(v:AV)(U':St):Prop:=KpL [] H U'.H /\
 ((q.2.2.2≠0/\v=.tup [.sl 0 [] .nil,.agg [.sl 0 [] .nil],.agg [.int .u64 0,.int .u64 0],.int .i64 q.2.2.2]) \/
   (q.2.2.2=0/\∃ w b B ws,v=.tup [w,.agg [.ms B 0 n 1],.agg (yh q.2.2.1),.int .i64 0]/\qj0 b U'.H w q.1/\q.2.1.length=n/\U'.H[B]?=some (.cells ws)/\ws.length=n/\∀ (i:Nat) (u:List Int) (x:AV),q.2.1[i]?=some u->ws[i]?=some x->Ji B U'.H x u))
def Reg16 (H H1:List Blk)(p:Problem)(n k:Nat)(ev:Env):Prop :=
 ev 3=.ptr H.length 0/\ev 5=.ptr (H.length+2) 0/\ev 7=.ptr (H.length+3) 0/\ev 8=.ptr (H.length+4) 0/\ev 10=.fn 26 [] []/\ev 14=.ptr H1.length 0/\ev 15=.ptr (H1.length+1) 0/\ev 16=.int .i64 k/\ev 65=.sl 4 (p.vars.map qo) .none/\ev 66=.int .i64 n/\ev 67=.int .i64 k
structure CycH (p:Problem)(c:List (List Int)):Prop where
 vq:VQ p
 hard:p.hard.length<=9000
 vars:p.vars.length<=20
 flat:qi p=0->(NG p).flatten.length<=12
 bits:yB p.vars (qz p)<=18
 dists:p.dists.length<=10000
 soft:p.soft.length<=10000
 wts:∀ d∈p.dists,d.weights.length<=1000
 cl:c.length<=100000
 cll:∀ l∈c,l.length<=100000
 w7:qi p=0->∀ v∈p.vars,v.mode=2->v.width<=7
theorem qmO {p q:Problem}(h:q.groups=p.groups):NG q=NG p:=by unfold NG;rw[h]
theorem Ji.same {B:Nat}{H H':List Blk}{x:AV}{u:List Int}(h:Ji B H x u)(hs:∀ b k,x=.ms b 0 k 1->H'[b]?=H[b]?):Ji B H' x u:=by
 rcases h with h|⟨h0,b,h1,h2,h3⟩
 . exact .inl h
 . exact .inr ⟨h0,b,h1,h2,by rw[hs b _ h2];exact h3⟩
theorem KpL.old {H H1 H2:List Blk}{B:Nat}(h:KpL [] H H1)(h2:KpL [B] H1 H2)(hB:H.length<=B):KpL [] H H2:=⟨qq9 h.1 h2.1,fun k x hk _=>h2.2 k x (h.2 k x hk (by simp)) (by have:=(qp5.1 hk).1;simp;omega)⟩
theorem qmh (p:Problem)(c:List (List Int))(hh:CycH p c)(h0':qi p=0->ya p.vars c=true->p.vars≠[])(r:Rng)(H:List Blk)(T:List (Option Nat)) :
 qg Tryz.prog GG 11 [.agg (qJ p),.agg (jZ c),.agg (yh r)] ⟨H,T⟩ (SolQ (yG p c r) p.vars.length H):=by
 refine qg.kO ⟨true,plansC,[],[]⟩ qe Tryz.func11 rfl (by kernel_rfl) ?_;have h:=hh.vq;have hval:=j4 p h;have hrul:=KJ p h hh.vars hh.bits hh.dists hh.soft;simp[-getElem?_pos,yh,jZ];refine qc.call hval (by simp) ?_;by_cases hvp:qi p=0
 case neg=>
  have hq:yG p c r=([],[],(0,0),qi p):=if_pos hvp;rw[hq];have hQ:∀ X T',KpL [] H X->SolQ ([],[],(0,0),qi p) p.vars.length H (.tup [.sl 0 [] .nil,.agg [.sl 0 [] .nil],.agg [.int .u64 0,.int .u64 0],.int .i64 (qi p)]) ⟨X,T'⟩:=fun X T' hX=>⟨hX,.inl ⟨hvp,rfl⟩⟩
  simp[-getElem?_pos,hvp];refine qc.call (WN _) (by simp) ?_;simp[-getElem?_pos];exact hQ _ _ KpL.app
 have hw:∀ v∈p.vars,1<=v.width/\v.width<=8:=fun v hv=>by have:=qU (zE hvp v hv);omega
 have hfit:=qiN p c (by unfold Fits;have:=hh.vars;omega) (by unfold Fits;have:=hh.cl;omega) (fun l hl=>by unfold Fits;have:=hh.cll l hl;omega) (fun v hv=>by have:=hw v hv;omega);simp[-getElem?_pos,hvp];refine qc.call hfit (by simp) ?_;cases hf:ya p.vars c
 case false=>
  have hq:yG p c r=([],[],(0,0),1):=by unfold yG;rw[if_neg (by simp[hvp]),if_pos hf]
  rw[hq];have hQ:∀ X T',KpL [] H X->SolQ ([],[],(0,0),1) p.vars.length H (.tup [.sl 0 [] .nil,.agg [.sl 0 [] .nil],.agg [.int .u64 0,.int .u64 0],.int .i64 1]) ⟨X,T'⟩:=fun X T' hX=>⟨hX,.inl ⟨by decide,rfl⟩⟩
  simp[-getElem?_pos];refine qc.call (WN _) (by simp) ?_;simp[-getElem?_pos];exact hQ _ _ KpL.app
 simp[-getElem?_pos];refine qc.call hrul (by simp) ?_;by_cases he:(qp p).2=0
 case neg=>
  have hq:yG p c r=([],[],(0,0),(qp p).2):=by unfold yG;rw[if_neg (by simp[hvp]),if_neg (by simp[hf]),if_pos he]
  rw[hq];have hQ:∀ X T',KpL [] H X->SolQ ([],[],(0,0),(qp p).2) p.vars.length H (.tup [.sl 0 [] .nil,.agg [.sl 0 [] .nil],.agg [.int .u64 0,.int .u64 0],.int .i64 (qp p).2]) ⟨X,T'⟩:=fun X T' hX=>⟨hX,.inl ⟨he,rfl⟩⟩
  simp[-getElem?_pos,he];refine qc.call (WN _) (by simp) ?_;simp[-getElem?_pos];exact hQ _ _ KpL.app
 have hcl:c.length=p.vars.length:=by
  unfold ya at hf;simp only[qp9,decide_eq_true_eq]at hf;exact hf.1
 have h0:=h0' hvp hf;have hcop:=fun H' T'=>qja p c (by have:=hh.vars;omega) h0 hcl (fun v hv=>by have:=hw v hv;omega) hh.cll H' T'
 simp[-getElem?_pos,he];refine qc.acall (hcop _ _) ?_;rintro v ⟨H1,T1⟩ ⟨hk1,B2,ws,rfl,hB2,cw,hwl,hdi,hwe⟩;dsimp only at hk1 cw hwe;have bx:=hk1.2 _ _ lk0 (by simp);have bh:=hk1.2 _ _ lk1 (by simp);have br:=hk1.2 _ _ lk2 (by simp);have b3:=hk1.2 _ _ lk3 (by simp);have b4:=hk1.2 _ _ lk4 (by simp);have hkH:KpL [] H H1:=KpL.app.trans hk1;have hlen1:=hk1.1;simp only[qqb,qqm,qqK]at hlen1 hB2;have hB2l:=(qp5.1 cw).1;obtain⟨PU,hPU⟩:∃ PU,PU=ji p.vars c:=⟨_,rfl⟩;have hPl:PU.length=p.vars.length:=by rw[hPU];exact Zi hcl
 have hPa:∀ (i:Nat) (v:Var),p.vars[i]?=some v->∃ l,c[i]?=some l/\PU[i]?=some (v,jU v l):=fun i v hi=>by
  have hil:=(qp5.1 hi).1;obtain⟨l,hl⟩:∃ l,c[i]?=some l:=⟨_,qp8 (by omega)⟩;exact⟨l,hl,by rw[hPU];exact Vk hi hl⟩
 have hrep:∀ (i:Nat) (v:Var) (u:List Int) (x:AV),PU[i]?=some (v,u)->ws[i]?=some x->Ji B2 H1 x u:=fun i v u x hi hx=>by
  have hil:=(qp5.1 hi).1;obtain⟨v',hv⟩:∃ v',p.vars[i]?=some v':=⟨_,qp8 (by omega)⟩;obtain⟨l,hl,hp⟩:=hPa i v' hv;rw[hi]at hp;cases hp;exact hwe i _ l x hv hl hx
 have hPm:∀ x∈PU,x.1∈p.vars:=fun x hx=>by
  rw[hPU]at hx;obtain⟨y,hy,rfl⟩:=qqx.1 hx;exact (qs2 hy).1
 have hPk:∀ x∈PU,x.2.length<2 ^ x.1.width.toNat:=fun x hx=>by
  rw[hPU]at hx;obtain⟨y,hy,rfl⟩:=qqx.1 hx;show (jU y.1 y.2).length<_;unfold jU zi;split
  . assumption
  . exact qrw _
 have hsol:yG p c r=(if (zd (yz PU p).1 r).2.2≠0 then ([],[],(0,0),(zd (yz PU p).1 r).2.2) else ((zd (yz PU p).1 r).1,qfH p.vars (yz PU p).2 (zd (yz PU p).1 r).1,(zd (yz PU p).1 r).2.1,0)):=by
  unfold yG;rw[if_neg (by simp[hvp]),if_neg (by simp[hf]),if_neg (by simp[he]),<- hPU]
 have hmore:∀ k,MoreH p (yz (PU.take k) p).1 20:=fun k=>(ZA (fun v hv=>zE hvp v hv) h.names (PU.take k) (fun x hx=>hPm x (qq0 hx))).mono (by rw[qqD];have:=hh.vars;omega)
 obtain⟨n,hn⟩:∃ n,n=p.vars.length:=⟨_,rfl⟩;rw[<- hn]at hwl hPl;have hnp:0<n:=by rw[hn];exact qql.2 h0
 have hn20:=hh.vars;rw[<- hn]at hn20;simp[-getElem?_pos,qa bx,<- hn];refine qL.listR p.vars (fun dn ev U=>ev 3=.ptr H.length 0/\ev 5=.ptr (H.length+2) 0/\ev 7=.ptr (H.length+3) 0/\ev 8=.ptr (H.length+4) 0/\ev 10=.fn 26 [] []/\ev 14=.ptr H1.length 0/\ev 15=.ptr (H1.length+1) 0/\ev 65=.sl 4 (p.vars.map qo) .none/\ev 66=.int .i64 n/\ev 67=.int .i64 dn.length /\
  KpL [B2] H1 U.H/\H1.length+2<=U.H.length/\U.H[H1.length]?=some (.cells [.ms B2 0 n 1])/\U.H[H1.length+1]?=some (.cells (qJ (yz (PU.take dn.length) p).1)) /\
  ∃ ws,U.H[B2]?=some (.cells ws)/\ws.length=n/\qdn ws/\(∀ (i:Nat) (u:List Int) (x:AV),(yz (PU.take dn.length) p).2[i]?=some u->ws[i]?=some x->Ji B2 H1 x u)/\(∀ (i:Nat) (v:Var) (u:List Int) (x:AV),dn.length<=i->PU[i]?=some (v,u)->ws[i]?=some x->Ji B2 H1 x u)) ?_ ?_ ?_
 . refine⟨by simp,by simp,by simp,by simp,by simp,by simp,by simp,by simp,by simp,by simp,KpL.app,by simp,by simp,by simp[yz],ws,qa cw _,hwl,hdi,fun i u x hi=>by simp[yz]at hi,fun i v u x _ hi hx=>hrep i v u x hi hx⟩
 . rintro dn v rest ev ⟨H2,T2⟩ R hR hdd hx hlt ⟨e3,e5,e7,e8,e10,e14,e15,e65,e66,e67,k2,hH2,c14,c15,ws,cw,hwl,hdi,hd1,hd2⟩;dsimp only at k2 hH2 c14 c15 cw;rw[<- hn]at hlt;have hlt':(dn.length:Int)<n:=(by omega);have hlt1:dn.length+1<=n:=(by omega);have hwl1:=wr (n:=(dn.length:Int)+1) (by omega) (by omega);obtain⟨l,hl,hpv⟩:=hPa _ v hx;obtain⟨u,hu⟩:∃ u,u=jU v l:=⟨_,rfl⟩;rw[<- hu]at hpv;obtain⟨x,hxw⟩:∃ x,ws[dn.length]?=some x:=⟨_,qp8 (by omega)⟩;have hru:=hd2 _ v u x (qqf _) hpv hxw;have hdr:ws.drop dn.length=x::ws.drop (dn.length+1):=by
    obtain⟨h1,h2⟩:=qp5.1 hxw;rw[qqt h1,h2]
   have htk:PU.take (dn++[v]).length=PU.take dn.length++[(v,u)]:=by
    rw[qqb,qqA,qqE,hpv];rfl
   have hst:yz (PU.take (dn++[v]).length) p=qc5 (yz (PU.take dn.length) p) (v,u):=(by rw[htk,yn]);have hslen:(yz (PU.take dn.length) p).2.length=dn.length:=(by rw[yT,qqD];omega);have hmo:=hmore dn.length;generalize yz (PU.take dn.length) p=st at *;obtain⟨q,us⟩:=st;dsimp only at c15 hd1 hst hslen hmo;have fin:∀ ev' T' H' ws' q' u' x',ev' 3=.ptr H.length 0->ev' 5=.ptr (H.length+2) 0->ev' 7=.ptr (H.length+3) 0->ev' 8=.ptr (H.length+4) 0->ev' 10=.fn 26 [] []->ev' 14=.ptr H1.length 0->ev' 15=.ptr (H1.length+1) 0->ev' 65=.sl 4 (p.vars.map qo) .none->ev' 66=.int .i64 n->ev' 67=.int .i64 ((dn.length:Int)+1) ->
    WS v u q=(q',u')->KpL [B2] H1 H'->H1.length+2<=H'.length->H'[H1.length]?=some (.cells [.ms B2 0 n 1])->H'[H1.length+1]?=some (.cells (qJ q'))->H'[B2]?=some (.cells ws')->ws'=ws.set dn.length x'->Ji B2 H1 x' u'->(x'=x\/x'=.sl 0 [] .nil)->R ev' ⟨H',T'⟩:=by
    intro ev' T' H' ws' q' u' x' a3 a5 a7 a8 a10 a14 a15 a65 a66 a67 hc1 hk' hl' d14 d15 dw hws' hrx hxx;subst hws';have hlw:dn.length<ws.length:=(by omega);refine hR _ _ ⟨a3,a5,a7,a8,a10,a14,a15,a65,a66,by rw[a67];simp,hk',hl',d14,?_,_,dw,by simp[hwl],hdi.set (fun b k hy i b' k' hi hb'=>?_),fun i u2 x2 hi hx2=>?_,fun i v2 u2 x2 hi hp2 hx2=>?_⟩
    . rw[hst];unfold qc5;rw[hc1];exact d15
    . rcases hxx with rfl|rfl
      . rw[hy]at hxw;exact hdi i dn.length b' b k' k hi hb' hxw
      . cases hy
    . rw[hst]at hi;unfold qc5 at hi;rw[hc1]at hi;dsimp only at hi;by_cases hi2:i<dn.length
      . rw[qqe (by omega)]at hi;rw[qp7 (by omega)]at hx2;exact hd1 i u2 x2 hi hx2
      . have hi3:i=dn.length:=by
         have:=(qp5.1 hi).1;simp at this;omega
        subst hi3;rw[qqd (by omega),hslen,qrl]at hi;simp at hi;subst hi;rw[qqa hlw]at hx2;cases hx2;exact hrx
    . simp at hi;rw[qp7 (by omega)]at hx2;exact hd2 i v2 u2 x2 (by omega) hp2 hx2
   have hsame:ws=ws.set dn.length x:=by
    apply qqW;intro i;by_cases hi:i=dn.length
    . subst hi;rw[qqa (by omega),hxw]
    . rw[qp7 (Ne.symm hi)]
   have qps:∀ ev' T' w,ev' 3=.ptr H.length 0->ev' 5=.ptr (H.length+2) 0->ev' 7=.ptr (H.length+3) 0->ev' 8=.ptr (H.length+4) 0->ev' 10=.fn 26 [] []->ev' 14=.ptr H1.length 0->ev' 15=.ptr (H1.length+1) 0->ev' 65=.sl 4 (p.vars.map qo) .none->ev' 66=.int .i64 n->ev' 67=.int .i64 ((dn.length:Int)+1) ->
    (v.mode≠2\/u=[])->R ev' ⟨H2++w,T'⟩:=by
    intro ev' T' w a3 a5 a7 a8 a10 a14 a15 a65 a66 a67 hc;refine fin ev' T' _ ws q u x a3 a5 a7 a8 a10 a14 a15 a65 a66 a67 (if_pos hc) (k2.trans KpL.app) (by simp;omega) (qa c14 _) (qa c15 _) (qa cw _) hsame hru (.inl rfl)
   have c14a:=fun w=>qa c14 w
   have c15a:=fun w=>qa c15 w
   have cwa:=fun w=>qa cw w
   by_cases hm:v.mode=2
   case neg=>
    simp[-getElem?_pos,e14,e65,e66,e67,hlt',hlt1,hx,qo,hm,hwl1];exact qps _ _ _ (by simp[e3]) (by simp[e5]) (by simp[e7]) (by simp[e8]) (by simp[e10]) (by simp[e14]) (by simp[e15]) (by simp[e65]) (by simp[e66]) (by simp) (.inl hm)
   rcases hru with ⟨hu0,rfl|rfl⟩|⟨hu0,b,hb,rfl,hbu⟩
   . simp[-getElem?_pos,e14,e65,e66,e67,hlt',hlt1,hx,qo,hm,c14a,cwa,hdr,hwl,hwl1];exact qps _ _ _ (by simp[e3]) (by simp[e5]) (by simp[e7]) (by simp[e8]) (by simp[e10]) (by simp[e14]) (by simp[e15]) (by simp[e65]) (by simp[e66]) (by simp) (.inr hu0)
   . simp[-getElem?_pos,e14,e65,e66,e67,hlt',hlt1,hx,qo,hm,c14a,cwa,hdr,hwl,hwl1];exact qps _ _ _ (by simp[e3]) (by simp[e5]) (by simp[e7]) (by simp[e8]) (by simp[e10]) (by simp[e14]) (by simp[e15]) (by simp[e65]) (by simp[e66]) (by simp) (.inr hu0)
   . have hup:=qql.2 hu0;have hun:¬ (u.length:Int)=0:=(by omega);have hvm:=qp6 hx;have hvw:=hw v hvm;have hve:=zE hvp v hvm;have hw7:=hh.w7 hvp v hvm hm;have hbH:H2[b]?=some (.cells (zF u)):=k2.2 _ _ hbu (by simp;omega);have hbA:=fun w=>qa hbH w
     have hul:u.length<2 ^ v.width.toNat:=hPk (v,u) (qp6 hpv);have hp2:2 ^ v.width.toNat<=2 ^ 7:=qqu (by omega) (by omega);have hun57:=fun X TT hX=>qg9 v.width (by omega) (by omega) u (by unfold Fits;omega) hu0 b X TT hX
     have hrne:=qdT hul;obtain⟨_,hrl,hrr⟩:=Vj u (w:=v.width) (by omega) (by omega);have hrun:=(Yx u (w:=v.width) (by omega) (by omega)).2;have hmem63:=qlm v.name (yw v.width u) hrne (by omega) (fun x hx=>by have:=hrr x hx;omega) (by omega);have hmx:Qy v u=jA v.name (kh (yw v.width u)):=rfl;rw[<- hmx]at hmem63;have hqh:q.hard.length<=9020:=by
      obtain⟨_,_,_,_,es,q1,q2,_⟩:=hmo;rw[q1,qqb];have:=hh.hard;omega
     have hres:=qaQ q (Qy v u) (by omega);have hmo2:=hmo.add (vN hve (h.names v hvm) u) (yZ hvm hve u);have hvq2:VQ (Je q (Qy v u)):=hmo2.vq h (by have:=hh.hard;omega);have hrul2:=KJ (Je q (Qy v u)) hvq2 (by rw[hmo2.vars];exact hh.vars) (by rw[hmo2.bits hvp];exact hh.bits) (by rw[hmo2.dists];exact hh.dists) (by rw[hmo2.soft];exact hh.soft);have hcy:WS v u q=if (qp (Je q (Qy v u))).2=11 then (q,[]) else (Je q (Qy v u),u):=if_neg (by simp[hm,hu0])
     generalize Je q (Qy v u)=less at *;generalize Qy v u=mx at *;generalize hgen:yw v.width u=ru at *;simp[-getElem?_pos,e14,e65,e66,e67,hlt',hlt1,hx,qo,hm,c14a,c15a,cwa,hdr,hwl,hwl1,hun,hu0];rw[qG rfl];have hlent:=fun (X:List Blk) (hX:X[b]?=some (.cells (zF u)))=>(qj0.frz (b:=b) (H:=X) (v:=.ms b 0 u.length 1) (a:=u) (.inr ⟨hu0,rfl,hX⟩) 7).2.1
     simp only[qJ]at hres hrul2;have hac:=yE mx;refine kT_cut (fun ev' U'=>Reg16 H H1 p n dn.length ev'/\∃ T',U'=⟨H2++[.cells (qo v),.cells (qJ less)],T'⟩/\ev' 18=.ptr (H2.length+1) 0) ?_ ?_
     . simp[-getElem?_pos,qM,e14,e15,e65,e66,e67,hlt',hlt1,hx,qo,hm,c14a,c15a,cwa,hdr,hwl,hwl1]
       repeat' with_reducible refine And.intro ?_ ?_
       all_goals
        refine qc.acall (hun57 _ _ (hbA _)) ?_;rintro v' U' ⟨rfl,rfl⟩;rw[hgen,qcA hrne,Vl hrne];simp[-getElem?_pos,qM,e14,e15,e65,e66,e67,hlt',hlt1,hx,qo,hm,c14a,c15a,cwa,hdr,hwl,hwl1]
       all_goals
        refine qc.pure hmem63 (by simp) (by simp) ?_;simp[-getElem?_pos,-qK,hac,KG,V8,Qb,qM,e14,e15,e65,e66,e67,hlt',hlt1,hx,qo,hm,c14a,c15a,cwa,hdr,hwl,hwl1]
       all_goals
        refine qc.call hres (by simp) ?_;simp[-getElem?_pos,-qK,hac,KG,V8,Qb,qM,e14,e15,e65,e66,e67,hlt',hlt1,hx,qo,hm,c14a,c15a,cwa,hdr,hwl,hwl1]
       all_goals exact⟨by simp[e3],by simp[e5],by simp[e7],by simp[e8],by simp[e10],by simp[e14],by simp[e15],by simp,by simp[e65],by simp[e66],by simp[e67]⟩
     . clear e3 e5 e7 e8 e10 e14 e15 e65 e66 e67 hun57 hmem63 hres;rintro ev ⟨X,T'⟩ ⟨⟨e3,e5,e7,e8,e10,e14,e15,e16,e65,e66,e67⟩,T'',hX,e18⟩;obtain⟨rfl,rfl⟩:=(St.mk.injEq _ _ _ _).mp hX;have f18:(H2++[Blk.cells (qo v),.cells (qJ less)])[H2.length+1]?=some (.cells (qJ less)):=(by simp);have f18a:=fun w=>qa f18 w
       have f14:=c14a [Blk.cells (qo v),.cells (qJ less)];have f15:=c15a [Blk.cells (qo v),.cells (qJ less)];have fw:=cwa [Blk.cells (qo v),.cells (qJ less)];have kX:KpL [B2] H1 (H2++[Blk.cells (qo v),.cells (qJ less)]):=k2.trans KpL.app;have lX:H1.length+2<=(H2++[Blk.cells (qo v),.cells (qJ less)]).length:=(by simp;omega);have lX2:H2.length+1<(H2++[Blk.cells (qo v),.cells (qJ less)]).length:=(by simp);generalize (H2++[Blk.cells (qo v),.cells (qJ less)])=X at *;simp only[qJ]at f18;simp[-getElem?_pos,e18,f18];refine qc.call hrul2 (by simp) ?_;by_cases h11:(qp less).2=11
       . rw[if_pos h11]at hcy;have fwl:=(qp5.1 fw).1;simp[-getElem?_pos,e14,e16,f14,fw,hdr,hwl,hlt',hlt1,h11,e67,hwl1];refine fin _ _ _ _ q [] (.sl 0 [] .nil) (by simp[e3]) (by simp[e5]) (by simp[e7]) (by simp[e8]) (by simp[e10]) (by simp[e14]) (by simp[e15]) (by simp[e65]) (by simp[e66]) (by simp) hcy (kX.trans (KpL.set (by simp))) (by simpa using lX) ?_ ?_ (qqa fwl) rfl (.inl ⟨rfl,.inr rfl⟩) (.inr rfl)
         . rw[qp7 (by omega)];exact f14
         . rw[qp7 (by omega)];exact f15
       . rw[if_neg h11]at hcy;have f15l:=(qp5.1 f15).1;simp[-getElem?_pos,e14,e15,e16,e18,f14,f15,f18,fw,hdr,hwl,hlt',hlt1,h11,e67,hwl1];refine fin _ _ _ _ less u (.ms b 0 u.length 1) (by simp[e3]) (by simp[e5]) (by simp[e7]) (by simp[e8]) (by simp[e10]) (by simp[e14]) (by simp[e15]) (by simp[e65]) (by simp[e66]) (by simp) hcy (kX.setF (by omega)) (by simpa using lX) ?_ (qqa f15l) ?_ hsame (.inr ⟨hu0,b,hb,rfl,hbu⟩) (.inl rfl)
         . rw[qp7 (by omega)];exact f14
         . rw[qp7 (by omega)];exact fw
 . rintro ev ⟨H2,T2⟩ ⟨e3,e5,e7,e8,e10,e14,e15,e65,e66,e67,k2,hH2,c14,c15,ws,cw,hwl,hdi,hd1,_⟩;dsimp only at k2 hH2 c14 c15 cw;have htk:PU.take p.vars.length=PU:=qqg (by omega);rw[htk]at c15 hd1;rw[<- hn]at e67;have hmo:MoreH p (yz PU p).1 20:=(by have:=hmore p.vars.length;rwa[htk]at this);have hul:(yz PU p).2.length=n:=(by rw[yT];exact hPl);have husl:∀ (i:Nat) (u:List Int),(yz PU p).2[i]?=some u->u.length<=100000:=fun i u hi=>by
    obtain⟨x,hx,e⟩:=qpH p PU i u hi;have h1:=hPk x (qp6 hx);have h2:=hw _ (hPm x (qp6 hx));have h3:2 ^ x.1.width.toNat<=2 ^ 8:=qqu (by omega) (by omega);rcases e with rfl|rfl
    . omega
    . simp
   generalize yz PU p=st at *;obtain⟨q,us⟩:=st;dsimp only at c15 hd1 hmo hul hsol husl;have hvq:VQ q:=hmo.vq h (by have:=hh.hard;omega);have hrs:=qeY q hvq (by rw[hmo.vars];exact hh.vars) (fun _=>by rw[qmO hmo.groups];exact hh.flat hvp) (by rw[hmo.bits hvp];exact hh.bits) (by rw[hmo.dists];exact hh.dists) (by rw[hmo.soft];exact hh.soft) (by rw[hmo.dists];exact hh.wts) r H2 T2;have hkH2:=hkH.old k2 (by omega);have bx2:=k2.2 _ _ bx (by simp;omega);have br2:=k2.2 _ _ br (by simp;omega);have b32:=k2.2 _ _ b3 (by simp;omega);have b42:=k2.2 _ _ b4 (by simp;omega);simp only[qJ]at hrs c15;simp only[yh]at hrs;simp[-getElem?_pos,e5,e15,e66,e67,c15,br2];refine qc.acall hrs ?_;rintro v ⟨H3,T3⟩ ⟨k3,w,b,rfl,hrow,hbge⟩;dsimp only at k3 hrow;have br3:=k3.2 _ _ br2 (by simp);have b33:=k3.2 _ _ b32 (by simp);have b43:=k3.2 _ _ b42 (by simp);have cw3:=k3.2 _ _ cw (by simp);have c143:=k3.2 _ _ c14 (by simp);have bx3:=k3.2 _ _ bx2 (by simp);have hkH3:=hkH2.trans k3;have br3l:=(qp5.1 br3).1;have b33l:=(qp5.1 b33).1;have b43l:=(qp5.1 b43).1;have c14l:=(qp5.1 c14).1;have hqlen:=Wg (p:=q) (r:=r);rw[hmo.vars]at hqlen;have hd3:∀ (i:Nat) (u:List Int) (x:AV),us[i]?=some u->ws[i]?=some x->Ji B2 H1 x u/\Ji B2 H3 x u:=fun i u x h1 h2=>by
    have h3:=hd1 i u x h1 h2;exact⟨h3,(h3.keep k2 (by simp)).keep k3 (by simp)⟩
   obtain⟨a,rr,er,hqe⟩:∃ a rr er,zd q r=(a,rr,er):=⟨_,_,_,rfl⟩;rw[hqe]at hrow hqlen hsol ⊢;dsimp only at hrow hqlen hsol ⊢;by_cases her:er=0
   case neg=>
    rw[if_pos her]at hsol;rw[hsol];simp[-getElem?_pos,e3,e5,e10,br3,yh,her];refine qc.call (WN _) (by simp) ?_;simp[-getElem?_pos,e7,e8,b33,b43,b33l,b43l];exact⟨((hkH3.setF (by omega)).setF (by omega)).setF (by omega),.inl ⟨her,rfl⟩⟩
   subst her;rw[if_neg (by simp)]at hsol;rw[hsol];have hal:=hqlen rfl;rw[<- hn]at hal;have hane:a≠[]:=fun e=>by rw[e]at hal;simp at hal;omega
   rcases hrow with ⟨hax,_⟩|⟨_,rfl,hbr⟩
   . exact absurd hax hane
   rw[hal];have k2l:=k2.1;have hb1:H2.length<=b:=hbge;have hne:∀ k,k≠H.length+2->∀ y,(H3.set (H.length+2) y)[k]?=H3[k]? := fun k hk y=>qp7 (Ne.symm hk)
   have d14:∀ y,(H3.set (H.length+2) y)[H1.length]?=some (.cells [.ms B2 0 n 1]):=fun y=>by rw[hne _ (by omega)];exact c143
   have dx:∀ y,(H3.set (H.length+2) y)[H.length]?=_:=fun y=>(hne _ (by omega) y).trans bx3
   have d3:∀ y,(H3.set (H.length+2) y)[H.length+3]?=_:=fun y=>(hne _ (by omega) y).trans b33
   have d4:∀ y,(H3.set (H.length+2) y)[H.length+4]?=_:=fun y=>(hne _ (by omega) y).trans b43
   have dw:∀ y,(H3.set (H.length+2) y)[B2]?=some (.cells ws):=fun y=>by rw[hne _ (by omega)];exact cw3
   have db:∀ y,(H3.set (H.length+2) y)[b]?=some (.cells (zF a)):=fun y=>by rw[hne _ (by omega)];exact hbr
   have dr:∀ y,(H3.set (H.length+2) y)[H.length+2]?=some y:=fun y=>qqa br3l
   simp[-getElem?_pos,e3,e5,br3,yh,dx];refine qL.listR p.vars (fun dn ev U=>ev 5=.ptr (H.length+2) 0/\ev 7=.ptr (H.length+3) 0/\ev 8=.ptr (H.length+4) 0/\ev 14=.ptr H1.length 0/\ev 21=.ms b 0 n 1/\ev 127=.sl 4 (p.vars.map qo) .none/\ev 128=.int .i64 n/\ev 129=.int .i64 dn.length /\
    KpL [] H U.H/\H3.length<=U.H.length/\U.H[H.length+2]?=some (.cells [.int .u64 rr.1,.int .u64 rr.2])/\U.H[H.length+3]?=some (.cells [.sl 0 [] .nil])/\U.H[H.length+4]?=some (.cells [.int .u64 0,.int .u64 0])/\U.H[H1.length]?=some (.cells [.ms B2 0 n 1])/\U.H[b]?=some (.cells (zF a)) /\
    ∃ ws:List AV,U.H[B2]?=some (.cells ws)/\ws.length=n/\qdn ws /\
     (∀ (i:Nat) (v:Var) (u:List Int) (z:Int) (x:AV),i<dn.length->p.vars[i]?=some v->us[i]?=some u->a[i]?=some z->ws[i]?=some x->Ji B2 U.H x (qjY v u z)) /\
     (∀ (i:Nat) (u:List Int) (x:AV),dn.length<=i->us[i]?=some u->ws[i]?=some x->Ji B2 H1 x u/\Ji B2 U.H x u)) ?_ ?_ ?_
   . refine⟨by simp[e5],by simp[e7],by simp[e8],by simp[e14],by simp,by simp,by simp[hn],by simp,hkH3.setF (by omega),by simp,dr _,d3 _,d4 _,d14 _,db _,ws,dw _,hwl,hdi,fun i v u z x hi=>by simp at hi,fun i u x _ h1 h2=>?_⟩;obtain⟨h3,h4⟩:=hd3 i u x h1 h2;exact⟨h3,h4.keep (KpL.set (bs:=[H.length+2]) (by simp)) (by simp;omega)⟩
   . rintro dn v rest ev ⟨H5,T5⟩ R hR hdd hx hlt ⟨e5,e7,e8,e14,e21,e127,e128,e129,hk5,hl5,f2,f3,f4,f14,fb,ws,fw,hwl,hdi,hd1,hd2⟩;dsimp only at hk5 hl5 f2 f3 f4 f14 fb fw hd1 hd2;rw[<- hn]at hlt;have hlt':(dn.length:Int)<n:=(by omega);have hlt1:dn.length+1<=n:=(by omega);have hwl1:=wr (n:=(dn.length:Int)+1) (by omega) (by omega);obtain⟨x,hxw⟩:∃ x,ws[dn.length]?=some x:=⟨_,qp8 (by omega)⟩;obtain⟨u,hu⟩:∃ u,us[dn.length]?=some u:=⟨_,qp8 (by omega)⟩;obtain⟨hr1,hr5⟩:=hd2 _ u x (qqf _) hu hxw;have hdr:ws.drop dn.length=x::ws.drop (dn.length+1):=by
      obtain⟨h1,h2⟩:=qp5.1 hxw;rw[qqt h1,h2]
     obtain⟨z,hz⟩:∃ z,a[dn.length]?=some z:=⟨_,qp8 (by omega)⟩;have hdz:(zF a).drop dn.length=.int .i64 z::(zF a).drop (dn.length+1):=by
      have h0:(zF a)[dn.length]?=some (.int .i64 z):=(by rw[Kv,hz];rfl);obtain⟨h1,h2⟩:=qp5.1 h0;rw[qqt h1,h2]
     have hlw:dn.length<ws.length:=(by omega);by_cases hm:v.mode=2
     case neg=>
      simp[-getElem?_pos,e127,e128,e129,hlt',hx,qo,hm,hwl1];refine hR _ _ ⟨by simp[e5],by simp[e7],by simp[e8],by simp[e14],by simp[e21],by simp[e127],by simp[e128],by simp,hk5.trans KpL.app,by simp;omega,qa f2 _,qa f3 _,qa f4 _,qa f14 _,qa fb _,ws,qa fw _,hwl,hdi,fun i v' u' z' x' hi hv' hu' hz' hx'=>?_,fun i u' x' hi hu' hx'=>?_⟩
      . by_cases hi2:i=dn.length
        . subst hi2;rw[hx]at hv';rw[hu]at hu';rw[hxw]at hx';cases hv';cases hu';cases hx';have:qjY v u z'=u:=if_neg hm;rw[this];exact hr5.keep (KpL.app (bs:=[])) (by simp)
        . exact (hd1 i v' u' z' x' (by simp at hi;omega) hv' hu' hz' hx').keep (KpL.app (bs:=[])) (by simp)
      . obtain⟨h1,h2⟩:=hd2 i u' x' (by simp at hi;omega) hu' hx';exact⟨h1,h2.keep (KpL.app (bs:=[])) (by simp)⟩
     -- what is written: a new row
     have fin:∀ ev' T' H' nb,ev' 5=.ptr (H.length+2) 0->ev' 7=.ptr (H.length+3) 0->ev' 8=.ptr (H.length+4) 0->ev' 14=.ptr H1.length 0->ev' 21=.ms b 0 n 1->ev' 127=.sl 4 (p.vars.map qo) .none->ev' 128=.int .i64 n->ev' 129=.int .i64 ((dn.length:Int)+1) ->
      H5.length<=nb->H5.length<=H'.length->(∀ k,k≠B2->(∀ b' k',x=.ms b' 0 k' 1->k≠b')->k<H5.length->H'[k]?=H5[k]?)->H'[B2]?=some (.cells (ws.set dn.length (.ms nb 0 (u.length+1) 1)))->H'[nb]?=some (.cells (zF (u++[z])))->R ev' ⟨H',T'⟩:=by
      intro ev' T' H' nb a5 a7 a8 a14 a21 a127 a128 a129 hnb hl' hkeep hB' hnew;have hxb:∀ b' k',x=.ms b' 0 k' 1->B2<b'/\b' < H1.length:=fun b' k' e=>by
       subst e;have:=hr1.lt;omega
      have hold:∀ k y,H5[k]?=some y->k≠B2->(k<=B2\/H1.length<=k)->H'[k]?=some y:=fun k y hy h1 h2=>by
       rw[hkeep k h1 (fun b' k' e=>by have:=hxb b' k' e;omega) (qp5.1 hy).1];exact hy
      have hrep:∀ i x' u',i≠dn.length->ws[i]?=some x'->Ji B2 H5 x' u'->Ji B2 H' x' u':=fun i x' u' hi hx' h=>h.same fun b' k' e=>by
       subst e;have h1:=h.lt;exact hkeep b' (by omega) (fun b2 k2 e2=>by subst e2;exact hdi i dn.length b' b2 k' k2 hi hx' hxw) h1.1
      refine hR _ _ ⟨a5,a7,a8,a14,a21,a127,a128,by rw[a129];simp,⟨by have:=hk5.1;dsimp only;omega,fun k y hy _=>hold k y (hk5.2 k y hy (by simp)) (by have:=(qp5.1 hy).1;omega) (.inl (by have:=(qp5.1 hy).1;omega))⟩,by dsimp only;omega,hold _ _ f2 (by omega) (.inl (by omega)),hold _ _ f3 (by omega) (.inl (by omega)),hold _ _ f4 (by omega) (.inl (by omega)),hold _ _ f14 (by omega) (.inr (qqf _)),hold _ _ fb (by omega) (.inr (by omega)),_,hB',by simp[hwl],hdi.set (fun b1 k1 hy i b' k' hi hb'=>?_),fun i v' u' z' x' hi hv' hu' hz' hx'=>?_,fun i u' x' hi hu' hx'=>?_⟩
      . cases hy;have hi3:i<n:=(by have:=(qp5.1 hb').1;omega);obtain⟨u2,hu2⟩:∃ u2,us[i]?=some u2:=⟨_,qp8 (by omega)⟩;by_cases hi4:dn.length<=i
        . have:=(hd2 i u2 _ hi4 hu2 hb').2.lt;omega
        . obtain⟨v2,hv2⟩:∃ v2,p.vars[i]?=some v2:=⟨_,qp8 (by omega)⟩;obtain⟨z2,hz2⟩:∃ z2,a[i]?=some z2:=⟨_,qp8 (by omega)⟩;have:=(hd1 i v2 u2 z2 _ (by omega) hv2 hu2 hz2 hb').lt;omega
      . by_cases hi2:i=dn.length
        . subst hi2;rw[hx]at hv';rw[hu]at hu';rw[hz]at hz';cases hv';cases hu';cases hz';rw[qqa hlw]at hx';cases hx';have e:qjY v u z=u++[z]:=if_pos hm;rw[e];exact .inr ⟨by simp,nb,by have:=(qp5.1 fw).1;omega,by simp,hnew⟩
        . rw[qp7 (Ne.symm hi2)]at hx';exact hrep i x' _ hi2 hx' (hd1 i v' u' z' x' (by simp at hi;omega) hv' hu' hz' hx')
      . simp at hi;rw[qp7 (by omega)]at hx';obtain⟨h1,h2⟩:=hd2 i u' x' (by omega) hu' hx';exact⟨h1,hrep i x' _ (by omega) hx' h2⟩
     have hul5:u.length<=100000:=husl _ u hu;simp[-getElem?_pos,e127,e128,e129,hlt',hx,qo,hm];rw[qG rfl];have f14a:=fun w=>qa f14 w
     have fwa:=fun w=>qa fw w
     have fba:=fun w=>qa fb w
     have fwl:=(qp5.1 fw).1;rcases hr5 with ⟨hu0,rfl|rfl⟩|⟨hu0,b5,hb5,rfl,hbu⟩
     . subst hu0;simp[-getElem?_pos,qM,e14,e21,e129,hlt',hlt1,f14a,fwa,fba,hdr,hdz,hwl,qY,hal,zs,z6,KK,qS,zp,qk,qA,hwl1];refine⟨?_,?_⟩
       all_goals
        refine fin _ _ _ (H5.length+1) (by simp[e5]) (by simp[e7]) (by simp[e8]) (by simp[e14]) (by simp[e21]) (by simp[e127]) (by simp[e128]) (by simp) (by omega) (by simp) (fun k h1 _ h3=>?_) (qqa (by simp;omega)) ?_
        . rw[qp7 (Ne.symm h1),qqe h3]
        . rw[qp7 (by omega)];simp[zF]
     . subst hu0;simp[-getElem?_pos,qM,e14,e21,e129,hlt',hlt1,f14a,fwa,fba,hdr,hdz,hwl,qY,hal,zs,z6,KK,qS,zp,qk,qA,hwl1];refine⟨?_,?_⟩
       all_goals
        refine fin _ _ _ (H5.length+1) (by simp[e5]) (by simp[e7]) (by simp[e8]) (by simp[e14]) (by simp[e21]) (by simp[e127]) (by simp[e128]) (by simp) (by omega) (by simp) (fun k h1 _ h3=>?_) (qqa (by simp;omega)) ?_
        . rw[qp7 (Ne.symm h1),qqe h3]
        . rw[qp7 (by omega)];simp[zF]
     . have hup:=qql.2 hu0;have hbua:=fun w=>qa hbu w
       have hb5l:=(qp5.1 hbu).1;have hl9:u.length+1<=549755813888:=(by omega);have hbx:∀ w y,((H5++w).set b5 y)[B2]?=some (.cells ws):=fun w y=>by rw[qp7 (by omega)];exact fwa w
       have hbx14:∀ w y,((H5++w).set b5 y)[H1.length]?=some (.cells [.ms B2 0 n 1]):=fun w y=>by
        have:=hr1.lt;rw[qp7 (by omega)];exact f14a w
       have hby:∀ w y w2,((H5++w).set b5 y++w2)[B2]?=some (.cells ws):=fun w y w2=>qa (hbx w y) w2
       have hby14:∀ w y w2,((H5++w).set b5 y++w2)[H1.length]?=some (.cells [.ms B2 0 n 1]):=fun w y w2=>qa (hbx14 w y) w2
       have htku:(zF u).take u.length=zF u:=qqg (by simp[qY]);simp[-getElem?_pos,qM,e14,e21,e129,hlt',hlt1,f14a,fwa,fba,hbua,hbx,hbx14,hby,hby14,hdr,hdz,hwl,qY,hal,zs,z6,KK,qS,zp,qk,qA,hwl1,hl9,htku];refine⟨?_,?_⟩
       all_goals
        refine fin _ _ _ (H5.length+1) (by simp[e5]) (by simp[e7]) (by simp[e8]) (by simp[e14]) (by simp[e21]) (by simp[e127]) (by simp[e128]) (by simp) (by omega) (by simp;omega) (fun k h1 h2 h3=>?_) (qqa (by simp;omega)) ?_
        . rw[qp7 (Ne.symm h1),qqe (by simp;omega),qp7 (Ne.symm (h2 b5 u.length rfl)),qqe h3]
        . rw[qp7 (by omega)];simp[zF]
   . rintro ev ⟨H5,T5⟩ ⟨e5,e7,e8,e14,e21,e127,e128,e129,hk5,hl5,f2,f3,f4,f14,fb,ws,fw,hwl,hdi,hd1,_⟩;dsimp only at hk5 hl5 f2 f3 f4 f14 fb fw hd1;rw[<- hn]at e129;have f3l:=(qp5.1 f3).1;have f4l:=(qp5.1 f4).1;simp[-getElem?_pos,e128,e129];rw[qG rfl];have g3:∀ y,(H5.set (H.length+3) y)[H.length+3]?=some y:=fun y=>qqa f3l
     have g34:∀ y,(H5.set (H.length+3) y)[H.length+4]?=some (.cells [.int .u64 0,.int .u64 0]):=fun y=>by rw[qp7 (by omega)];exact f4
     have g4:∀ y z,((H5.set (H.length+3) y).set (H.length+4) z)[H.length+4]?=some z:=fun y z=>qqa (by simp;omega)
     have g43:∀ y z,((H5.set (H.length+3) y).set (H.length+4) z)[H.length+3]?=some y:=fun y z=>by rw[qp7 (by omega)];exact g3 y
     have hnx:=Vr p.vars us a;have fin:∀ T' y z,SolQ (a,qfH p.vars us a,rr,0) n H (.tup [.ms b 0 n 1,.agg [.ms B2 0 n 1],.agg [.int .u64 rr.1,.int .u64 rr.2],.int .i64 0]) ⟨(H5.set (H.length+3) y).set (H.length+4) z,T'⟩:=fun T' y z=>by
      have hold:∀ k x,H5[k]?=some x->k≠H.length+3->k≠H.length+4->((H5.set (H.length+3) y).set (H.length+4) z)[k]?=some x:=fun k x hx h1 h2=>by
       rw[qp7 (Ne.symm h2),qp7 (Ne.symm h1)];exact hx
      refine⟨(hk5.setF (by omega)).setF (by omega),.inr ⟨rfl,_,b,B2,ws,rfl,.inr ⟨hane,by rw[hal],hold _ _ fb (by omega) (by omega)⟩,by rw[(Vq _ _ _ (by omega) (by omega)),hn],hold _ _ fw (by omega) (by omega),hwl,fun i u x hi hx=>?_⟩⟩;obtain⟨v,u',z',h1,h2,h3,rfl⟩:=hnx i u hi;have hil:=(qp5.1 h1).1;exact (hd1 i v u' z' x hil h1 h2 h3 hx).same fun b' k e=>by
       subst e;have:=(hd1 i v u' z' _ hil h1 h2 h3 hx).lt;rw[qp7 (by omega),qp7 (by omega)]
     simp[-getElem?_pos,qM,e5,e7,e8,e14,e21,f2,f3,f14,g34,g4,g43];exact fin _ _ _
def ZQ (H:List Blk)(r:AV)(U':St):Prop:=KpL [] H U'.H/\∃ tok,r=.agg [.sl 1 [] tok]
theorem qjb (p:Problem)(h0:p.vars=[])(tok:Tok)(H:List Blk)(T:List (Option Nat)) :
 qg Tryz.prog GG 30 [.agg (qJ p),.agg [.sl 1 [] tok]] ⟨H,T⟩ (ZQ H):=by
 refine qg.kO ⟨false,qhH,[],[]⟩ qe Tryz.func30 rfl (by kernel_rfl) ?_;have hst:=qkt p h0;simp[-getElem?_pos];refine qc.acall (hst _ _) ?_;rintro v ⟨H1,T1⟩ ⟨hk1,tok1,rfl⟩;dsimp only at hk1;have bx:=hk1.2 _ _ lk0 (by simp);have bh:=hk1.2 _ _ lk1 (by simp);have bz:=hk1.2 _ _ lk2 (by simp);have hkH:KpL [] H H1:=KpL.app.trans hk1;have bzl:=(qp5.1 bz).1;simp[-getElem?_pos,qa bh];refine qL.gen (fun m ev U=>ev 4=.ptr (H.length+2) 0/\ev 5=.ptr H1.length 0/\ev 12=.int .i64 0/\ev 13=.int .i64 0/\∃ T',U=⟨H1++[.cells [.sl 1 [] tok1]],T'⟩) 0 ?_ ?_
 . exact⟨by simp,by simp,by simp,by simp,_,rfl⟩
 rintro m ev U R hR ⟨e4,e5,e12,e13,T',rfl⟩;have hg:∀ y,((H1++[Blk.cells [.sl 1 [] tok1]]).set (H.length+2) y)[H.length+2]?=some y:=fun y=>qqa (by simp;omega)
 simp[-getElem?_pos,e4,e5,e12,e13,qa bz,hg];refine⟨(hkH.trans KpL.app).setF (by omega),tok1,rfl⟩
theorem qgi (p:Problem)(h:VQ p)(hvp:qi p=0)(h0:p.vars=[])(hfl:(NG p).flatten.length<=12)(hb:yB p.vars (qz p)<=18)(hd:p.dists.length<=10000)(hs5:p.soft.length<=10000)(hws:∀ d∈p.dists,d.weights.length<=1000)(r:Rng)(tok:Tok)(H:List Blk)(T:List (Option Nat)) :
 qg Tryz.prog GG 11 [.agg (qJ p),.agg [.sl 1 [] tok],.agg (yh r)] ⟨H,T⟩ (fun v U'=>KpL [] H U'.H/\∃ w sz tk,
  (((zd p r).2.2≠0/\v=.tup [.sl 0 [] .nil,.agg [.sl sz [] tk],.agg [.int .u64 0,.int .u64 0],.int .i64 (zd p r).2.2]) \/
    ((zd p r).2.2=0/\v=.tup [w,.agg [.sl sz [] tk],.agg (yh (zd p r).2.1),.int .i64 0]/\∃ b,qj0 b U'.H w (zd p r).1))):=by
 refine qg.kO ⟨false,qoA,[],[]⟩ qe Tryz.func11 rfl (by kernel_rfl) ?_;have hval:=j4 p h;have hfc:qf2 p=[]:=by unfold qf2;rw[h0];rfl
 have hfit:=qiN p [] (by rw[h0];simp) (by simp) (by simp) (by rw[h0];simp);have hff:=qiM p;rw[hfc]at hff;rw[hff]at hfit;rw[hvp]at hval;have hrul:=KJ p h (by rw[h0];simp) hb hd hs5;have hcop:=qjb p h0 tok;have hfz:∀ H':List Blk,Leq (frz H' 8 (.agg [.sl 1 [] tok])) (.agg (jZ [])):=fun H'=>by
  have e:frz H' 8 (.agg [.sl 1 [] tok])=.agg [.sl 1 [] tok]\/frz H' 8 (.agg [.sl 1 [] tok])=.agg [.sl 1 [] .none]:=by
   cases tok with
   | chain t k=>right;simp[frz,qC,qq]
   | none=>left;exact qt (by simp)
   | nil=>left;exact qt (by simp)
   | tight=>left;exact qt (by simp)
  rcases e with e|e<;>rw[e]<;>simp[Leq,zm]
 simp[-getElem?_pos,yh];refine qc.call hval (by simp) ?_;simp[-getElem?_pos];refine qc.lent hfit (by rfl) (by
  simp only[qqk,qqF,zm];refine⟨?_,hfz _,trivial⟩;rw[qt (by simp)];simp[Leq.refl]) ?_
 simp[-getElem?_pos];refine qc.call hrul (by simp) ?_;by_cases he:(qp p).2=0
 case neg=>
  have hsr:zd p r=([],(0,0),(qp p).2):=if_pos he;rw[hsr];simp[-getElem?_pos,he];refine qc.call (WN _) (by simp) ?_;simp[-getElem?_pos];exact KpL.app
 simp[-getElem?_pos,he];refine qc.acall (hcop _ _) ?_;rintro v ⟨H1,T1⟩ ⟨hk1,tok1,rfl⟩;dsimp only at hk1;have bx:=hk1.2 _ _ lk0 (by simp);have bh:=hk1.2 _ _ lk1 (by simp);have br:=hk1.2 _ _ lk2 (by simp);have b3:=hk1.2 _ _ lk3 (by simp);have b4:=hk1.2 _ _ lk4 (by simp);have hkH:KpL [] H H1:=KpL.app.trans hk1;have hlen1:=hk1.1;simp only[qqb,qqm,qqK]at hlen1;simp[-getElem?_pos,qa bx,h0];refine qL.gen (fun m ev U=>ev 3=.ptr H.length 0/\ev 5=.ptr (H.length+2) 0/\ev 7=.ptr (H.length+3) 0/\ev 8=.ptr (H.length+4) 0/\ev 10=.fn 26 [] []/\ev 14=.ptr H1.length 0/\ev 15=.ptr (H1.length+1) 0/\ev 66=.int .i64 0/\ev 67=.int .i64 0 /\
  U.H=H1++[.cells [.sl 1 [] tok1],.cells (qJ p)]) 0 ?_ ?_
 . exact⟨by simp,by simp,by simp,by simp,by simp,by simp,by simp,by simp,by simp,by simp[h0]⟩
 rintro m ev ⟨H2,T2⟩ R hR ⟨e3,e5,e7,e8,e10,e14,e15,e66,e67,rfl⟩;have k2:KpL [] H1 (H1++[.cells [.sl 1 [] tok1],.cells (qJ p)]):=KpL.app;have c14:(H1++[.cells [.sl 1 [] tok1],.cells (qJ p)])[H1.length]?=some (.cells [.sl 1 [] tok1]):=lk0;have c15:(H1++[.cells [.sl 1 [] tok1],.cells (qJ p)])[H1.length+1]?=some (.cells (qJ p)):=lk1;generalize (H1++[.cells [.sl 1 [] tok1],.cells (qJ p)])=H2 at *;have bx2:=k2.2 _ _ bx (by simp);have br2:=k2.2 _ _ br (by simp);have b32:=k2.2 _ _ b3 (by simp);have b42:=k2.2 _ _ b4 (by simp);have hkH2:=hkH.trans k2;have hrs:=qeY p h (by rw[h0];simp) (fun _=>hfl) hb hd hs5 hws r H2 T2;simp only[qJ]at hrs c15;simp only[yh]at hrs;simp[-getElem?_pos,e5,e15,e66,e67,c15,br2];refine qc.acall hrs ?_;rintro v ⟨H3,T3⟩ ⟨k3,w,b,rfl,hrow,hbge⟩;dsimp only at k3 hrow;have br3:=k3.2 _ _ br2 (by simp);have b33:=k3.2 _ _ b32 (by simp);have b43:=k3.2 _ _ b42 (by simp);have c143:=k3.2 _ _ c14 (by simp);have bx3:=k3.2 _ _ bx2 (by simp);have hkH3:=hkH2.trans k3;have br3l:=(qp5.1 br3).1;have b33l:=(qp5.1 b33).1;have b43l:=(qp5.1 b43).1;have c14l:=(qp5.1 c14).1;have hqlen:=Wg (p:=p) (r:=r);obtain⟨a,rr,er,hqe⟩:∃ a rr er,zd p r=(a,rr,er):=⟨_,_,_,rfl⟩;rw[hqe]at hrow hqlen ⊢;dsimp only at hrow hqlen ⊢;by_cases her:er=0
 case neg=>
  simp[-getElem?_pos,e3,e5,e10,br3,yh,her];refine qc.call (WN _) (by simp) ?_;simp[-getElem?_pos,e7,e8,b33,b43,b33l,b43l];exact ((hkH3.setF (by omega)).setF (by omega)).setF (by omega)
 subst her;have hal:=hqlen rfl;rw[h0]at hal;have ha0:a=[]:=qqj hal;subst ha0;rcases hrow with ⟨_,sz,tk,rfl⟩|⟨hx,_⟩
 case inr=>exact absurd rfl hx
 have hne:∀ k,k≠H.length+2->∀ y,(H3.set (H.length+2) y)[k]?=H3[k]? := fun k hk y=>qp7 (Ne.symm hk)
 have dx:∀ y,(H3.set (H.length+2) y)[H.length]?=_:=fun y=>(hne _ (by omega) y).trans bx3
 simp[-getElem?_pos,e3,e5,br3,yh,dx,h0];refine qL.gen (fun m ev U=>ev 5=.ptr (H.length+2) 0/\ev 7=.ptr (H.length+3) 0/\ev 8=.ptr (H.length+4) 0/\ev 14=.ptr H1.length 0/\ev 21=.sl sz [] tk/\ev 128=.int .i64 0/\ev 129=.int .i64 0 /\
  KpL [] H U.H/\U.H[H.length+2]?=some (.cells [.int .u64 rr.1,.int .u64 rr.2])/\U.H[H.length+3]?=some (.cells [.sl 0 [] .nil])/\U.H[H.length+4]?=some (.cells [.int .u64 0,.int .u64 0])/\U.H[H1.length]?=some (.cells [.sl 1 [] tok1])) 0 ?_ ?_
 . exact⟨by simp[e5],by simp[e7],by simp[e8],by simp[e14],by simp,by simp,by simp,hkH3.setF (by omega),qqa br3l,(hne _ (by omega) _).trans b33,(hne _ (by omega) _).trans b43,(hne _ (by omega) _).trans c143⟩
 rintro m ev ⟨H5,T5⟩ R hR ⟨e5,e7,e8,e14,e21,e128,e129,hk5,f2,f3,f4,f14⟩;dsimp only at hk5 f2 f3 f4 f14;have f3l:=(qp5.1 f3).1;have f4l:=(qp5.1 f4).1;simp[-getElem?_pos,e128,e129];rw[qG rfl];have g3:∀ y,(H5.set (H.length+3) y)[H.length+3]?=some y:=fun y=>qqa f3l
 have g34:∀ y,(H5.set (H.length+3) y)[H.length+4]?=some (.cells [.int .u64 0,.int .u64 0]):=fun y=>by rw[qp7 (by omega)];exact f4
 have g4:∀ y z,((H5.set (H.length+3) y).set (H.length+4) z)[H.length+4]?=some z:=fun y z=>qqa (by simp;omega)
 have g43:∀ y z,((H5.set (H.length+3) y).set (H.length+4) z)[H.length+3]?=some y:=fun y z=>by rw[qp7 (by omega)];exact g3 y
 simp[-getElem?_pos,qM,e5,e7,e8,e14,e21,f2,f3,f14,g34,g4,g43];exact⟨(hk5.setF (by omega)).setF (by omega),0,.inl ⟨rfl,sz,tk,rfl⟩⟩
end Go.Proofs.YtoibbcnfhhggnaaGreatDoor
end
