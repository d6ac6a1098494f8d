/- A part of the proof. -/
import Derived.Test.YtoibbcnfhhggnaaGreatDoorPa26
set_option maxHeartbeats 16000000
set_option linter.unusedVariables false
set_option linter.unusedSimpArgs false
set_option maxRecDepth 100000
set_option linter.defProp false
section
namespace Go.Proofs.YtoibbcnfhhggnaaGreatDoor
open Go Go.Abs
theorem qjA {s:Spc}{H:List Blk}(hs:SpOk s H)(hw:∀ v∈s.p.vars,0<=v.width/\v.width<=8)(hvl:s.p.vars.length<=1000){r:AV}{a:List Int}(ha:AsR r a H)(T:List (Option Nat)) :
 qg Tryz.prog GG 93 [.ptr s.S 0,r] ⟨H,T⟩ (fun v U'=>v=.bool (zb s.p.vars a)/\KpL [] H U'.H):=by
 refine qg.k qe Tryz.func93 rfl (by kernel_rfl) ?_;have hS:=hs.c;have hlen:=ha.len;simp only[spE,qL,qqP,qqJ]at hS;obtain⟨res,hres⟩:∃ res,res=zb s.p.vars a:=⟨_,rfl⟩;rw[<- hres];unfold zb at hres;by_cases hl:a.length=s.p.vars.length
 case neg=>
  have hl':¬ (a.length:Int)=s.p.vars.length:=by omega
  have:res=false:=by rw[hres];simp[hl]
  subst this;simp[-getElem?_pos,-Kv,hlen,hS,show Kv (Dof Tryz.prog) ⟨H,T⟩ 22 (.sl 4 (s.p.vars.map qp) .none)=some (.int .i64 (s.p.vars.length:Nat)) by simp,hl'];exact KpL.refl
 have hl':(a.length:Int)=s.p.vars.length:=by omega
 have hres:res=(s.p.vars.zip a).all je:=by rw[hres];simp[hl]
 simp[-getElem?_pos,-Kv,hlen,hS,show ∀ U,Kv (Dof Tryz.prog) U 22 (.sl 4 (s.p.vars.map qp) .none)=some (.int .i64 (s.p.vars.length:Nat)) from fun U=>by simp,hl'];refine qM.listR s.p.vars (fun d ev U=>ev 1=r/\ev 20=.sl 4 (s.p.vars.map qp) .none/\ev 21=.int .i64 s.p.vars.length/\ev 22=.int .i64 d.length/\KpL [] H U.H/\res=((s.p.vars.drop d.length).zip (a.drop d.length)).all je) ?_ ?_ ?_
 . exact⟨by simp,by simp,by simp,by simp,KpL.refl,by simpa using hres⟩
 . rintro d v rest ev ⟨H1,T1⟩ R hR hd hx hlt ⟨e1,e20,e21,e22,hkp,hr⟩;dsimp only at hkp;have hdw:=wr (n:=(d.length:Int)+1) (by omega) (by omega);have hlt':(d.length:Int)<s.p.vars.length:=(by omega);have hda:d.length<a.length:=(by omega);obtain⟨x,hax⟩:∃ x,a[d.length]?=some x:=⟨_,qqo hda⟩;have hvd:s.p.vars.drop d.length=v::s.p.vars.drop (d.length+1):=by
    obtain⟨h1,h2⟩:=qql.1 hx;rw[qqK h1,h2]
   have had:a.drop d.length=x::a.drop (d.length+1):=by
    obtain⟨h1,h2⟩:=qql.1 hax;rw[qqK h1,h2]
   rw[hvd,had,qtr,qrS]at hr;have hwv:=hw v (qqm hx);have hs1:=kQ hwv.1 (by omega);have hwn:¬ v.width<0:=(by omega);have ha1:=ha.keep hkp (by simp);have hszz:((2 ^ v.width.toNat:Nat):Int)=(2:Int) ^ v.width.toNat:=(by simp);have hgo:∀ ev' U',ev' 1=r->ev' 20=.sl 4 (s.p.vars.map qp) .none->ev' 21=.int .i64 s.p.vars.length->ev' 22=.int .i64 (d.length+1:Nat)->KpL [] H U'.H->je (v,x)=true->R ev' U':=fun ev' U' b1 b2 b3 b4 b5 b6=>hR _ _ ⟨b1,b2,b3,by rw[b4,qqr,qqO],b5,by rw[hr,b6,qrr,qqr,qqO]⟩
   have hbad:je (v,x)=false->res=false:=fun h=>by rw[hr,h];rfl
   unfold je at hgo hbad;simp only at hgo hbad;rw[<- hszz]at hgo hbad;generalize 2 ^ v.width.toNat=N at *;have hnext:∀ u,KpL [] H (H1++u):=fun u=>hkp.trans KpL.app
   rcases ha1 with ⟨tok,rfl⟩|⟨A,rfl,hA⟩
   case' inr=>
    have hto:(zB a)[d.length]?=some (.int .i64 x):=(by rw[Kg,hax];rfl);have hdr:(zB a).drop d.length=.int .i64 x::(zB a).drop (d.length+1):=by
     obtain⟨h1,h2⟩:=qql.1 hto;rw[qqK h1,h2]
    have hla:d.length+1<=a.length:=hda;have hdi:(d.length:Int)<a.length:=by omega
   all_goals
    by_cases hm:v.mode=0
    . by_cases hxv:x=v.value
      . subst hxv;by_cases hx0:v.value<0
        . have hb:=hbad (by simp;omega);subst hb
          first | simp[-getElem?_pos,e1,e20,e21,e22,hlt,hlt',hx,hax,hwn,IntKind.bits,hs1,hdw,unA,hA,qb hA,hdr,za,hla,hdi,hm,hx0] | simp[-getElem?_pos,e1,e20,e21,e22,hlt,hlt',hx,hax,hwn,IntKind.bits,hs1,hdw,unA,hm,hx0]
          exact hnext _
        . by_cases hxN:(N:Int)<=v.value
          . have hb:=hbad (by simp;omega);subst hb
            first | simp[-getElem?_pos,e1,e20,e21,e22,hlt,hlt',hx,hax,hwn,IntKind.bits,hs1,hdw,unA,hA,qb hA,hdr,za,hla,hdi,hm,hx0,hxN] | simp[-getElem?_pos,e1,e20,e21,e22,hlt,hlt',hx,hax,hwn,IntKind.bits,hs1,hdw,unA,hm,hx0,hxN]
            exact hnext _
          . have hg:=hgo
            first | simp[-getElem?_pos,e1,e20,e21,e22,hlt,hlt',hx,hax,hwn,IntKind.bits,hs1,hdw,unA,hA,qb hA,hdr,za,hla,hdi,hm,hx0,hxN] | simp[-getElem?_pos,e1,e20,e21,e22,hlt,hlt',hx,hax,hwn,IntKind.bits,hs1,hdw,unA,hm,hx0,hxN]
            exact hgo _ _ (by simp[e1]) (by simp[e20]) (by simp[e21]) (by simp) (hnext _) (by simp[hm,hx0,hxN];omega)
      . have hb:=hbad (by simp[hm,hxv]);subst hb
        first | simp[-getElem?_pos,e1,e20,e21,e22,hlt,hlt',hx,hax,hwn,IntKind.bits,hs1,hdw,unA,hA,qb hA,hdr,za,hla,hdi,hm,hxv] | simp[-getElem?_pos,e1,e20,e21,e22,hlt,hlt',hx,hax,hwn,IntKind.bits,hs1,hdw,unA,hm,hxv]
        exact hnext _
    . by_cases hx0:x<0
      . have hb:=hbad (by simp;omega);subst hb
        first | simp[-getElem?_pos,e1,e20,e21,e22,hlt,hlt',hx,hax,hwn,IntKind.bits,hs1,hdw,unA,hA,qb hA,hdr,za,hla,hdi,hm,hx0] | simp[-getElem?_pos,e1,e20,e21,e22,hlt,hlt',hx,hax,hwn,IntKind.bits,hs1,hdw,unA,hm,hx0]
        exact hnext _
      . by_cases hxN:(N:Int)<=x
        . have hb:=hbad (by simp;omega);subst hb
          first | simp[-getElem?_pos,e1,e20,e21,e22,hlt,hlt',hx,hax,hwn,IntKind.bits,hs1,hdw,unA,hA,qb hA,hdr,za,hla,hdi,hm,hx0,hxN] | simp[-getElem?_pos,e1,e20,e21,e22,hlt,hlt',hx,hax,hwn,IntKind.bits,hs1,hdw,unA,hm,hx0,hxN]
          exact hnext _
        . have hg:=hgo
          first | simp[-getElem?_pos,e1,e20,e21,e22,hlt,hlt',hx,hax,hwn,IntKind.bits,hs1,hdw,unA,hA,qb hA,hdr,za,hla,hdi,hm,hx0,hxN] | simp[-getElem?_pos,e1,e20,e21,e22,hlt,hlt',hx,hax,hwn,IntKind.bits,hs1,hdw,unA,hm,hx0,hxN]
          exact hgo _ _ (by simp[e1]) (by simp[e20]) (by simp[e21]) (by simp) (hnext _) (by simp[hm,hx0,hxN];omega)
 . rintro ev ⟨H1,T1⟩ ⟨e1,e20,e21,e22,hkp,hr⟩;have:res=true:=by rw[hr,qsz];rfl
   subst this;simp[-getElem?_pos,e20,e21,e22];exact hkp
structure SpV (s:Spc)(d:List Nd):Prop where
 vq:VQ s.p
 vp:qk s.p=0
 v20:s.p.vars.length<=20
 bits:yJ s.p.vars (qC s.p)<=18
 rk:∀ e∈s.R,zm s.p.vars e=0/\Jb e
 rl:s.R.length<=50000
 rt:qqh s.R s.rtok
 lv:s.lv=qV s.p
 dag:s.small=true->DagOk d/\(∃ tok,s.dv=.sl 3 (d.map qI) tok)/\s.root<d.length
 ws:∀ (i:Nat) (w:List Weight),(jN s.p.vars.length s.p.dists)[i]?=some (some w)->w≠[]/\w.length<=1000
noncomputable def WX (s:Spc)(d:List Nd)(fx:Nat->Option Nat)(a:List Int)(gi:Nat):Nat :=
 if s.small=true then V7 s.p s.lv d fx ((NG s.p).getD gi []) (Zi s d a ((NG s.p).take gi).flatten) else qck s.p fx ((NG s.p).getD gi []) (Wc s a ((NG s.p).take gi).flatten)
theorem qcl (s:Spc)(d:List Nd)(fx:Nat->Option Nat)(a:List Int)(gi:Nat):WX s d fx a gi<=lim:=by
 unfold WX;split
 . exact qhh _ _ _ _ _ _
 . exact qhf _ _ _ _
theorem qjT {p:Problem}(h:qk p=0){i:Nat}(hi:i∈(NG p).flatten):∃ (k:Nat),p.groups.flatten[k]?=some (i:Int):=by
 have:(i:Int)∈p.groups.flatten:=by rw[QZ h];exact qqS.2 ⟨i,hi,rfl⟩
 exact qq2 this
theorem SpV.gr {s:Spc}{d:List Nd}(h:SpV s d){l:List Nat}(hl:∀ i∈l,i∈(NG s.p).flatten):qn0 s l:=fun i hi=>by
 obtain⟨k,hk⟩:=qjT h.vp (hl i hi);obtain⟨n,v,hn,hv,hm⟩:=Ys ((j4 h.vp).2.1 _ (qqm hk));have hn:n=i:=by omega
 subst hn;have hw:=qR (zJ h.vp v (qqm hv));have hl:=YQ h.vp hk;have h1:=JN (Qc h.vp) (s.p.groups.flatten.take k);have h2:=KW (Qc h.vp) s.p.groups.flatten k;have h3:=Y4 h.vp;refine⟨v,(yM s.p.vars (s.p.groups.flatten.take k)).toNat,hv,by omega,by omega,?_,by omega,h.ws n⟩;rw[h.lv,hl];congr 1;omega
theorem qe2 {p:Problem}(h:qk p=0):(NG p).flatten.length<=p.vars.length:=by
 have:=ZT h;rw[QZ h,qqZ]at this;exact this
theorem qjU {p:Problem}(h:qk p=0)(hv:p.vars.length<=1000):(∀ g∈NG p,g.length<=1000)/\(NG p).length<=1000:=by
 have h1:=qe2 h;have h2:∀ g∈NG p,g≠[]:=fun g hg=>by
  obtain⟨g',hg',rfl⟩:=qqS.1 hg;have:=(j4 h).1 g' hg';simpa using this
 have key:∀ G:List (List Nat),(∀ g∈G,g≠[])->(∀ g∈G,g.length<=G.flatten.length)/\G.length<=G.flatten.length:=by
  intro G
  induction G with
  | nil=>intro _;simp
  | cons a r ih=>
   intro hG;obtain⟨i1,i2⟩:=ih fun g hg=>hG g (by simp[hg])
   have ha:=qqB.2 (hG a (by simp));refine⟨fun g hg=>?_,by rw[qq3,qqr,qqC];omega⟩;rcases qqM.1 hg with rfl|hg
   . simp
   . have:=i1 g hg;rw[qq3,qqr];omega
 obtain⟨k1,k2⟩:=key (NG p) h2;exact⟨fun g hg=>by have:=k1 g hg;omega,by omega⟩
def AOk (p:Problem)(a:List Int):Prop:=∀ i∈(NG p).flatten,∃ n:Nat,a[i]?=some (n:Int)/\n<65536
theorem Kp {p:Problem}(h:qk p=0){a:List Int}(ha:zb p.vars a=true):AOk p a:=fun i hi=>by
 obtain⟨k,hk⟩:=qjT h hi;obtain⟨n,v,hn,hv,hm⟩:=Ys ((j4 h).2.1 _ (qqm hk));have hn:n=i:=by omega
 subst hn;unfold zb at ha;simp only[qqq,decide_eq_true_eq]at ha;have hil:=(qql.1 hv).1;obtain⟨x,hx⟩:∃ x,a[n]?=some x:=⟨_,qqo (by omega)⟩;have hz:(v,x)∈p.vars.zip a:=qqm (i:=n) (qrq.2 ⟨hv,hx⟩);have h1:=qqy.1 ha.2 _ hz;unfold je at h1;simp only[qqq,decide_eq_true_eq]at h1;have hw:=qR (zJ h v (qqm hv));have h2:(2:Nat) ^ v.width.toNat<=2 ^ 8:=qqL (by omega) (by omega);have h3:((2 ^ v.width.toNat:Nat):Int)=(2:Int) ^ v.width.toNat:=by simp
 exact⟨x.toNat,by rw[hx];congr 1;omega,by omega⟩
theorem qm2 {s:Spc}{d:List Nd}(h:SpV s d){fx:Nat->Option Nat}(hfx:∀ i x,fx i=some x->x<65536){m:AV}{gi:Nat}(hgi:gi<(NG s.p).length){r:AV}{a:List Int}{H:List Blk}(hao:AOk s.p a)(hs:SpOk s H)(hf:qgE m fx H)(ha:AsR r a H)(T:List (Option Nat)) :
 qg Tryz.prog GG 94 [.ptr s.S 0,.int .i64 gi,r,m] ⟨H,T⟩ (fun v U'=>v=.int .i64 (WX s d fx a gi:Nat)/\KpL [] H U'.H):=by
 obtain⟨g,hg⟩:∃ g,(NG s.p)[gi]?=some g:=⟨_,qqo hgi⟩;have hgd:(NG s.p).getD gi []=g:=by simp[qqz,hg]
 have hl:=qjU h.vp h.vq.vars;have hfl:(NG s.p).flatten.length<=1000:=qro (qe2 h.vp) h.vq.vars;have hgr:qn0 s g:=h.gr fun i hi=>qrs.2 ⟨g,qqm hg,hi⟩
 have hsub:∀ i∈((NG s.p).take gi).flatten,i∈(NG s.p).flatten:=fun i hi=>by
  obtain⟨g',hg',hi'⟩:=qrs.1 hi;exact qrs.2 ⟨g',qrk hg',hi'⟩
 have hpre:SpG s a ((NG s.p).take gi).flatten:=⟨h.gr hsub,fun i hi=>hao i (hsub i hi)⟩;unfold WX;rw[hgd];by_cases hsm:s.small=true
 . obtain⟨hd,⟨tok,hdv⟩,hr⟩:=h.dag hsm;rw[if_pos hsm];exact qos h.vp hsm hd hdv hr hfx hg hl.1 hl.2 hgr hpre hs hf ha T
 . rw[if_neg hsm];exact qor h.vq h.vp h.v20 h.bits (by simpa using hsm) h.rk h.rl h.rt hfx hg hl.1 hl.2 hfl hgr hpre hs hf ha T
noncomputable def KV (s:Spc)(d:List Nd)(gi:Int)(a:List Int):Int×Int :=
 if gi<0\/((NG s.p).length:Int)<=gi\/zb s.p.vars a=false then (0,1)
 else if WX s d (fun _=>none) a gi.toNat=0 then (0,11) else if WX s d (fun _=>none) a gi.toNat=lim then (0,3) else (WX s d (fun _=>none) a gi.toNat,0)
theorem qon {s:Spc}{d:List Nd}(h:SpV s d)(gi:Int){r:AV}{a:List Int}{H:List Blk}(hs:SpOk s H)(ha:AsR r a H)(T:List (Option Nat)) :
 qg Tryz.prog GG 62 [.ptr s.S 0,.int .i64 gi,r] ⟨H,T⟩ (fun v U'=>v=.tup [.int .i64 (KV s d gi a).1,.int .i64 (KV s d gi a).2]/\KpL [] H U'.H):=by
 refine qg.k qe Tryz.func62 rfl (by kernel_rfl) ?_;have hS:=hs.c;have hG:=qe3 h.vp;have hw:∀ v∈s.p.vars,0<=v.width/\v.width<=8:=fun v hv=>by have:=qR (zJ h.vp v hv);omega
 have has:=qjA hs hw h.vq.vars ha T;simp only[spE,qL,qqP,qqJ,hG]at hS;obtain⟨res,hres⟩:∃ res,res=KV s d gi a:=⟨_,rfl⟩;rw[<- hres];unfold KV at hres;by_cases h0:gi<0
 . rw[if_pos (.inl h0)]at hres;subst hres;simp[-getElem?_pos,h0,hS,unA];exact KpL.refl
 by_cases h1:((NG s.p).length:Int)<=gi
 . rw[if_pos (.inr (.inl h1))]at hres;subst hres;simp[-getElem?_pos,h0,h1,hS,unA];exact KpL.refl
 simp[-getElem?_pos,h0,h1,hS,unA];refine qd.acall has ?_;rintro v ⟨H1,T1⟩ ⟨rfl,hk1⟩;dsimp only at hk1
 cases hA:zb s.p.vars a with
 | false=>
  rw[if_pos (.inr (.inr hA))]at hres;subst hres;simp[-getElem?_pos,unA];exact hk1
 | true=>
  rw[if_neg (by simp[h0,hA];omega)]at hres;obtain⟨g,rfl⟩:=qqR (by omega:0<=gi);have hsu:=qm2 h (fx:=fun _=>none) (by simp) (m:=.nilm) (gi:=g) (by omega) (Kp h.vp hA) (hs.keep hk1 (by simp) (by simp) (by simp)) (.inl ⟨rfl,fun _=>rfl⟩) (ha.keep hk1 (by simp)) T1;rw[qrg]at hres;have hle:=qcl s d (fun _=>none) a g;generalize WX s d (fun _=>none) a g=n at *;simp[-getElem?_pos,unA];refine qd.acall hsu ?_;rintro v ⟨H2,T2⟩ ⟨rfl,hk2⟩;dsimp only at hk2;have hkk:=hk1.trans hk2;by_cases hn0:n=0
  . rw[if_pos hn0]at hres;subst hres;simp[-getElem?_pos,hn0];exact hkk
  . rw[if_neg hn0]at hres;have hn0':¬ (n:Int)=0:=(by omega);by_cases hnl:n=lim
    . rw[if_pos hnl]at hres;subst hres;have hnl':(n:Int)=1099511627777:=(by rw[hnl];rfl);simp[-getElem?_pos,hn0,hn0',hnl'];exact hkk
    . rw[if_neg hnl]at hres;subst hres;have hnl':¬ (n:Int)=1099511627777:=(by unfold lim at hnl;omega);simp[-getElem?_pos,hn0,hn0',hnl'];exact hkk
theorem qkr (vs:List Var)(d:Dist)(h:d.weights=[]):KB vs d=jq 0:=by
 unfold KB;split
 . rename_i v _;have:qci v d.weights=[]:=by
    unfold qci;rw[h];have:(qd2 [])=fun _=>false:=by funext n;rfl
    rw[this];simp
   rw[this];rfl
 . rfl
theorem qoB (vs:List Var)(l:List Ex)(a:List Int)(h:jq 0∈l):QC vs l a=false:=by
 have h0:yh (kr vs a) (jq 0)=0:=by
  unfold yh;split
  . rw[yp];simp[jq,wM,Ex.op,Ex.n]
  . rfl
 unfold QC;rw[qtw];exact⟨_,h,by simp[h0]⟩
theorem qct {p:Problem}(h:VQ p)(hd:p.dists.length<=10000)(hs5:p.soft.length<=10000)(he:(qB p).2=0) :
 qk p=0/\(∀ e∈(qB p).1,zm p.vars e=0/\Jb e)/\(qB p).1.length<=50000/\∀ d∈p.dists,d.weights≠[]:=by
 obtain⟨hv,hsat,hR,_⟩:=Q9 (by rw[<- Qe];exact he);have hnk:=Zj h hv;have hsl:yq p=vH p:=by unfold yq;rw[if_pos hv]
 rw[hR];refine⟨hv,fun e hm=>?_,?_,fun d hdm hw=>?_⟩
 . have hmm:e∈zP p++p.soft:=by
    rcases qqE.1 hm with hm|hm
    . exact qqE.2 (.inl hm)
    . obtain⟨q,hq,rfl⟩:=qqS.1 hm;obtain⟨k,_,hk⟩:=qip hq;exact qqE.2 (.inr (qqm hk))
   have:=hnk e hmm;exact⟨by simpa[wO] using this.1,this.2⟩
 . have h1:=qet p;have h2:=h.hard;have h3:(vH p).length=p.dists.length:=(by simp[vH]);simp only[qqr,qqZ,zP,hsl];omega
 . have hin:jq 0∈zP p:=by
    unfold zP;rw[hsl];exact qqE.2 (.inr (qqS.2 ⟨d,hdm,qkr _ _ hw⟩))
   unfold jT at hsat;obtain⟨a,_,ha⟩:=qqN.1 hsat;rw[qoB _ _ _ hin]at ha;cases ha
def qoU:List (Nat×Sch×List Nat):=[(4,.step 1 [8,7,6] (.step 2 [8,7,6,5,3] (.step 3 [8,7,6,5] (.step 4 [8,7,6,5] (.fork (.cons 0 (.step 5 [8,7,6] (.step 6 [8,7] (.step 7 [8] (.step 8 [] (.done))))) (.cons 5 (.step 0 [8,7,6] (.step 6 [8,7] (.step 7 [8] (.step 8 [] (.done))))) (.nil))))))),[5])]
def OpQ (p:Problem)(H:List Blk)(r:AV)(U':St):Prop :=
 KpL [] H U'.H/\(((qB p).2≠0/\r=.tup [.nilp,.int .i64 (qB p).2]) \/
  ((qB p).2=0/\∃ s d,r=.tup [.ptr s.S 0,.int .i64 0]/\H.length<=s.S/\H.length<=s.L/\H.length<=s.LL/\s.p=p/\s.R=(qB p).1/\SpOk s U'.H/\SpV s d /\
    (s.small=true->∀ b,evD d b s.root=QC p.vars (qB p).1 (ZF p.vars (qV p) b))))
theorem open75 (p:Problem)(h:VQ p)(hv20:p.vars.length<=20)(hb:yJ p.vars (qC p)<=18)(hd:p.dists.length<=10000)(hs5:p.soft.length<=10000)(hws:∀ d∈p.dists,d.weights.length<=1000)(H:List Blk)(T:List (Option Nat)) :
 qg Tryz.prog GG 61 [.agg (qL p)] ⟨H,T⟩ (OpQ p H):=by
 refine qg.kO ⟨false,qoU,[],[]⟩ qe Tryz.func61 rfl (by kernel_rfl) ?_;by_cases he:(qB p).2=0
 case neg=>
  have hr:=Kt p h hv20 hb hd hs5;simp[-getElem?_pos];refine qd.call hr (by simp) ?_;have hq:∀ u T',OpQ p H (.tup [.nilp,.int .i64 (qB p).2]) ⟨H++u,T'⟩:=fun u T'=>⟨KpL.app,.inl ⟨he,rfl⟩⟩
  generalize (qB p).2=er at *;simp[-getElem?_pos,he];exact hq _ _
 case pos=>
  obtain⟨hv,hk,hl,hwn⟩:=qct h hd hs5 he;have hlv:=qbX p h hv;simp[-getElem?_pos];refine qd.acall (qmW p h hv20 hb hd hs5 he _ _) ?_;rintro r ⟨H1,T1⟩ ⟨tok,rfl,htok,hk1⟩;dsimp only at hk1;have bx:=hk1.2 _ _ lk0 (by simp);have hkH:KpL [] H H1:=KpL.app.trans hk1;have hlen1:=hk1.1;simp only[qqr,qqC,qq1]at hlen1;obtain⟨R,hR⟩:∃ R,R=(qB p).1:=⟨_,rfl⟩;rw[<- hR]at htok hk hl ⊢;simp[-getElem?_pos];rw[qH rfl];simp only[qL]at hlv;simp[-getElem?_pos,qP,bx];refine qd.call hlv (by simp) ?_;simp[-getElem?_pos,qP,bx];have hwg:=qj9 p h hv H1 T1;simp only[qL]at hwg;refine⟨qd.acall hwg ?_,qd.acall hwg ?_⟩
  all_goals
   rintro r ⟨H2,T2⟩ ⟨hk2,L,LL,rfl,hL1,hL2,hwf⟩;dsimp only at hk2 hwf;have bx2:=hk2.2 _ _ bx (by simp);have hkH2:=hkH.trans hk2;have hlen2:=hk2.1;have hLlt:L<H2.length:=(by obtain⟨c,hc,_⟩:=hwf;exact (qql.1 hc).1);obtain⟨LL',hLL',hLL1,hwf'⟩:∃ LL',LL' < H2.length/\H.length<=LL'/\WFn p L LL' H2:=by
    obtain⟨c,hc,hc2⟩:=hwf;by_cases hpv:p.vars=[]
    . exact⟨L,hLlt,by omega,c,hc,fun hn=>absurd hpv hn⟩
    . exact⟨LL,(qql.1 (hc2 hpv).2).1,by omega,c,hc,hc2⟩
   simp[-getElem?_pos,qP,bx2,qb bx2,qX,zu,qy];refine qd.acall ((All135 p h hv R (by omega) hk _ _).leq (by simp[qL])) ?_;rintro r ⟨H3,T3⟩ ⟨hk3,hr⟩;dsimp only at hk3;have bS:=hk3.2 _ _ lk0 (by simp);have hSl:=(qql.1 bS).1;have hkH3:KpL [] H H3:=hkH2.trans (KpL.app.trans hk3);have hwf3:WFn p L LL' H3:=by
    obtain⟨c,hL,hc⟩:=hwf';have hk':=KpL.app.trans hk3;exact⟨c,hk'.2 _ _ hL (by simp),fun hn=>⟨(hc hn).1,hk'.2 _ _ (hc hn).2 (by simp)⟩⟩
   have hws':∀ (i:Nat) (w:List Weight),(jN p.vars.length p.dists)[i]?=some (some w)->w≠[]/\w.length<=1000:=fun i w hi=>by
    obtain⟨d,hd,rfl⟩:=qfW (qqm hi);exact⟨hwn d hd,hws d hd⟩
   have fin:∀ (dv:AV) (root:Nat) (small:Bool) (d:List Nd) (T':List (Option Nat)),(small=true->DagOk d/\(∃ tok,dv=.sl 3 (d.map qI) tok)/\root<d.length)->(small=true->∀ b,evD d b root=QC p.vars R (ZF p.vars (qV p) b)) ->
    OpQ p H (.tup [.ptr H2.length 0,.int .i64 0]) ⟨H3.set H2.length (.cells (qL p++[.sl 4 (R.map qu) tok,.sl 1 ((qV p).map qo) .none,dv,.int .i64 root,.bool small,.fn 125 [] [.ptr L 0]])),T'⟩:=by
    intro dv root small d T' hdag hroot;refine⟨hkH3.setF (by have:=hkH2.1;omega),.inr ⟨he,⟨H2.length,L,LL',p,R,tok,qV p,dv,root,small⟩,d,rfl,hkH2.1,by dsimp only;omega,hLL1,rfl,hR,⟨?_,?_,?_⟩,⟨h,hv,hv20,hb,hk,hl,htok,rfl,hdag,hws'⟩,by rw[<- hR];exact hroot⟩⟩
    . exact qqp hSl
    . obtain⟨c,hL,hc⟩:=hwf3;exact⟨c,by dsimp only;rw[qqn (by omega)];exact hL,fun hn=>⟨(hc hn).1,by dsimp only;rw[qqn (by omega)];exact (hc hn).2⟩⟩
    . dsimp only;rw[qsd];omega
   rcases hr with rfl|⟨d,t,tk,rfl,hdk,ht,hev⟩
   . simp[-getElem?_pos,bS,hSl];exact fin (.sl 0 [] .nil) 0 false [] T3 (by simp) (by simp)
   . simp[-getElem?_pos,bS,hSl];exact fin (.sl 3 (d.map qI) tk) t true d T3 (fun _=>⟨hdk,⟨tk,rfl⟩,ht⟩) (fun _=>hev)
end Go.Proofs.YtoibbcnfhhggnaaGreatDoor
end
