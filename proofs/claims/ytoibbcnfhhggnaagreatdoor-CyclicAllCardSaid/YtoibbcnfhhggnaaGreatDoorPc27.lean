/- A part of the proof. -/
import Derived.Test.YtoibbcnfhhggnaaGreatDoorPc26
set_option maxHeartbeats 16000000
set_option linter.unusedVariables false
set_option linter.unusedSimpArgs false
set_option maxRecDepth 100000
set_option linter.defProp false
section
namespace Go.Proofs.YtoibbcnfhhggnaaGreatDoor
open Go Go.Abs
theorem qjA {s:Spc}{H:List Blk}(hs:SpOk s H)(hw:∀ v∈s.p.vars,0<=v.width/\v.width<=8)(hvl:s.p.vars.length<=1000){r:AV}{a:List Int}(ha:AsR r a H)(T:List (Option Nat)) :
 qg Tryz.prog GG 93 [.ptr s.S 0,r] ⟨H,T⟩ (fun v U'=>v=.bool (zD s.p.vars a)/\KpL [] H U'.H):=by
 refine qg.k qe Tryz.func93 rfl (by kernel_rfl) ?_;have hS:=hs.c;have hlen:=ha.len;simp only[spE,qJ,qqB,qqw]at hS;obtain⟨res,hres⟩:∃ res,res=zD s.p.vars a:=⟨_,rfl⟩;rw[<- hres];unfold zD at hres;by_cases hl:a.length=s.p.vars.length
 case neg=>
  have hl':¬ (a.length:Int)=s.p.vars.length:=by omega
  have:res=false:=by rw[hres];simp[hl]
  subst this;simp[-getElem?_pos,-KL,hlen,hS,show KL (Dof Tryz.prog) ⟨H,T⟩ 22 (.sl 4 (s.p.vars.map qo) .none)=some (.int .i64 (s.p.vars.length:Nat)) by simp,hl'];exact KpL.refl
 have hl':(a.length:Int)=s.p.vars.length:=by omega
 have hres:res=(s.p.vars.zip a).all w9:=by rw[hres];simp[hl]
 simp[-getElem?_pos,-KL,hlen,hS,show ∀ U,KL (Dof Tryz.prog) U 22 (.sl 4 (s.p.vars.map qo) .none)=some (.int .i64 (s.p.vars.length:Nat)) from fun U=>by simp,hl'];refine qL.listR s.p.vars (fun d ev U=>ev 1=r/\ev 20=.sl 4 (s.p.vars.map qo) .none/\ev 21=.int .i64 s.p.vars.length/\ev 22=.int .i64 d.length/\KpL [] H U.H/\res=((s.p.vars.drop d.length).zip (a.drop d.length)).all w9) ?_ ?_ ?_
 . exact⟨by simp,by simp,by simp,by simp,KpL.refl,by simpa using hres⟩
 . rintro d v rest ev ⟨H1,T1⟩ R hR hd hx hlt ⟨e1,e20,e21,e22,hkp,hr⟩;dsimp only at hkp;have hdw:=wr (n:=(d.length:Int)+1) (by omega) (by omega);have hlt':(d.length:Int)<s.p.vars.length:=(by omega);have hda:d.length<a.length:=(by omega);obtain⟨x,hax⟩:∃ x,a[d.length]?=some x:=⟨_,qp8 hda⟩;have hvd:s.p.vars.drop d.length=v::s.p.vars.drop (d.length+1):=by
    obtain⟨h1,h2⟩:=qp5.1 hx;rw[qqt h1,h2]
   have had:a.drop d.length=x::a.drop (d.length+1):=by
    obtain⟨h1,h2⟩:=qp5.1 hax;rw[qqt h1,h2]
   rw[hvd,had,qsO,qrL]at hr;have hwv:=hw v (qp6 hx);have hs1:=kg hwv.1 (by omega);have hwn:¬ v.width<0:=(by omega);have ha1:=ha.keep hkp (by simp);have hszz:((2 ^ v.width.toNat:Nat):Int)=(2:Int) ^ v.width.toNat:=(by simp);have hgo:∀ ev' U',ev' 1=r->ev' 20=.sl 4 (s.p.vars.map qo) .none->ev' 21=.int .i64 s.p.vars.length->ev' 22=.int .i64 (d.length+1:Nat)->KpL [] H U'.H->w9 (v,x)=true->R ev' U':=fun ev' U' b1 b2 b3 b4 b5 b6=>hR _ _ ⟨b1,b2,b3,by rw[b4,qqb,qqA],b5,by rw[hr,b6,qrm,qqb,qqA]⟩
   have hbad:w9 (v,x)=false->res=false:=fun h=>by rw[hr,h];rfl
   unfold w9 at hgo hbad;simp only at hgo hbad;rw[<- hszz]at hgo hbad;generalize 2 ^ v.width.toNat=N at *;have hnext:∀ u,KpL [] H (H1++u):=fun u=>hkp.trans KpL.app
   rcases ha1 with ⟨tok,rfl⟩|⟨A,rfl,hA⟩
   case' inr=>
    have hto:(zF a)[d.length]?=some (.int .i64 x):=(by rw[Kv,hax];rfl);have hdr:(zF a).drop d.length=.int .i64 x::(zF a).drop (d.length+1):=by
     obtain⟨h1,h2⟩:=qp5.1 hto;rw[qqt h1,h2]
    have hla:d.length+1<=a.length:=hda;have hdi:(d.length:Int)<a.length:=by omega
   all_goals
    by_cases hm:v.mode=0
    . by_cases hxv:x=v.value
      . subst hxv;by_cases hx0:v.value<0
        . have hb:=hbad (by simp;omega);subst hb
          first | simp[-getElem?_pos,e1,e20,e21,e22,hlt,hlt',hx,hax,hwn,IntKind.bits,hs1,hdw,unA,hA,qa hA,hdr,qY,hla,hdi,hm,hx0] | simp[-getElem?_pos,e1,e20,e21,e22,hlt,hlt',hx,hax,hwn,IntKind.bits,hs1,hdw,unA,hm,hx0]
          exact hnext _
        . by_cases hxN:(N:Int)<=v.value
          . have hb:=hbad (by simp;omega);subst hb
            first | simp[-getElem?_pos,e1,e20,e21,e22,hlt,hlt',hx,hax,hwn,IntKind.bits,hs1,hdw,unA,hA,qa hA,hdr,qY,hla,hdi,hm,hx0,hxN] | simp[-getElem?_pos,e1,e20,e21,e22,hlt,hlt',hx,hax,hwn,IntKind.bits,hs1,hdw,unA,hm,hx0,hxN]
            exact hnext _
          . have hg:=hgo
            first | simp[-getElem?_pos,e1,e20,e21,e22,hlt,hlt',hx,hax,hwn,IntKind.bits,hs1,hdw,unA,hA,qa hA,hdr,qY,hla,hdi,hm,hx0,hxN] | simp[-getElem?_pos,e1,e20,e21,e22,hlt,hlt',hx,hax,hwn,IntKind.bits,hs1,hdw,unA,hm,hx0,hxN]
            exact hgo _ _ (by simp[e1]) (by simp[e20]) (by simp[e21]) (by simp) (hnext _) (by simp[hm,hx0,hxN];omega)
      . have hb:=hbad (by simp[hm,hxv]);subst hb
        first | simp[-getElem?_pos,e1,e20,e21,e22,hlt,hlt',hx,hax,hwn,IntKind.bits,hs1,hdw,unA,hA,qa hA,hdr,qY,hla,hdi,hm,hxv] | simp[-getElem?_pos,e1,e20,e21,e22,hlt,hlt',hx,hax,hwn,IntKind.bits,hs1,hdw,unA,hm,hxv]
        exact hnext _
    . by_cases hx0:x<0
      . have hb:=hbad (by simp;omega);subst hb
        first | simp[-getElem?_pos,e1,e20,e21,e22,hlt,hlt',hx,hax,hwn,IntKind.bits,hs1,hdw,unA,hA,qa hA,hdr,qY,hla,hdi,hm,hx0] | simp[-getElem?_pos,e1,e20,e21,e22,hlt,hlt',hx,hax,hwn,IntKind.bits,hs1,hdw,unA,hm,hx0]
        exact hnext _
      . by_cases hxN:(N:Int)<=x
        . have hb:=hbad (by simp;omega);subst hb
          first | simp[-getElem?_pos,e1,e20,e21,e22,hlt,hlt',hx,hax,hwn,IntKind.bits,hs1,hdw,unA,hA,qa hA,hdr,qY,hla,hdi,hm,hx0,hxN] | simp[-getElem?_pos,e1,e20,e21,e22,hlt,hlt',hx,hax,hwn,IntKind.bits,hs1,hdw,unA,hm,hx0,hxN]
          exact hnext _
        . have hg:=hgo
          first | simp[-getElem?_pos,e1,e20,e21,e22,hlt,hlt',hx,hax,hwn,IntKind.bits,hs1,hdw,unA,hA,qa hA,hdr,qY,hla,hdi,hm,hx0,hxN] | simp[-getElem?_pos,e1,e20,e21,e22,hlt,hlt',hx,hax,hwn,IntKind.bits,hs1,hdw,unA,hm,hx0,hxN]
          exact hgo _ _ (by simp[e1]) (by simp[e20]) (by simp[e21]) (by simp) (hnext _) (by simp[hm,hx0,hxN];omega)
 . rintro ev ⟨H1,T1⟩ ⟨e1,e20,e21,e22,hkp,hr⟩;have:res=true:=by rw[hr,qsn];rfl
   subst this;simp[-getElem?_pos,e20,e21,e22];exact hkp
structure SpV (s:Spc)(d:List Nd):Prop where
 vq:VQ s.p
 vp:qi s.p=0
 v20:s.p.vars.length<=20
 bits:yB s.p.vars (qz s.p)<=18
 rk:∀ e∈s.R,zg s.p.vars e=0/\Jg e
 rl:s.R.length<=50000
 rt:qp1 s.R s.rtok
 lv:s.lv=qT s.p
 dag:s.small=true->DagOk d/\(∃ tok,s.dv=.sl 3 (d.map qH) tok)/\s.root<d.length
 ws:∀ (i:Nat) (w:List Weight),(jg s.p.vars.length s.p.dists)[i]?=some (some w)->w≠[]/\w.length<=1000
noncomputable def Vc (s:Spc)(d:List Nd)(fx:Nat->Option Nat)(a:List Int)(gi:Nat):Nat :=
 if s.small=true then qac s.p s.lv d fx ((NG s.p).getD gi []) (Zl s d a ((NG s.p).take gi).flatten) else qck s.p fx ((NG s.p).getD gi []) (Wn s a ((NG s.p).take gi).flatten)
theorem qcl (s:Spc)(d:List Nd)(fx:Nat->Option Nat)(a:List Int)(gi:Nat):Vc s d fx a gi<=lim:=by
 unfold Vc;split
 . exact qhj _ _ _ _ _ _
 . exact qhg _ _ _ _
theorem qjQ {p:Problem}(h:qi p=0){i:Nat}(hi:i∈(NG p).flatten):∃ (k:Nat),p.groups.flatten[k]?=some (i:Int):=by
 have:(i:Int)∈p.groups.flatten:=by rw[QZ h];exact qqx.2 ⟨i,hi,rfl⟩
 exact qqJ this
theorem SpV.gr {s:Spc}{d:List Nd}(h:SpV s d){l:List Nat}(hl:∀ i∈l,i∈(NG s.p).flatten):qnN s l:=fun i hi=>by
 obtain⟨k,hk⟩:=qjQ h.vp (hl i hi);obtain⟨n,v,hn,hv,hm⟩:=YE ((j8 h.vp).2.1 _ (qp6 hk));have hn:n=i:=by omega
 subst hn;have hw:=qU (zE h.vp v (qp6 hv));have hl:=Y3 h.vp hk;have h1:=JS (Qc h.vp) (s.p.groups.flatten.take k);have h2:=Wd (Qc h.vp) s.p.groups.flatten k;have h3:=Kj h.vp;refine⟨v,(yN s.p.vars (s.p.groups.flatten.take k)).toNat,hv,by omega,by omega,?_,by omega,h.ws n⟩;rw[h.lv,hl];congr 1;omega
theorem qe0 {p:Problem}(h:qi p=0):(NG p).flatten.length<=p.vars.length:=by
 have:=WI h;rw[QZ h,qqI]at this;exact this
theorem qjR {p:Problem}(h:qi p=0)(hv:p.vars.length<=1000):(∀ g∈NG p,g.length<=1000)/\(NG p).length<=1000:=by
 have h1:=qe0 h;have h2:∀ g∈NG p,g≠[]:=fun g hg=>by
  obtain⟨g',hg',rfl⟩:=qqx.1 hg;have:=(j8 h).1 g' hg';simpa using this
 have key:∀ G:List (List Nat),(∀ g∈G,g≠[])->(∀ g∈G,g.length<=G.flatten.length)/\G.length<=G.flatten.length:=by
  intro G
  induction G with
  | nil=>intro _;simp
  | cons a r ih=>
   intro hG;obtain⟨i1,i2⟩:=ih fun g hg=>hG g (by simp[hg])
   have ha:=qql.2 (hG a (by simp));refine⟨fun g hg=>?_,by rw[qqO,qqb,qqm];omega⟩;rcases qqv.1 hg with rfl|hg
   . simp
   . have:=i1 g hg;rw[qqO,qqb];omega
 obtain⟨k1,k2⟩:=key (NG p) h2;exact⟨fun g hg=>by have:=k1 g hg;omega,by omega⟩
def AOk (p:Problem)(a:List Int):Prop:=∀ i∈(NG p).flatten,∃ n:Nat,a[i]?=some (n:Int)/\n<65536
theorem KE {p:Problem}(h:qi p=0){a:List Int}(ha:zD p.vars a=true):AOk p a:=fun i hi=>by
 obtain⟨k,hk⟩:=qjQ h hi;obtain⟨n,v,hn,hv,hm⟩:=YE ((j8 h).2.1 _ (qp6 hk));have hn:n=i:=by omega
 subst hn;unfold zD at ha;simp only[qp9,decide_eq_true_eq]at ha;have hil:=(qp5.1 hv).1;obtain⟨x,hx⟩:∃ x,a[n]?=some x:=⟨_,qp8 (by omega)⟩;have hz:(v,x)∈p.vars.zip a:=qp6 (i:=n) (qrc.2 ⟨hv,hx⟩);have h1:=qqi.1 ha.2 _ hz;unfold w9 at h1;simp only[qp9,decide_eq_true_eq]at h1;have hw:=qU (zE h v (qp6 hv));have h2:(2:Nat) ^ v.width.toNat<=2 ^ 8:=qqu (by omega) (by omega);have h3:((2 ^ v.width.toNat:Nat):Int)=(2:Int) ^ v.width.toNat:=by simp
 exact⟨x.toNat,by rw[hx];congr 1;omega,by omega⟩
theorem qmU {s:Spc}{d:List Nd}(h:SpV s d){fx:Nat->Option Nat}(hfx:∀ i x,fx i=some x->x<65536){m:AV}{gi:Nat}(hgi:gi<(NG s.p).length){r:AV}{a:List Int}{H:List Blk}(hao:AOk s.p a)(hs:SpOk s H)(hf:qgE m fx H)(ha:AsR r a H)(T:List (Option Nat)) :
 qg Tryz.prog GG 94 [.ptr s.S 0,.int .i64 gi,r,m] ⟨H,T⟩ (fun v U'=>v=.int .i64 (Vc s d fx a gi:Nat)/\KpL [] H U'.H):=by
 obtain⟨g,hg⟩:∃ g,(NG s.p)[gi]?=some g:=⟨_,qp8 hgi⟩;have hgd:(NG s.p).getD gi []=g:=by simp[qqh,hg]
 have hl:=qjR h.vp h.vq.vars;have hfl:(NG s.p).flatten.length<=1000:=qq9 (qe0 h.vp) h.vq.vars;have hgr:qnN s g:=h.gr fun i hi=>qre.2 ⟨g,qp6 hg,hi⟩
 have hsub:∀ i∈((NG s.p).take gi).flatten,i∈(NG s.p).flatten:=fun i hi=>by
  obtain⟨g',hg',hi'⟩:=qre.1 hi;exact qre.2 ⟨g',qq0 hg',hi'⟩
 have hpre:SpG s a ((NG s.p).take gi).flatten:=⟨h.gr hsub,fun i hi=>hao i (hsub i hi)⟩;unfold Vc;rw[hgd];by_cases hsm:s.small=true
 . obtain⟨hd,⟨tok,hdv⟩,hr⟩:=h.dag hsm;rw[if_pos hsm];exact qoe h.vp hsm hd hdv hr hfx hg hl.1 hl.2 hgr hpre hs hf ha T
 . rw[if_neg hsm];exact qod h.vq h.vp h.v20 h.bits (by simpa using hsm) h.rk h.rl h.rt hfx hg hl.1 hl.2 hfl hgr hpre hs hf ha T
noncomputable def Wc (s:Spc)(d:List Nd)(gi:Int)(a:List Int):Int×Int :=
 if gi<0\/((NG s.p).length:Int)<=gi\/zD s.p.vars a=false then (0,1)
 else if Vc s d (fun _=>none) a gi.toNat=0 then (0,11) else if Vc s d (fun _=>none) a gi.toNat=lim then (0,3) else (Vc s d (fun _=>none) a gi.toNat,0)
theorem qob {s:Spc}{d:List Nd}(h:SpV s d)(gi:Int){r:AV}{a:List Int}{H:List Blk}(hs:SpOk s H)(ha:AsR r a H)(T:List (Option Nat)) :
 qg Tryz.prog GG 62 [.ptr s.S 0,.int .i64 gi,r] ⟨H,T⟩ (fun v U'=>v=.tup [.int .i64 (Wc s d gi a).1,.int .i64 (Wc s d gi a).2]/\KpL [] H U'.H):=by
 refine qg.k qe Tryz.func62 rfl (by kernel_rfl) ?_;have hS:=hs.c;have hG:=qe1 h.vp;have hw:∀ v∈s.p.vars,0<=v.width/\v.width<=8:=fun v hv=>by have:=qU (zE h.vp v hv);omega
 have has:=qjA hs hw h.vq.vars ha T;simp only[spE,qJ,qqB,qqw,hG]at hS;obtain⟨res,hres⟩:∃ res,res=Wc s d gi a:=⟨_,rfl⟩;rw[<- hres];unfold Wc at hres;by_cases h0:gi<0
 . rw[if_pos (.inl h0)]at hres;subst hres;simp[-getElem?_pos,h0,hS,unA];exact KpL.refl
 by_cases h1:((NG s.p).length:Int)<=gi
 . rw[if_pos (.inr (.inl h1))]at hres;subst hres;simp[-getElem?_pos,h0,h1,hS,unA];exact KpL.refl
 simp[-getElem?_pos,h0,h1,hS,unA];refine qc.acall has ?_;rintro v ⟨H1,T1⟩ ⟨rfl,hk1⟩;dsimp only at hk1
 cases hA:zD s.p.vars a with
 | false=>
  rw[if_pos (.inr (.inr hA))]at hres;subst hres;simp[-getElem?_pos,unA];exact hk1
 | true=>
  rw[if_neg (by simp[h0,hA];omega)]at hres;obtain⟨g,rfl⟩:=qqM (by omega:0<=gi);have hsu:=qmU h (fx:=fun _=>none) (by simp) (m:=.nilm) (gi:=g) (by omega) (KE h.vp hA) (hs.keep hk1 (by simp) (by simp) (by simp)) (.inl ⟨rfl,fun _=>rfl⟩) (ha.keep hk1 (by simp)) T1;rw[qq7]at hres;have hle:=qcl s d (fun _=>none) a g;generalize Vc s d (fun _=>none) a g=n at *;simp[-getElem?_pos,unA];refine qc.acall hsu ?_;rintro v ⟨H2,T2⟩ ⟨rfl,hk2⟩;dsimp only at hk2;have hkk:=hk1.trans hk2;by_cases hn0:n=0
  . rw[if_pos hn0]at hres;subst hres;simp[-getElem?_pos,hn0];exact hkk
  . rw[if_neg hn0]at hres;have hn0':¬ (n:Int)=0:=(by omega);by_cases hnl:n=lim
    . rw[if_pos hnl]at hres;subst hres;have hnl':(n:Int)=1099511627777:=(by rw[hnl];rfl);simp[-getElem?_pos,hn0,hn0',hnl'];exact hkk
    . rw[if_neg hnl]at hres;subst hres;have hnl':¬ (n:Int)=1099511627777:=(by unfold lim at hnl;omega);simp[-getElem?_pos,hn0,hn0',hnl'];exact hkk
theorem qko (vs:List Var)(d:Dist)(h:d.weights=[]):Jp vs d=jr 0:=by
 unfold Jp;split
 . rename_i v _;have:qax v d.weights=[]:=by
    unfold qax;rw[h];have:(qae [])=fun _=>false:=by funext n;rfl
    rw[this];simp
   rw[this];rfl
 . rfl
theorem qom (vs:List Var)(l:List Ex)(a:List Int)(h:jr 0∈l):Qe vs l a=false:=by
 have h0:yr (kE vs a) (jr 0)=0:=by
  unfold yr;split
  . rw[yk];simp[jr,Qw,Ex.op,Ex.n]
  . rfl
 unfold Qe;rw[qtf];exact⟨_,h,by simp[h0]⟩
theorem qcs {p:Problem}(h:VQ p)(hd:p.dists.length<=10000)(hs5:p.soft.length<=10000)(he:(qp p).2=0) :
 qi p=0/\(∀ e∈(qp p).1,zg p.vars e=0/\Jg e)/\(qp p).1.length<=50000/\∀ d∈p.dists,d.weights≠[]:=by
 obtain⟨hv,hsat,hR,_⟩:=Zc (by rw[<- Qg];exact he);have hnk:=Zm h hv;have hsl:jW p=wm p:=by unfold jW;rw[if_pos hv]
 rw[hR];refine⟨hv,fun e hm=>?_,?_,fun d hdm hw=>?_⟩
 . have hmm:e∈zA p++p.soft:=by
    rcases qqo.1 hm with hm|hm
    . exact qqo.2 (.inl hm)
    . obtain⟨q,hq,rfl⟩:=qqx.1 hm;obtain⟨k,_,hk⟩:=qip hq;exact qqo.2 (.inr (qp6 hk))
   have:=hnk e hmm;exact⟨by simpa[wS] using this.1,this.2⟩
 . have h1:=qeo p;have h2:=h.hard;have h3:(wm p).length=p.dists.length:=(by simp[wm]);simp only[qqb,qqI,zA,hsl];omega
 . have hin:jr 0∈zA p:=by
    unfold zA;rw[hsl];exact qqo.2 (.inr (qqx.2 ⟨d,hdm,qko _ _ hw⟩))
   unfold jJ at hsat;obtain⟨a,_,ha⟩:=qqr.1 hsat;rw[qom _ _ _ hin]at ha;cases ha
def qox:List (Nat×Sch×List Nat):=[(4,.step 1 [8,7,6] (.step 2 [8,7,6,5,3] (.step 3 [8,7,6,5] (.step 4 [8,7,6,5] (.fork (.cons 0 (.step 5 [8,7,6] (.step 6 [8,7] (.step 7 [8] (.step 8 [] (.done))))) (.cons 5 (.step 0 [8,7,6] (.step 6 [8,7] (.step 7 [8] (.step 8 [] (.done))))) (.nil))))))),[5])]
def OpQ (p:Problem)(H:List Blk)(r:AV)(U':St):Prop :=
 KpL [] H U'.H/\(((qp p).2≠0/\r=.tup [.nilp,.int .i64 (qp p).2]) \/
  ((qp p).2=0/\∃ s d,r=.tup [.ptr s.S 0,.int .i64 0]/\H.length<=s.S/\H.length<=s.L/\H.length<=s.LL/\s.p=p/\s.R=(qp p).1/\SpOk s U'.H/\SpV s d /\
    (s.small=true->∀ b,evD d b s.root=Qe p.vars (qp p).1 (ZJ p.vars (qT p) b))))
theorem open75 (p:Problem)(h:VQ p)(hv20:p.vars.length<=20)(hb:yB p.vars (qz p)<=18)(hd:p.dists.length<=10000)(hs5:p.soft.length<=10000)(hws:∀ d∈p.dists,d.weights.length<=1000)(H:List Blk)(T:List (Option Nat)) :
 qg Tryz.prog GG 61 [.agg (qJ p)] ⟨H,T⟩ (OpQ p H):=by
 refine qg.kO ⟨false,qox,[],[]⟩ qe Tryz.func61 rfl (by kernel_rfl) ?_;by_cases he:(qp p).2=0
 case neg=>
  have hr:=KJ p h hv20 hb hd hs5;simp[-getElem?_pos];refine qc.call hr (by simp) ?_;have hq:∀ u T',OpQ p H (.tup [.nilp,.int .i64 (qp p).2]) ⟨H++u,T'⟩:=fun u T'=>⟨KpL.app,.inl ⟨he,rfl⟩⟩
  generalize (qp p).2=er at *;simp[-getElem?_pos,he];exact hq _ _
 case pos=>
  obtain⟨hv,hk,hl,hwn⟩:=qcs h hd hs5 he;have hlv:=qb1 p h hv;simp[-getElem?_pos];refine qc.acall (qmN p h hv20 hb hd hs5 he _ _) ?_;rintro r ⟨H1,T1⟩ ⟨tok,rfl,htok,hk1⟩;dsimp only at hk1;have bx:=hk1.2 _ _ lk0 (by simp);have hkH:KpL [] H H1:=KpL.app.trans hk1;have hlen1:=hk1.1;simp only[qqb,qqm,qqK]at hlen1;obtain⟨R,hR⟩:∃ R,R=(qp p).1:=⟨_,rfl⟩;rw[<- hR]at htok hk hl ⊢;simp[-getElem?_pos];rw[qG rfl];simp only[qJ]at hlv;simp[-getElem?_pos,qM,bx];refine qc.call hlv (by simp) ?_;simp[-getElem?_pos,qM,bx];have hwg:=qj6 p h hv H1 T1;simp only[qJ]at hwg;refine⟨qc.acall hwg ?_,qc.acall hwg ?_⟩
  all_goals
   rintro r ⟨H2,T2⟩ ⟨hk2,L,LL,rfl,hL1,hL2,hwf⟩;dsimp only at hk2 hwf;have bx2:=hk2.2 _ _ bx (by simp);have hkH2:=hkH.trans hk2;have hlen2:=hk2.1;have hLlt:L<H2.length:=(by obtain⟨c,hc,_⟩:=hwf;exact (qp5.1 hc).1);obtain⟨LL',hLL',hLL1,hwf'⟩:∃ LL',LL' < H2.length/\H.length<=LL'/\WFn p L LL' H2:=by
    obtain⟨c,hc,hc2⟩:=hwf;by_cases hpv:p.vars=[]
    . exact⟨L,hLlt,by omega,c,hc,fun hn=>absurd hpv hn⟩
    . exact⟨LL,(qp5.1 (hc2 hpv).2).1,by omega,c,hc,hc2⟩
   simp[-getElem?_pos,qM,bx2,qa bx2,qV,zu,qv];refine qc.acall ((All135 p h hv R (by omega) hk _ _).leq (by simp[qJ])) ?_;rintro r ⟨H3,T3⟩ ⟨hk3,hr⟩;dsimp only at hk3;have bS:=hk3.2 _ _ lk0 (by simp);have hSl:=(qp5.1 bS).1;have hkH3:KpL [] H H3:=hkH2.trans (KpL.app.trans hk3);have hwf3:WFn p L LL' H3:=by
    obtain⟨c,hL,hc⟩:=hwf';have hk':=KpL.app.trans hk3;exact⟨c,hk'.2 _ _ hL (by simp),fun hn=>⟨(hc hn).1,hk'.2 _ _ (hc hn).2 (by simp)⟩⟩
   have hws':∀ (i:Nat) (w:List Weight),(jg p.vars.length p.dists)[i]?=some (some w)->w≠[]/\w.length<=1000:=fun i w hi=>by
    obtain⟨d,hd,rfl⟩:=qfW (qp6 hi);exact⟨hwn d hd,hws d hd⟩
   have fin:∀ (dv:AV) (root:Nat) (small:Bool) (d:List Nd) (T':List (Option Nat)),(small=true->DagOk d/\(∃ tok,dv=.sl 3 (d.map qH) tok)/\root<d.length)->(small=true->∀ b,evD d b root=Qe p.vars R (ZJ p.vars (qT p) b)) ->
    OpQ p H (.tup [.ptr H2.length 0,.int .i64 0]) ⟨H3.set H2.length (.cells (qJ p++[.sl 4 (R.map qs) tok,.sl 1 ((qT p).map qy) .none,dv,.int .i64 root,.bool small,.fn 125 [] [.ptr L 0]])),T'⟩:=by
    intro dv root small d T' hdag hroot;refine⟨hkH3.setF (by have:=hkH2.1;omega),.inr ⟨he,⟨H2.length,L,LL',p,R,tok,qT p,dv,root,small⟩,d,rfl,hkH2.1,by dsimp only;omega,hLL1,rfl,hR,⟨?_,?_,?_⟩,⟨h,hv,hv20,hb,hk,hl,htok,rfl,hdag,hws'⟩,by rw[<- hR];exact hroot⟩⟩
    . exact qqa hSl
    . obtain⟨c,hL,hc⟩:=hwf3;exact⟨c,by dsimp only;rw[qp7 (by omega)];exact hL,fun hn=>⟨(hc hn).1,by dsimp only;rw[qp7 (by omega)];exact (hc hn).2⟩⟩
    . dsimp only;rw[qrC];omega
   rcases hr with rfl|⟨d,t,tk,rfl,hdk,ht,hev⟩
   . simp[-getElem?_pos,bS,hSl];exact fin (.sl 0 [] .nil) 0 false [] T3 (by simp) (by simp)
   . simp[-getElem?_pos,bS,hSl];exact fin (.sl 3 (d.map qH) tk) t true d T3 (fun _=>⟨hdk,⟨tk,rfl⟩,ht⟩) (fun _=>hev)
end Go.Proofs.YtoibbcnfhhggnaaGreatDoor
end
