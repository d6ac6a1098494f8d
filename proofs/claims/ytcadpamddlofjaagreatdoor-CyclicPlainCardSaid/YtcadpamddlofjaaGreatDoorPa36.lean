/- A part of the proof. -/
import Derived.Test.YtcadpamddlofjaaGreatDoorPa35
set_option maxHeartbeats 16000000
set_option linter.unusedVariables false
set_option linter.unusedSimpArgs false
set_option maxRecDepth 100000
set_option linter.defProp false
section
namespace Go.Proofs.YtcadpamddlofjaaGreatDoor
open Go Go.Abs
theorem qnf {s:Spc}(hvq:VQ s.p)(hvp:qr s.p=0)(hv20:s.p.vars.length<=20)(hb:yp s.p.vars (qy s.p)<=18)(hsm:s.small=false)(hRk:∀ e∈s.R,zr s.p.vars e=0/\JC e)(hRl:s.R.length<=50000)(hrt:qoT s.R s.rtok){fx:Nat->Option Nat}(hfx:∀ i x,fx i=some x->x<65536){m:AV}{gi:Nat}{g:List Nat}(hgi:(NG s.p)[gi]?=some g)(hgl:∀ g∈NG s.p,g.length<=1000)(hGl:(NG s.p).length<=1000)(hfl:(NG s.p).flatten.length<=1000)
 {r:AV} {a:List Int} {H:List Blk} (hg:qmP s g) (hpre:SpG s a ((NG s.p).take gi).flatten) (hs:SpOk s H) (hf:qfE m fx H) (ha:AsR r a H) (T:List (Option Nat)) :
 qg Tryz.prog GG 59 [.ptr s.S 0,.int .i64 gi,r,m] ⟨H,T⟩ (fun v U'=>v=.int .i64 (qbH s.p fx g (KH s a ((NG s.p).take gi).flatten):Nat)/\KpL [] H U'.H):=by
 refine qg.kO ⟨false,qdf,[],[]⟩ qe Tryz.func59 rfl (by kernel_rfl) ?_;have hS:=hs.c;have hgil:=(qoX.1 hgi).1;have hgil':(gi:Int)<(NG s.p).length:=by omega
 have hG:=qeb hvp;simp only[spE,qL,qpp,qpl,hsm,hG]at hS;have hsl:=qlT (G:=NG s.p) (gi:=gi) (by omega);have htl:((NG s.p).take gi).length<=1000:=by rw[qpA];omega
 have htm:∀ g∈(NG s.p).take gi,g.length<=1000:=fun g hg=>hgl g (qpZ hg)
 have hfl2:((NG s.p).take gi).flatten.length<=1000:=by
  have:(NG s.p).flatten=((NG s.p).take gi).flatten++((NG s.p).drop gi).flatten:=by rw[<- qqy,qpY]
  rw[this,qo3]at hfl;omega
 obtain⟨PG,hPG⟩:∃ PG,PG=(NG s.p).take gi:=⟨_,rfl⟩;rw[<- hPG]at hsl htl htm hpre hfl2 ⊢;simp[-getElem?_pos,hS,hgil,hgil',hgi,yb,hsl];have hgg:=hgl g (qoZ hgi);have hrl:∀ l,(KH s a l).length=s.R.length+l.length:=fun l=>by simp[KH]
 refine qJ.listR PG (fun dn ev U=>ev 0=.ptr s.S 0/\ev 2=r/\ev 3=m/\ev 9=.sl 1 (g.map zJ) .none/\(∃ tok,ev 15=.sl 4 ((KH s a dn.flatten).map qt) tok/\qoT (KH s a dn.flatten) tok)/\ev 81=.sl 1 (PG.map yb) .none/\ev 82=.int .i64 PG.length/\ev 83=.int .i64 dn.length/\KpL [] H U.H) ?_ ?_ ?_
 . exact⟨by simp,by simp,by simp,by simp,⟨s.rtok,by simp[KH],by simpa[KH] using hrt⟩,by simp,by simp,by simp,KpL.refl⟩
 . rintro dn g1 rest ev ⟨H1,T1⟩ R hR hdl hx hlt ⟨e0,e2,e3,e9,⟨tok,e15,htok⟩,e81,e82,e83,hkp⟩;dsimp only at hkp;have hdw:=wr (n:=(dn.length:Int)+1) (by omega) (by omega);have hlt':(dn.length:Int)<PG.length:=(by omega);have hg1m:=qoZ hx;have hg1l:=htm g1 hg1m;simp[-getElem?_pos,e0,e2,e3,e9,e15,e81,e82,e83,hlt,hlt',hx,yb];refine qJ.listR g1 (fun dg ev U=>ev 0=.ptr s.S 0/\ev 2=r/\ev 3=m/\ev 9=.sl 1 (g.map zJ) .none/\(∃ tok,ev 15=.sl 4 ((KH s a (dn.flatten++dg)).map qt) tok/\qoT (KH s a (dn.flatten++dg)) tok)/\ev 81=.sl 1 (PG.map yb) .none/\ev 82=.int .i64 PG.length/\ev 83=.int .i64 dn.length/\ev 87=.sl 1 (g1.map zJ) .none/\ev 88=.int .i64 g1.length/\ev 89=.int .i64 dg.length/\KpL [] H U.H) ?_ ?_ ?_
   . exact⟨by simp[e0],by simp[e2],by simp[e3],by simp[e9],⟨tok,by simp[e15],by simpa using htok⟩,by simp[e81],by simp[e82],by simp[e83],by simp,by simp,by simp,hkp⟩
   . rintro dg i rest2 ev ⟨H2,T2⟩ R2 hR2 hdl2 hx2 hlt2 ⟨e0,e2,e3,e9,⟨tok,e15,htok⟩,e81,e82,e83,e87,e88,e89,hkp2⟩;dsimp only at hkp2;have hdw2:=wr (n:=(dg.length:Int)+1) (by omega) (by omega);have hlt2':(dg.length:Int)<g1.length:=(by omega);have him:i∈PG.flatten:=qp6.2 ⟨g1,hg1m,qoZ hx2⟩;obtain⟨v,l,hv,hw0,hw8,hl,hl20,_⟩:=hpre.gr i him;obtain⟨n,hna,hn16⟩:=hpre.val i him;have hs2:=hs.keep hkp2 (by simp) (by simp) (by simp);have ha2:=ha.keep hkp2 (by simp);obtain⟨u,hu1,hu2⟩:=ha2.at0 hna;have heq:=qaY hs2 hv (n:Int) T2;have hsn:KH s a (dn.flatten++(dg++[i]))=KH s a (dn.flatten++dg)++[eqE v.name (n:Int)]:=by
      have h2:Z9 s.p i=v.name:=(by simp[Z9,hv]);have h3:aN a i=n:=(by simp[aN,qpg,hna]);simp[KH,h2,h3]
     have hlen2:(KH s a (dn.flatten++dg)).length<=60000:=by
      rw[hrl];have:(dn.flatten++dg).length<=PG.flatten.length:=by rw[hdl,hdl2];simp
      omega
     have hcl:=qin (KH s a (dn.flatten++dg)) (ptok tok) htok.p;have hae:=ko (eqE v.name (n:Int));have hl4:=zf (eqE v.name (n:Int));have htk:(qt (eqE v.name (n:Int))).take 4=qt (eqE v.name (n:Int)):=qo6 (by rw[hl4];exact qo7 _);have hap:=fun H T=>WV (R:=KH s a (dn.flatten++dg)) (X:=eqE v.name (n:Int)) (H:=H) (T:=T) (by omega)
     have hix:=qhB (tok:=.none) hx2;generalize KH s a (dn.flatten++dg)=R0 at *;generalize eqE v.name (n:Int)=X at *;simp[-getElem?_pos,-zN,-kH,e0,e2,e3,e9,e15,e81,e82,e83,e87,e88,e89,hlt2',hix,qme];rw[qI rfl];simp[-getElem?_pos,-qZ,-zN,-kH,qP,e0,e2,e3,e9,e15];refine qc.pure hcl (by cases tok<;>simp) (by cases tok<;>simp[zn,Leq,jO.refl,ptok]) ?_;simp[-getElem?_pos,-qZ,-zN,-kH,qP,e0,e2,e3,e9,e15,hu1,hu2];refine qc.acall heq ?_;rintro w ⟨H3,T3⟩ ⟨rfl,hk3⟩;dsimp only at hk3;simp[-getElem?_pos,-qZ,qP,e0,e2,e3,e9,e15,htk,hae,hl4,qm,qz,hap,e81,e82,e83,e87,e88,e89,hdw2];refine hR2 _ _ ⟨by simp[e0],by simp[e2],by simp[e3],by simp[e9],⟨.chain T3.length 1,by simp[hsn],by rw[hsn];exact .inl (by simp)⟩,by simp[e81],by simp[e82],by simp[e83],by simp[e87],by simp[e88],by simp,hkp2.trans hk3⟩
   . rintro ev ⟨H2,T2⟩ ⟨e0,e2,e3,e9,⟨tok,e15,htok⟩,e81,e82,e83,e87,e88,e89,hkp2⟩;simp[-getElem?_pos,e0,e2,e3,e9,e15,e81,e82,e83,e87,e88,e89,hdw];exact hR _ _ ⟨by simp[e0],by simp[e2],by simp[e3],by simp[e9],⟨tok,by simp[e15],by simpa using htok⟩,by simp[e81],by simp[e82],by simp,hkp2⟩
 . rintro ev ⟨H1,T1⟩ ⟨e0,e2,e3,e9,⟨tok,e15,htok⟩,e81,e82,e83,hkp⟩;dsimp only at hkp;have hs1:=hs.keep hkp (by simp) (by simp) (by simp);have hf1:=hf.keep hkp (by simp);have hkn:∀ e∈KH s a PG.flatten,zr s.p.vars e=0/\JC e:=fun e he=>by
    rcases qpk.1 he with he|he
    . exact hRk e he
    . obtain⟨i,hi,rfl⟩:=qpx.1 he;obtain⟨v,l,hv,_⟩:=hpre.gr i hi;obtain⟨n,hna,hn16⟩:=hpre.val i hi;have h2:Z9 s.p i=v.name:=(by simp[Z9,hv]);have h3:aN a i=n:=(by simp[aN,qpg,hna]);rw[h2,h3];exact qdX hvq hvp hv (by omega) (by omega)
   have htr:=qjr hvq hvp hv20 hb hfx (m:=m) g (KH s a PG.flatten) tok H1 T1 hg hkn (by rw[hrl];omega) htok hs1 hf1;simp[-getElem?_pos,e0,e2,e3,e9,e15,e81,e82,e83];refine qc.acall htr ?_;rintro w ⟨H3,T3⟩ ⟨rfl,hk3⟩;dsimp only at hk3;simp[-getElem?_pos];exact hkp.trans hk3
theorem qiE {s:Spc}{H:List Blk}(hs:SpOk s H)(hw:∀ v∈s.p.vars,0<=v.width/\v.width<=8)(hvl:s.p.vars.length<=1000){r:AV}{a:List Int}(ha:AsR r a H)(T:List (Option Nat)) :
 qg Tryz.prog GG 58 [.ptr s.S 0,r] ⟨H,T⟩ (fun v U'=>v=.bool (z7 s.p.vars a)/\KpL [] H U'.H):=by
 refine qg.k qe Tryz.func58 rfl (by kernel_rfl) ?_;have hS:=hs.c;have hlen:=ha.len;simp only[spE,qL,qpp,qpl]at hS;obtain⟨res,hres⟩:∃ res,res=z7 s.p.vars a:=⟨_,rfl⟩;rw[<- hres];unfold z7 at hres;by_cases hl:a.length=s.p.vars.length
 case neg=>
  have hl':¬ (a.length:Int)=s.p.vars.length:=by omega
  have:res=false:=by rw[hres];simp[hl]
  subst this;simp[-getElem?_pos,-Y9,hlen,hS,show Y9 (Dof Tryz.prog) ⟨H,T⟩ 22 (.sl 4 (s.p.vars.map qx) .none)=some (.int .i64 (s.p.vars.length:Nat)) by simp,hl'];exact KpL.refl
 have hl':(a.length:Int)=s.p.vars.length:=by omega
 have hres:res=(s.p.vars.zip a).all vw:=by rw[hres];simp[hl]
 simp[-getElem?_pos,-Y9,hlen,hS,show ∀ U,Y9 (Dof Tryz.prog) U 22 (.sl 4 (s.p.vars.map qx) .none)=some (.int .i64 (s.p.vars.length:Nat)) from fun U=>by simp,hl'];refine qJ.listR s.p.vars (fun d ev U=>ev 1=r/\ev 20=.sl 4 (s.p.vars.map qx) .none/\ev 21=.int .i64 s.p.vars.length/\ev 22=.int .i64 d.length/\KpL [] H U.H/\res=((s.p.vars.drop d.length).zip (a.drop d.length)).all vw) ?_ ?_ ?_
 . exact⟨by simp,by simp,by simp,by simp,KpL.refl,by simpa using hres⟩
 . rintro d v rest ev ⟨H1,T1⟩ R hR hd hx hlt ⟨e1,e20,e21,e22,hkp,hr⟩;dsimp only at hkp;have hdw:=wr (n:=(d.length:Int)+1) (by omega) (by omega);have hlt':(d.length:Int)<s.p.vars.length:=(by omega);have hda:d.length<a.length:=(by omega);obtain⟨x,hax⟩:∃ x,a[d.length]?=some x:=⟨_,qo1 hda⟩;have hvd:s.p.vars.drop d.length=v::s.p.vars.drop (d.length+1):=by
    obtain⟨h1,h2⟩:=qoX.1 hx;rw[qph h1,h2]
   have had:a.drop d.length=x::a.drop (d.length+1):=by
    obtain⟨h1,h2⟩:=qoX.1 hax;rw[qph h1,h2]
   rw[hvd,had,qrP,qqB]at hr;have hwv:=hw v (qoZ hx);have hs1:=wb hwv.1 (by omega);have hwn:¬ v.width<0:=(by omega);have ha1:=ha.keep hkp (by simp);have hszz:((2 ^ v.width.toNat:Nat):Int)=(2:Int) ^ v.width.toNat:=(by simp);have hgo:∀ ev' U',ev' 1=r->ev' 20=.sl 4 (s.p.vars.map qx) .none->ev' 21=.int .i64 s.p.vars.length->ev' 22=.int .i64 (d.length+1:Nat)->KpL [] H U'.H->vw (v,x)=true->R ev' U':=fun ev' U' b1 b2 b3 b4 b5 b6=>hR _ _ ⟨b1,b2,b3,by rw[b4,qo3,qpu],b5,by rw[hr,b6,qp9,qo3,qpu]⟩
   have hbad:vw (v,x)=false->res=false:=fun h=>by rw[hr,h];rfl
   unfold vw at hgo hbad;simp only at hgo hbad;rw[<- hszz]at hgo hbad;generalize 2 ^ v.width.toNat=N at *;have hnext:∀ u,KpL [] H (H1++u):=fun u=>hkp.trans KpL.app
   rcases ha1 with ⟨tok,rfl⟩|⟨A,rfl,hA⟩
   case' inr=>
    have hto:(zK a)[d.length]?=some (.int .i64 x):=(by rw[YM,hax];rfl);have hdr:(zK a).drop d.length=.int .i64 x::(zK a).drop (d.length+1):=by
     obtain⟨h1,h2⟩:=qoX.1 hto;rw[qph h1,h2]
    have hla:d.length+1<=a.length:=hda;have hdi:(d.length:Int)<a.length:=by omega
   all_goals
    by_cases hm:v.mode=0
    . by_cases hxv:x=v.value
      . subst hxv;by_cases hx0:v.value<0
        . have hb:=hbad (by simp;omega);subst hb
          first | simp[-getElem?_pos,e1,e20,e21,e22,hlt,hlt',hx,hax,hwn,IntKind.bits,hs1,hdw,unA,hA,qa hA,hdr,za,hla,hdi,hm,hx0] | simp[-getElem?_pos,e1,e20,e21,e22,hlt,hlt',hx,hax,hwn,IntKind.bits,hs1,hdw,unA,hm,hx0]
          exact hnext _
        . by_cases hxN:(N:Int)<=v.value
          . have hb:=hbad (by simp;omega);subst hb
            first | simp[-getElem?_pos,e1,e20,e21,e22,hlt,hlt',hx,hax,hwn,IntKind.bits,hs1,hdw,unA,hA,qa hA,hdr,za,hla,hdi,hm,hx0,hxN] | simp[-getElem?_pos,e1,e20,e21,e22,hlt,hlt',hx,hax,hwn,IntKind.bits,hs1,hdw,unA,hm,hx0,hxN]
            exact hnext _
          . have hg:=hgo
            first | simp[-getElem?_pos,e1,e20,e21,e22,hlt,hlt',hx,hax,hwn,IntKind.bits,hs1,hdw,unA,hA,qa hA,hdr,za,hla,hdi,hm,hx0,hxN] | simp[-getElem?_pos,e1,e20,e21,e22,hlt,hlt',hx,hax,hwn,IntKind.bits,hs1,hdw,unA,hm,hx0,hxN]
            exact hgo _ _ (by simp[e1]) (by simp[e20]) (by simp[e21]) (by simp) (hnext _) (by simp[hm,hx0,hxN];omega)
      . have hb:=hbad (by simp[hm,hxv]);subst hb
        first | simp[-getElem?_pos,e1,e20,e21,e22,hlt,hlt',hx,hax,hwn,IntKind.bits,hs1,hdw,unA,hA,qa hA,hdr,za,hla,hdi,hm,hxv] | simp[-getElem?_pos,e1,e20,e21,e22,hlt,hlt',hx,hax,hwn,IntKind.bits,hs1,hdw,unA,hm,hxv]
        exact hnext _
    . by_cases hx0:x<0
      . have hb:=hbad (by simp;omega);subst hb
        first | simp[-getElem?_pos,e1,e20,e21,e22,hlt,hlt',hx,hax,hwn,IntKind.bits,hs1,hdw,unA,hA,qa hA,hdr,za,hla,hdi,hm,hx0] | simp[-getElem?_pos,e1,e20,e21,e22,hlt,hlt',hx,hax,hwn,IntKind.bits,hs1,hdw,unA,hm,hx0]
        exact hnext _
      . by_cases hxN:(N:Int)<=x
        . have hb:=hbad (by simp;omega);subst hb
          first | simp[-getElem?_pos,e1,e20,e21,e22,hlt,hlt',hx,hax,hwn,IntKind.bits,hs1,hdw,unA,hA,qa hA,hdr,za,hla,hdi,hm,hx0,hxN] | simp[-getElem?_pos,e1,e20,e21,e22,hlt,hlt',hx,hax,hwn,IntKind.bits,hs1,hdw,unA,hm,hx0,hxN]
          exact hnext _
        . have hg:=hgo
          first | simp[-getElem?_pos,e1,e20,e21,e22,hlt,hlt',hx,hax,hwn,IntKind.bits,hs1,hdw,unA,hA,qa hA,hdr,za,hla,hdi,hm,hx0,hxN] | simp[-getElem?_pos,e1,e20,e21,e22,hlt,hlt',hx,hax,hwn,IntKind.bits,hs1,hdw,unA,hm,hx0,hxN]
          exact hgo _ _ (by simp[e1]) (by simp[e20]) (by simp[e21]) (by simp) (hnext _) (by simp[hm,hx0,hxN];omega)
 . rintro ev ⟨H1,T1⟩ ⟨e1,e20,e21,e22,hkp,hr⟩;have:res=true:=by rw[hr,qqZ];rfl
   subst this;simp[-getElem?_pos,e20,e21,e22];exact hkp
structure SpV (s:Spc)(d:List Nd):Prop where
 vq:VQ s.p
 vp:qr s.p=0
 v20:s.p.vars.length<=20
 bits:yp s.p.vars (qy s.p)<=18
 rk:∀ e∈s.R,zr s.p.vars e=0/\JC e
 rl:s.R.length<=50000
 rt:qoT s.R s.rtok
 lv:s.lv=qQ s.p
 dag:s.small=true->DagOk d/\(∃ tok,s.dv=.sl 3 (d.map qE) tok)/\s.root<d.length
 ws:∀ (i:Nat) (w:List Weight),(jE s.p.vars.length s.p.dists)[i]?=some (some w)->w≠[]/\w.length<=1000
noncomputable def Wv (s:Spc)(d:List Nd)(fx:Nat->Option Nat)(a:List Int)(gi:Nat):Nat :=
 if s.small=true then Vp s.p s.lv d fx ((NG s.p).getD gi []) (QI s d a ((NG s.p).take gi).flatten) else qbH s.p fx ((NG s.p).getD gi []) (KH s a ((NG s.p).take gi).flatten)
theorem qbI (s:Spc)(d:List Nd)(fx:Nat->Option Nat)(a:List Int)(gi:Nat):Wv s d fx a gi<=lim:=by
 unfold Wv;split
 . exact qgd _ _ _ _ _ _
 . exact qgb _ _ _ _
theorem qiW {p:Problem}(h:qr p=0){i:Nat}(hi:i∈(NG p).flatten):∃ (k:Nat),p.groups.flatten[k]?=some (i:Int):=by
 have:(i:Int)∈p.groups.flatten:=by rw[Qp h];exact qpx.2 ⟨i,hi,rfl⟩
 exact qpD this
theorem SpV.gr {s:Spc}{d:List Nd}(h:SpV s d){l:List Nat}(hl:∀ i∈l,i∈(NG s.p).flatten):qmP s l:=fun i hi=>by
 obtain⟨k,hk⟩:=qiW h.vp (hl i hi);obtain⟨n,v,hn,hv,hm⟩:=JZ ((jQ h.vp).2.1 _ (qoZ hk));have hn:n=i:=by omega
 subst hn;have hw:=zk (jA h.vp v (qoZ hv));have hl:=Yi h.vp hk;have h1:=Jl (vA h.vp) (s.p.groups.flatten.take k);have h2:=Kx (vA h.vp) s.p.groups.flatten k;have h3:=YA h.vp;refine⟨v,(yx s.p.vars (s.p.groups.flatten.take k)).toNat,hv,by omega,by omega,?_,by omega,h.ws n⟩;rw[h.lv,hl];congr 1;omega
theorem qbi {p:Problem}(h:qr p=0):(NG p).flatten.length<=p.vars.length:=by
 have:=K8 h;rw[Qp h,qpK]at this;exact this
theorem qiX {p:Problem}(h:qr p=0)(hv:p.vars.length<=1000):(∀ g∈NG p,g.length<=1000)/\(NG p).length<=1000:=by
 have h1:=qbi h;have h2:∀ g∈NG p,g≠[]:=fun g hg=>by
  obtain⟨g',hg',rfl⟩:=qpx.1 hg;have:=(jQ h).1 g' hg';simpa using this
 have key:∀ G:List (List Nat),(∀ g∈G,g≠[])->(∀ g∈G,g.length<=G.flatten.length)/\G.length<=G.flatten.length:=by
  intro G
  induction G with
  | nil=>intro _;simp
  | cons a r ih=>
   intro hG;obtain⟨i1,i2⟩:=ih fun g hg=>hG g (by simp[hg])
   have ha:=qpe.2 (hG a (by simp));refine⟨fun g hg=>?_,by rw[qpF,qo3,qpd];omega⟩;rcases qpm.1 hg with rfl|hg
   . simp
   . have:=i1 g hg;rw[qpF,qo3];omega
 obtain⟨k1,k2⟩:=key (NG p) h2;exact⟨fun g hg=>by have:=k1 g hg;omega,by omega⟩
def AOk (p:Problem)(a:List Int):Prop:=∀ i∈(NG p).flatten,∃ n:Nat,a[i]?=some (n:Int)/\n<65536
theorem Y1 {p:Problem}(h:qr p=0){a:List Int}(ha:z7 p.vars a=true):AOk p a:=fun i hi=>by
 obtain⟨k,hk⟩:=qiW h hi;obtain⟨n,v,hn,hv,hm⟩:=JZ ((jQ h).2.1 _ (qoZ hk));have hn:n=i:=by omega
 subst hn;unfold z7 at ha;simp only[qo0,decide_eq_true_eq]at ha;have hil:=(qoX.1 hv).1;obtain⟨x,hx⟩:∃ x,a[n]?=some x:=⟨_,qo1 (by omega)⟩;have hz:(v,x)∈p.vars.zip a:=qoZ (i:=n) (qqi.2 ⟨hv,hx⟩);have h1:=qpa.1 ha.2 _ hz;unfold vw at h1;simp only[qo0,decide_eq_true_eq]at h1;have hw:=zk (jA h v (qoZ hv));have h2:(2:Nat) ^ v.width.toNat<=2 ^ 8:=qpr (by omega) (by omega);have h3:((2 ^ v.width.toNat:Nat):Int)=(2:Int) ^ v.width.toNat:=by simp
 exact⟨x.toNat,by rw[hx];congr 1;omega,by omega⟩
theorem qlS {s:Spc}{d:List Nd}(h:SpV s d){fx:Nat->Option Nat}(hfx:∀ i x,fx i=some x->x<65536){m:AV}{gi:Nat}(hgi:gi<(NG s.p).length){r:AV}{a:List Int}{H:List Blk}(hao:AOk s.p a)(hs:SpOk s H)(hf:qfE m fx H)(ha:AsR r a H)(T:List (Option Nat)) :
 qg Tryz.prog GG 59 [.ptr s.S 0,.int .i64 gi,r,m] ⟨H,T⟩ (fun v U'=>v=.int .i64 (Wv s d fx a gi:Nat)/\KpL [] H U'.H):=by
 obtain⟨g,hg⟩:∃ g,(NG s.p)[gi]?=some g:=⟨_,qo1 hgi⟩;have hgd:(NG s.p).getD gi []=g:=by simp[qpg,hg]
 have hl:=qiX h.vp h.vq.vars;have hfl:(NG s.p).flatten.length<=1000:=qp4 (qbi h.vp) h.vq.vars;have hgr:qmP s g:=h.gr fun i hi=>qp6.2 ⟨g,qoZ hg,hi⟩
 have hsub:∀ i∈((NG s.p).take gi).flatten,i∈(NG s.p).flatten:=fun i hi=>by
  obtain⟨g',hg',hi'⟩:=qp6.1 hi;exact qp6.2 ⟨g',qpZ hg',hi'⟩
 have hpre:SpG s a ((NG s.p).take gi).flatten:=⟨h.gr hsub,fun i hi=>hao i (hsub i hi)⟩;unfold Wv;rw[hgd];by_cases hsm:s.small=true
 . obtain⟨hd,⟨tok,hdv⟩,hr⟩:=h.dag hsm;rw[if_pos hsm];exact qng h.vp hsm hd hdv hr hfx hg hl.1 hl.2 hgr hpre hs hf ha T
 . rw[if_neg hsm];exact qnf h.vq h.vp h.v20 h.bits (by simpa using hsm) h.rk h.rl h.rt hfx hg hl.1 hl.2 hfl hgr hpre hs hf ha T
noncomputable def Kw (s:Spc)(d:List Nd)(gi:Int)(a:List Int):Int×Int :=
 if gi<0\/((NG s.p).length:Int)<=gi\/z7 s.p.vars a=false then (0,1)
 else if Wv s d (fun _=>none) a gi.toNat=0 then (0,11) else if Wv s d (fun _=>none) a gi.toNat=lim then (0,3) else (Wv s d (fun _=>none) a gi.toNat,0)
theorem qnc {s:Spc}{d:List Nd}(h:SpV s d)(gi:Int){r:AV}{a:List Int}{H:List Blk}(hs:SpOk s H)(ha:AsR r a H)(T:List (Option Nat)) :
 qg Tryz.prog GG 29 [.ptr s.S 0,.int .i64 gi,r] ⟨H,T⟩ (fun v U'=>v=.tup [.int .i64 (Kw s d gi a).1,.int .i64 (Kw s d gi a).2]/\KpL [] H U'.H):=by
 refine qg.k qe Tryz.func29 rfl (by kernel_rfl) ?_;have hS:=hs.c;have hG:=qeb h.vp;have hw:∀ v∈s.p.vars,0<=v.width/\v.width<=8:=fun v hv=>by have:=zk (jA h.vp v hv);omega
 have has:=qiE hs hw h.vq.vars ha T;simp only[spE,qL,qpp,qpl,hG]at hS;obtain⟨res,hres⟩:∃ res,res=Kw s d gi a:=⟨_,rfl⟩;rw[<- hres];unfold Kw at hres;by_cases h0:gi<0
 . rw[if_pos (.inl h0)]at hres;subst hres;simp[-getElem?_pos,h0,hS,unA];exact KpL.refl
 by_cases h1:((NG s.p).length:Int)<=gi
 . rw[if_pos (.inr (.inl h1))]at hres;subst hres;simp[-getElem?_pos,h0,h1,hS,unA];exact KpL.refl
 simp[-getElem?_pos,h0,h1,hS,unA];refine qc.acall has ?_;rintro v ⟨H1,T1⟩ ⟨rfl,hk1⟩;dsimp only at hk1
 cases hA:z7 s.p.vars a with
 | false=>
  rw[if_pos (.inr (.inr hA))]at hres;subst hres;simp[-getElem?_pos,unA];exact hk1
 | true=>
  rw[if_neg (by simp[h0,hA];omega)]at hres;obtain⟨g,rfl⟩:=qpC (by omega:0<=gi);have hsu:=qlS h (fx:=fun _=>none) (by simp) (m:=.nilm) (gi:=g) (by omega) (Y1 h.vp hA) (hs.keep hk1 (by simp) (by simp) (by simp)) (.inl ⟨rfl,fun _=>rfl⟩) (ha.keep hk1 (by simp)) T1;rw[qpQ]at hres;have hle:=qbI s d (fun _=>none) a g;generalize Wv s d (fun _=>none) a g=n at *;simp[-getElem?_pos,unA];refine qc.acall hsu ?_;rintro v ⟨H2,T2⟩ ⟨rfl,hk2⟩;dsimp only at hk2;have hkk:=hk1.trans hk2;by_cases hn0:n=0
  . rw[if_pos hn0]at hres;subst hres;simp[-getElem?_pos,hn0];exact hkk
  . rw[if_neg hn0]at hres;have hn0':¬ (n:Int)=0:=(by omega);by_cases hnl:n=lim
    . rw[if_pos hnl]at hres;subst hres;have hnl':(n:Int)=1099511627777:=(by rw[hnl];rfl);simp[-getElem?_pos,hn0,hn0',hnl'];exact hkk
    . rw[if_neg hnl]at hres;subst hres;have hnl':¬ (n:Int)=1099511627777:=(by unfold lim at hnl;omega);simp[-getElem?_pos,hn0,hn0',hnl'];exact hkk
theorem qjt (vs:List Var)(d:Dist)(h:d.weights=[]):Kf vs d=jK 0:=by
 unfold Kf;split
 . rename_i v _;have:qbF v d.weights=[]:=by
    unfold qbF;rw[h];have:(qda [])=fun _=>false:=by funext n;rfl
    rw[this];simp
   rw[this];rfl
 . rfl
theorem qnr (vs:List Var)(l:List Ex)(a:List Int)(h:jK 0∈l):ZK vs l a=false:=by
 have h0:vl (Qq vs a) (jK 0)=0:=by
  unfold vl;split
  . rw[wQ];simp[jK,WK,Ex.op,Ex.n]
  . rfl
 unfold ZK;rw[qrR];exact⟨_,h,by simp[h0]⟩
theorem qbO {p:Problem}(h:VQ p)(hd:p.dists.length<=10000)(hs5:p.soft.length<=10000)(he:(zH p).2=0) :
 qr p=0/\(∀ e∈(zH p).1,zr p.vars e=0/\JC e)/\(zH p).1.length<=50000/\∀ d∈p.dists,d.weights≠[]:=by
 obtain⟨hv,hsat,hR,_⟩:=JX (by rw[<- Zf];exact he);have hnk:=QJ h hv;have hsl:yo p=Qu p:=by unfold yo;rw[if_pos hv]
 rw[hR];refine⟨hv,fun e hm=>?_,?_,fun d hdm hw=>?_⟩
 . have hmm:e∈z9 p++p.soft:=by
    rcases qpk.1 hm with hm|hm
    . exact qpk.2 (.inl hm)
    . obtain⟨q,hq,rfl⟩:=qpx.1 hm;obtain⟨k,_,hk⟩:=qhw hq;exact qpk.2 (.inr (qoZ hk))
   have:=hnk e hmm;exact⟨by simpa[wl] using this.1,this.2⟩
 . have h1:=qdC p;have h2:=h.hard;have h3:(Qu p).length=p.dists.length:=(by simp[Qu]);simp only[qo3,qpK,z9,hsl];omega
 . have hin:jK 0∈z9 p:=by
    unfold z9;rw[hsl];exact qpk.2 (.inr (qpx.2 ⟨d,hdm,qjt _ _ hw⟩))
   unfold yM at hsat;obtain⟨a,_,ha⟩:=qpq.1 hsat;rw[qnr _ _ _ hin]at ha;cases ha
def qnA:List (Nat×Sch×List Nat):=[(4,.step 1 [8,7,6] (.step 2 [8,7,6,5,3] (.step 3 [8,7,6,5] (.step 4 [8,7,6,5] (.fork (.cons 0 (.step 5 [8,7,6] (.step 6 [8,7] (.step 7 [8] (.step 8 [] (.done))))) (.cons 5 (.step 0 [8,7,6] (.step 6 [8,7] (.step 7 [8] (.step 8 [] (.done))))) (.nil))))))),[5])]
def OpQ (p:Problem)(H:List Blk)(r:AV)(U':St):Prop :=
 KpL [] H U'.H/\(((zH p).2≠0/\r=.tup [.nilp,.int .i64 (zH p).2]) \/
  ((zH p).2=0/\∃ s d,r=.tup [.ptr s.S 0,.int .i64 0]/\H.length<=s.S/\H.length<=s.L/\H.length<=s.LL/\s.p=p/\s.R=(zH p).1/\SpOk s U'.H/\SpV s d /\
    (s.small=true->∀ b,evD d b s.root=ZK p.vars (zH p).1 (Q9 p.vars (qQ p) b))))
theorem open75 (p:Problem)(h:VQ p)(hv20:p.vars.length<=20)(hb:yp p.vars (qy p)<=18)(hd:p.dists.length<=10000)(hs5:p.soft.length<=10000)(hws:∀ d∈p.dists,d.weights.length<=1000)(H:List Blk)(T:List (Option Nat)) :
 qg Tryz.prog GG 28 [.agg (qL p)] ⟨H,T⟩ (OpQ p H):=by
 refine qg.kO ⟨false,qnA,[],[]⟩ qe Tryz.func28 rfl (by kernel_rfl) ?_;by_cases he:(zH p).2=0
 case neg=>
  have hr:=Vl p h hv20 hb hd hs5;simp[-getElem?_pos];refine qc.call hr (by simp) ?_;have hq:∀ u T',OpQ p H (.tup [.nilp,.int .i64 (zH p).2]) ⟨H++u,T'⟩:=fun u T'=>⟨KpL.app,.inl ⟨he,rfl⟩⟩
  generalize (zH p).2=er at *;simp[-getElem?_pos,he];exact hq _ _
 case pos=>
  obtain⟨hv,hk,hl,hwn⟩:=qbO h hd hs5 he;have hlv:=qbj p h hv;simp[-getElem?_pos];refine qc.acall (qlI p h hv20 hb hd hs5 he _ _) ?_;rintro r ⟨H1,T1⟩ ⟨tok,rfl,htok,hk1⟩;dsimp only at hk1;have bx:=hk1.2 _ _ lk0 (by simp);have hkH:KpL [] H H1:=KpL.app.trans hk1;have hlen1:=hk1.1;simp only[qo3,qpd,qpy]at hlen1;obtain⟨R,hR⟩:∃ R,R=(zH p).1:=⟨_,rfl⟩;rw[<- hR]at htok hk hl ⊢;simp[-getElem?_pos];rw[qI rfl];simp only[qL]at hlv;simp[-getElem?_pos,qP,bx];refine qc.call hlv (by simp) ?_;simp[-getElem?_pos,qP,bx];have hwg:=qjc p h hv H1 T1;simp only[qL]at hwg;refine⟨qc.acall hwg ?_,qc.acall hwg ?_⟩
  all_goals
   rintro r ⟨H2,T2⟩ ⟨hk2,L,LL,rfl,hL1,hL2,hwf⟩;dsimp only at hk2 hwf;have bx2:=hk2.2 _ _ bx (by simp);have hkH2:=hkH.trans hk2;have hlen2:=hk2.1;have hLlt:L<H2.length:=(by obtain⟨c,hc,_⟩:=hwf;exact (qoX.1 hc).1);obtain⟨LL',hLL',hLL1,hwf'⟩:∃ LL',LL' < H2.length/\H.length<=LL'/\WFn p L LL' H2:=by
    obtain⟨c,hc,hc2⟩:=hwf;by_cases hpv:p.vars=[]
    . exact⟨L,hLlt,by omega,c,hc,fun hn=>absurd hpv hn⟩
    . exact⟨LL,(qoX.1 (hc2 hpv).2).1,by omega,c,hc,hc2⟩
   simp[-getElem?_pos,qP,bx2,qa bx2,zl,zP,qA];refine qc.acall ((All135 p h hv R (by omega) hk _ _).leq (by simp[qL])) ?_;rintro r ⟨H3,T3⟩ ⟨hk3,hr⟩;dsimp only at hk3;have bS:=hk3.2 _ _ lk0 (by simp);have hSl:=(qoX.1 bS).1;have hkH3:KpL [] H H3:=hkH2.trans (KpL.app.trans hk3);have hwf3:WFn p L LL' H3:=by
    obtain⟨c,hL,hc⟩:=hwf';have hk':=KpL.app.trans hk3;exact⟨c,hk'.2 _ _ hL (by simp),fun hn=>⟨(hc hn).1,hk'.2 _ _ (hc hn).2 (by simp)⟩⟩
   have hws':∀ (i:Nat) (w:List Weight),(jE p.vars.length p.dists)[i]?=some (some w)->w≠[]/\w.length<=1000:=fun i w hi=>by
    obtain⟨d,hd,rfl⟩:=qe0 (qoZ hi);exact⟨hwn d hd,hws d hd⟩
   have fin:∀ (dv:AV) (root:Nat) (small:Bool) (d:List Nd) (T':List (Option Nat)),(small=true->DagOk d/\(∃ tok,dv=.sl 3 (d.map qE) tok)/\root<d.length)->(small=true->∀ b,evD d b root=ZK p.vars R (Q9 p.vars (qQ p) b)) ->
    OpQ p H (.tup [.ptr H2.length 0,.int .i64 0]) ⟨H3.set H2.length (.cells (qL p++[.sl 4 (R.map qt) tok,.sl 1 ((qQ p).map qu) .none,dv,.int .i64 root,.bool small,.fn 88 [] [.ptr L 0]])),T'⟩:=by
    intro dv root small d T' hdag hroot;refine⟨hkH3.setF (by have:=hkH2.1;omega),.inr ⟨he,⟨H2.length,L,LL',p,R,tok,qQ p,dv,root,small⟩,d,rfl,hkH2.1,by dsimp only;omega,hLL1,rfl,hR,⟨?_,?_,?_⟩,⟨h,hv,hv20,hb,hk,hl,htok,rfl,hdag,hws'⟩,by rw[<- hR];exact hroot⟩⟩
    . exact qo2 hSl
    . obtain⟨c,hL,hc⟩:=hwf3;exact⟨c,by dsimp only;rw[qoY (by omega)];exact hL,fun hn=>⟨(hc hn).1,by dsimp only;rw[qoY (by omega)];exact (hc hn).2⟩⟩
    . dsimp only;rw[qqI];omega
   rcases hr with rfl|⟨d,t,tk,rfl,hdk,ht,hev⟩
   . simp[-getElem?_pos,bS,hSl];exact fin (.sl 0 [] .nil) 0 false [] T3 (by simp) (by simp)
   . simp[-getElem?_pos,bS,hSl];exact fin (.sl 3 (d.map qE) tk) t true d T3 (fun _=>⟨hdk,⟨tk,rfl⟩,ht⟩) (fun _=>hev)
end Go.Proofs.YtcadpamddlofjaaGreatDoor
end
