/- A part of the proof. -/
import Derived.Test.YtcadpamddlofjaaGreatDoorPa28
import Derived.Test.YtcadpamddlofjaaGreatDoorPa29
import Derived.Test.YtcadpamddlofjaaGreatDoorPa12
set_option maxHeartbeats 16000000
set_option linter.unusedVariables false
set_option linter.unusedSimpArgs false
set_option maxRecDepth 100000
set_option linter.defProp false
section
namespace Go.Proofs.YtcadpamddlofjaaGreatDoor
open Go Go.Abs
theorem jA {p:Problem}(h:qr p=0):∀ v∈p.vars,jY v=0:=by
 have hv:ja p.vars=0:=by
  unfold qr at h;split at h
  . exact absurd h (by assumption)
  . rename_i h1;exact qqj.1 h1
 unfold ja at hv;split at hv
 . cases hv
 . split at hv
   . rename_i h1;exact absurd hv h1
   . rename_i h1;exact zF.1 (qqj.1 h1)
theorem kW:∀ (a:List Int),zK a=a.flatMap qu
 | []=>rfl
 | x::r=>by
  have:=kW r;rw[qpn,<- this];rfl
noncomputable def ZR (p:Problem)(l:List Ex)(n:Nat):List Int×Int :=
 if qd5 p l n=true then (match qbo p.vars l n (qX p.vars) with
  | (some a,_)=>(a,0)
  | (none,true)=>([],11)
  | (none,false)=>([],18)) else ([],1)
theorem qkX (p:Problem)(l:List Ex)(n:Nat)(h:VQ p)(hfl:Fits l)(hx:∀ e∈l,Wen e/\hgt e<=1000/\(pre e).length<=100000)(hn:n<4611686018427387904) :
 Pure Tryz.prog GG 122 [.agg (qL p),.sl 4 (l.map qt) .none,.int .i64 n] (.tup [.sl 1 ((ZR p l n).1.map qu) .none,.int .i64 (ZR p l n).2]):=by
 refine Pure.kO o0 true qe Tryz.func122 rfl (by kernel_rfl) ?_;have hb:=qlt p l n h hfl hx hn [.cells (qL p)] [];simp only[qL]at hb;simp[-getElem?_pos];refine qc.acall hb ?_;rintro v ⟨H1,T1⟩ hq;unfold qoW at hq;by_cases hg:qd5 p l n=true
 . rw[if_pos hg]at hq;obtain⟨F,A,t,rfl,hfr,hAl⟩:=hq;simp only at hfr hAl;have hv:qr p=0:=by
    simp only[qd5,qo0,decide_eq_true_eq]at hg;exact hg.1
   have hn2:n<=262144:=by
    simp only[qd5,qo0,decide_eq_true_eq]at hg;omega
   have hw:∀ v∈p.vars,0<=v.width/\v.width<=28:=fun v hm=>by have:=zk (jA hv v hm);omega
   have hh:=hit327 T1 hfr hAl hn2 h.vars (Yb p.vars) hw hx hfl;have hFA:ZR p l n=(match qbo p.vars l n (qX p.vars) with
    | (some a,_)=>(a,0)
    | (none,true)=>([],11)
    | (none,false)=>([],18)):=if_pos hg
   rw[hFA];generalize qbo p.vars l n (qX p.vars)=s at *;simp[-getElem?_pos];refine qc.acall hh ?_;rintro v2 ⟨H2,T2⟩ ⟨hk,⟨va,n',hF2⟩,hres⟩;simp only[Ko]at hF2;rcases hres with ⟨a,bh,vh,hs,rfl,hrow⟩|⟨hs,rfl⟩
   . obtain⟨s1,s2⟩:=s;simp only at hs;subst hs;simp only at hrow;simp[-getElem?_pos];rcases hrow with ⟨rfl,sz,tok,rfl⟩|⟨ha0,rfl,hbc⟩
     . have hc:∀ H t k,frz H 7 (.sl sz [] (.chain t k))=.sl sz [] .none:=fun H t k=>by rw[frz];simp[qC]
       cases tok with
       | chain t k=>
        rw[frz,if_neg (by simp[qC,qp])];simp only[qo9,qpv,hc,Qi,qC,qp,Leq,zn];simp[zj]
       | none=>rw[qG (by simp)];exact⟨by simp,by simp[Leq,zn]⟩
       | nil=>rw[qG (by simp)];exact⟨by simp,by simp[Leq,zn]⟩
       | tight=>rw[qG (by simp)];exact⟨by simp,by simp[Leq,zn]⟩
     . have ho:js bh 1 qu H2 (.ms bh 0 a.length 1) a:=.inr ⟨ha0,rfl,by
        rw[hbc,kW]⟩
       have f1:=ho.frz (fun x=>by simp) (fun x=>by simp) (fun x=>by simp) 6;have f2:=ho.frzNo (fun x=>by simp) (fun x=>by simp) (fun x=>by simp) 6;rw[frz,if_neg (by simp[qC,qp])];simp only[qo9,qpv,Qi,qC,qp,Leq,zn,qqN,and_true];exact⟨f2,f1⟩
   . obtain⟨s1,s2⟩:=s;simp only at hs hF2;subst hs;cases s2
     . simp[-getElem?_pos,hF2];rw[qG (by simp)];exact⟨by simp,by simp[Leq,zn]⟩
     . simp[-getElem?_pos,hF2];rw[qG (by simp)];exact⟨by simp,by simp[Leq,zn]⟩
 . rw[if_neg hg]at hq;subst hq;have hFA:ZR p l n=([],1):=if_neg hg;rw[hFA];simp[-getElem?_pos];rw[qG (by simp)];exact⟨by simp,by simp[Leq,zn]⟩
theorem qoC (p:Problem)(h:VQ p)(hv20:p.vars.length<=20):Pure Tryz.prog GG 162 [.agg (qL p)] (.int .i64 (yp p.vars (qy p))):=by
 refine Pure.vc qe Tryz.func162 rfl (by kernel_rfl) ?_;have hv:=qgz p h;have hlen:=ZL p hv20;have hrg:∀ i∈qy p,0<=i/\i<p.vars.length:=fun i hi=>QG hi
 simp only[qL]at hv;generalize qy p=R at hv hlen hrg ⊢;simp;refine qb.call hv (by simp) ?_
 try simp
 refine qF.intro (fun q env U=>∃ i,i<=R.length/\q=R.length-i/\env 1=.ptr 0 0/\env 3=.int .i64 (yp p.vars (R.take i))/\env 7=.sl 1 (R.map qu) .none/\env 8=.int .i64 R.length/\env 9=.int .i64 i/\U=⟨[.cells (qL p)],[]⟩) R.length ⟨0,by simp[yp]⟩ ?_;rintro q env U ⟨i,hi,rfl,h1,h3,h7,h8,h9,rfl⟩
 cases hvi:R[i]? with
 | some v=>
  obtain⟨hc,hv'⟩:=qoX.1 hvi;obtain⟨r1,r2⟩:=hrg v (qoZ hvi);obtain⟨j,rfl⟩:=qpC r1;have hj:j<p.vars.length:=by omega
  have hs:=qcR (l:=p.vars) hvi;simp only[qpQ]at hs;rw[JD hj]at hs;simp[h1,h3,h7,h8,h9,hc,hv',hj];exact⟨_,by omega,i+1,by omega,rfl,by rw[hs],wr (by omega) (by omega)⟩
 | none=>
  have hc:¬ i<R.length:=by simp at hvi;omega
  have ht:R.take i=R:=qo6 (by omega);rw[ht]at h3;simp[h1,h3,h7,h8,h9,hc]
theorem qiF (p:Problem)(h:VQ p)(hv20:p.vars.length<=20)(h0:0<=yp p.vars (qy p))(h28:yp p.vars (qy p)<=28):Pure Tryz.prog GG 123 [.agg (qL p)] (.int .i64 ((2 ^ (yp p.vars (qy p)).toNat:Nat):Int)):=by
 refine Pure.k qe Tryz.func123 rfl (by kernel_rfl) ?_;have hb:=qoC p h hv20;have hs:=wb h0 h28;generalize yp p.vars (qy p)=B at *;have hn:¬ B<0:=by omega
 generalize hN:2 ^ B.toNat=N at *;simp only[qL]at hb;simp[-getElem?_pos];refine qc.call hb (by simp) ?_;simp[-getElem?_pos,hn,IntKind.bits,hs]
section
def ZJ (q:Str×AV×Nat):AV×AV×Nat:=(.str q.1,q.2.1,q.2.2)
theorem Qw {s:Str}:∀ (E:List (Str×AV×Nat)) (k:Nat),(ju (.str s) (E.map ZJ) k=some none/\∀ q∈E,q.1≠s)\/∃ j q,E[j]?=some q/\q.1=s/\ju (.str s) (E.map ZJ) k=some (some (k+j,q.2.1))
 | [],k=>.inl ⟨rfl,by simp⟩
 | e::E,k=>by
  by_cases h:s=e.1
  . right;refine⟨0,e,rfl,h.symm,?_⟩;simp[ju,ZJ,vU,h]
  . have h':(s==e.1)=false:=(by simpa using h);rcases Qw (s:=s) E (k+1) with ⟨h1,h2⟩|⟨j,q,h1,h2,h3⟩
    . left;refine⟨by simp[ju,ZJ,vU,h'];simpa[ZJ] using h1,fun q hq=>?_⟩;rcases qpm.1 hq with rfl|hq
      . exact fun e=>h e.symm
      . exact h2 q hq
    . right;refine⟨j+1,q,by simpa using h1,h2,?_⟩;simp only[qo9,ZJ,ju,vU,h'];have:k+(j+1)=k+1+j:=by omega
      rw[this];exact h3
def wO (vs:List Var):List (Str×AV×Nat):=vs.zipIdx.map fun q=>(q.1.name,.int .i64 (q.2:Int),q.2)
def wz (vs:List Var):Blk:=.map ((wO vs).map ZJ) vs.length
theorem qcM {vs:List Var}{j:Nat}{q:Str×AV×Nat}(h:(wO vs)[j]?=some q):∃ v,vs[j]?=some v/\q=(v.name,.int .i64 (j:Int),j):=by
 unfold wO at h;rw[qpj,qqX]at h
 cases hv:vs[j]? with
 | none=>rw[hv]at h;simp at h
 | some v=>rw[hv]at h;simp at h;exact⟨v,rfl,h.symm⟩
theorem qcL {vs:List Var}(hn:(vs.map (·.name)).Nodup){i:Nat}{v:Var}(hv:vs[i]?=some v)(k:Nat):ju (.str v.name) ((wO vs).map ZJ) k=some (some (k+i,.int .i64 (i:Int))):=by
 rcases Qw (s:=v.name) (wO vs) k with ⟨_,h2⟩|⟨j,q,h1,h2,h3⟩
 . exfalso;have hm:(v.name,AV.int .i64 (i:Int),i)∈wO vs:=qpx.2 ⟨(v,i),qoZ (i:=i) (by rw[qqX,hv];simp),rfl⟩;exact h2 _ hm rfl
 . obtain⟨w,hw,rfl⟩:=qcM h1;have hij:j=i:=by
    obtain⟨hj1,hj2⟩:=qoX.1 hw;obtain⟨hi1,hi2⟩:=qoX.1 hv;have h2:w.name=v.name:=h2;have hp:=qqF.1 hn;rcases Nat.lt_trichotomy j i with h|h|h
    . exact absurd (by rw[qqh,qqh,hj2,hi2,h2]) (hp j i (by simpa using hj1) (by simpa using hi1) h)
    . exact h
    . exact absurd (by rw[qqh,qqh,hj2,hi2,h2]) (hp i j (by simpa using hi1) (by simpa using hj1) h)
   subst hij;exact h3
structure PB (p:Problem)(lv:List Int)(c:Bc):Prop where
 rest:c.rest=qL p++[.sl 1 (lv.map qu) .none,.map c.M]
 mp:c.mp=wz p.vars
 len:lv.length=p.vars.length
 few:p.vars.length<=1000
 vars:∀ v∈p.vars,jY v=0
 nodup:(p.vars.map (·.name)).Nodup
 lev:∀ (i:Nat) (v:Var) (l:Int),p.vars[i]?=some v->lv[i]?=some l->v.mode≠0->0<=l/\l+v.width<=20
def qf4 (v:Var)(l:Int)(b:Nat->Bool):Int:=if v.mode=0 then v.value else (zh (fun k=>b (l.toNat+v.width.toNat-1-k)) v.width.toNat:Nat)
theorem Wp {v:Var}(h:jY v=0):0<=v.value/\v.value<65536:=by
 have h1:=zk h;unfold jY at h;split at h
 . cases h
 . split at h
   . cases h
   . rename_i hc;have:(2:Int) ^ v.width.toNat<=2 ^ 8:=by
      have:v.width.toNat<=8:=by omega
      have h2:(2:Nat) ^ v.width.toNat<=2 ^ 8:=qpr (by omega) this;have h3:((2 ^ v.width.toNat:Nat):Int)<=((2 ^ 8:Nat):Int):=Int.ofNat_le.2 h2;simpa using h3
     omega
theorem qbB {vs:List Var}{m:Nat}{U:St}(hm:U.H[m]?=some (wz vs))(hn:(vs.map (·.name)).Nodup){i:Nat}{v:Var}(hv:vs[i]?=some v):zq (Dof Tryz.prog) U 184 (.map m) (.str v.name) false=some (.int .i64 (i:Int)):=by
 have:=qcL hn hv 0;unfold wz at hm;generalize (wO vs).map ZJ=E at *;simp[zq,hm,zt,this]
theorem qeu {w:Nat}(f:Nat->Bool):∀ {n:Nat},w<=n->zh (fun j=>decide (j<w)&&f j) n=zh f w:=fun {n} h=>by
 apply qqu;intro i;rw[qS,qS];by_cases h1:i<w
 . have:i<n:=by omega
   simp[h1,this]
 . simp[h1]
section
variable {c:Bc}{d:List Nd}{H:List Blk}{T:List (Option Nat)}
def qjW:List (Nat×Sch×List Nat):=[(9,.step 0 [25,24] (.step 1 [25,24,23] (.step 2 [25,24,23,22,21,20,19,5,4,3] (.step 3 [25,24,23,22,21,20,19,5,4] (.step 4 [25,24,23,22,21,20,19,5] (.step 5 [25,24,23,22,21,20,19] (.step 6 [25,24,23,22,21,20,19,18,16,15,12,11,9,8,7] (.step 7 [25,24,23,22,21,20,19,18,16,15,12,11,9,8] (.step 8 [25,24,23,22,21,20,19,18,16,15,12,11,9] (.step 9 [25,24,23,22,21,20,19,18,16,15,12,11] (.step 10 [25,24,23,22,21,20,19,18,16,15,12,11] (.step 11 [25,24,23,22,21,20,19,18,16,15,12] (.step 12 [25,24,23,22,21,20,19,18,16,15] (.step 13 [25,24,23,22,21,20,19,18,16,15,14] (.step 14 [25,24,23,22,21,20,19,18,16,15] (.step 15 [25,24,23,22,21,20,19,18,16] (.step 16 [25,24,23,22,21,20,19,18] (.step 17 [25,24,23,22,21,20,19,18] (.step 18 [25,24,23,22,21,20,19] (.step 19 [25,24,23,22,21,20] (.step 20 [25,24,23] (.step 21 [25,24,23] (.step 22 [25,24,23] (.step 23 [25,24] (.step 24 [25] (.step 25 [] (.done)))))))))))))))))))))))))),[19,23])]
theorem qbz (h:BX c H d H){p:Problem}{lv:List Int}(hp:PB p lv c){i:Nat}{v:Var}{l:Int}(hv:p.vars[i]?=some v)(hl:lv[i]?=some l) :
 qg Tryz.prog (XG c) 179 [.ptr c.B 0,.str v.name] ⟨H,T⟩ (WQ c d H fun b=>qf4 v l b):=by
 refine qg.kO ⟨false,qjW,[],[]⟩ qe Tryz.func179 rfl (by kernel_rfl) ?_;have hk:∀ j,H.length<=j->j≠c.B:=fun j hj=>(h.at hj).1
 obtain⟨tok,hb⟩:=h.b;have hm:=h.m;rw[hp.rest]at hb;rw[hp.mp]at hm;have hlook:=fun (u:List Blk) (T:List (Option Nat))=>qbB (U:=⟨H++u,T⟩) (qa hm u) hp.nodup hv
 have hve:=hp.vars v (qoZ hv);have hvw:=zk hve;have hvv:=Wp hve;have hil:=(qoX.1 hv).1;have hill:i<lv.length:=by rw[hp.len];exact hil
 simp only[qL,qpp,qpl]at hb;simp[-getElem?_pos,qa hb,hlook,hv,hil,je];by_cases hm0:v.mode=0
 . have hc:=jS v.value.toNat (by omega);rw[Int.toNat_of_nonneg hvv.1]at hc;have hVl:((List.range 16).map fun k=>if v.value.toNat.testBit k=true then 1 else 0).length=16:=(by simp);have hwo:=YR h.ok v.value.toNat;have hval:=fun b=>Zx h.ok b (n:=v.value.toNat) (by omega)
   generalize ((List.range 16).map fun k=>if v.value.toNat.testBit k=true then 1 else 0)=V at *;simp[-getElem?_pos,hm0];refine qc.call hc (by simp) ?_;simp[-getElem?_pos,hVl,qk hVl,zd hVl (show (qq q9).length=16 from rfl),qO];refine⟨d,V,rfl,h.app _,qV.refl d,hwo,fun b=>?_⟩;unfold zS qf4;dsimp only;rw[if_pos hm0,hval b];omega
 . have hlev:=hp.lev i v l hv hl hm0;have hwn:v.width=(v.width.toNat:Int):=(by omega);have hln:l=(l.toNat:Int):=(by omega);generalize hwN:v.width.toNat=w at *;generalize hlN:l.toNat=L at *;have hgl:∀ u:List Blk,True:=fun _=>trivial
   have hl':lv[i]?=some (L:Int):=(by rw[hl,hln]);simp[-getElem?_pos,hm0,hwn,je];refine yV w (fun k ev U=>ev 0=.ptr c.B 0/\ev 4=.ptr H.length 0/\ev 5=.int .i64 (i:Int)/\ev 6=.ptr (H.length+1) 0/\ev 7=.ptr (H.length+2) 0/\ev 30=.int .i64 (w:Int)/\ev 31=.int .i64 (k:Int) /\
    ∃ d' W,BX c H d' U.H/\qV d d'/\qU d' W/\U.H[H.length]?=some (.cells (qq q9))/\U.H[H.length+1]?=some (.cells (qx v))/\U.H[H.length+2]?=some (.cells (qq W)) /\
     ∀ b j,j<16->qn d' b W j=(decide (j<k)&&b (L+w-1-j))) ?_ ?_ ?_
   . refine⟨by simp,by simp,by simp,by simp,by simp,by simp,by simp,d,q9,h.app _,qV.refl d,y9 h.ok,lk0,?_,lk2,fun b j hj=>by rw[yC h.ok];simp⟩;have:=lk1 (H:=H) (p:=Blk.cells (qq q9)) (q:=Blk.cells (qx v)) (t:=[.cells (qq q9)]);simp only[qx,hwn]at this ⊢;exact this
   . rintro k ev ⟨H1,T1⟩ R hR hkw ⟨e0,e4,e5,e6,e7,e30,e31,d1,W,hx,hg,hW,bZ,bV,bW,hbits⟩;dsimp only at hx bZ bV bW;obtain⟨t1,hb1⟩:=hx.b;rw[hp.rest]at hb1;simp only[qL,qpp,qpl]at hb1;simp only[qx,hwn]at bV;have hWl:=hW.1;have hk':(k:Int)<w:=(by omega);have hk16:k<16:=(by omega);have hk16':(k:Int)<16:=(by omega);have hk1:k+1<=16:=hk16;have hwk:=wr (n:=(k:Int)+1) (by omega) (by omega);have hw1:=wr (n:=(L:Int)+w) (by omega) (by omega);have hw2:=wr (n:=(L:Int)+w-1) (by omega) (by omega);have hw3:=wr (n:=(L:Int)+w-1-k) (by omega) (by omega);have hlevel:(L:Int)+w-1-k=((L+w-1-k:Nat):Int):=(by omega);rw[hlevel]at hw3;have hbit:=fun T=>(bit417 d1 hx.ok (L+w-1-k) (by omega) H1 T).leq (args:=[.agg [.sl 3 (d1.map qE) t1],.int .i64 ((L+w-1-k:Nat):Int)]) (by simp[zn,Leq,jO.refl])
     have hLv:∀ b:Nat->Bool,b (L+w-1-k)=b (L+w-1-k):=fun _=>rfl
     generalize hLL:L+w-1-k=LL at *;simp[-getElem?_pos,e0,e4,e5,e6,e7,e30,e31,hk'];rw[qI rfl];simp[-getElem?_pos,qP,e0,e4,e5,e6,e7,e30,e31,hb1,bV,hl',hill,hw1,hw2,hlevel,hw3];refine qc.acall (hbit T1).glo ?_;have hxc:=hx;rintro v2 ⟨H2,T2⟩ ⟨hk2,rfl|⟨d2,i2,t2,rfl,g2,hd2,hi2,hm2,hs2⟩⟩
     . simp[-getElem?_pos,qP,e0,e4,e5,e6,e7,e30,e31];exact qc.acall (kK c (Q:=fun _ _=>False) (hx.same hk2).kp0 _ _) fun _ _ h=>h.elim
     . simp[-getElem?_pos,qP,e0,e4,e5,e6,e7,e30,e31];refine qc.acall (Zj c (hx.self.same hk2) hd2 i2 _) ?_;rintro v3 ⟨H3,T3⟩ ⟨rfl,hxx⟩;have hx3:=hx.call hxx;have up:∀ {k:Nat} {x:Blk},H.length<=k->H1[k]?=some x->H3[k]?=some x:=fun {k x} hl hq=>hxx.loc hq (hk k hl)
       have cW:=up (by omega) bW;have hl3:=(qoX.1 cW).1;have hkl:k<W.length:=(by omega);simp[-getElem?_pos,qP,e0,e4,e5,e6,e7,e30,e31,cW,hWl,hk16,hk16',hk1,yz,hwk];refine hR _ _ ⟨by simp[e0],by simp[e4],by simp[e5],by simp[e6],by simp[e7],by simp[e30],by simp,d2,W.set k i2,hx3.set (by omega) _,hg.trans g2,(hW.grown g2).set hi2,?_,?_,qo2 hl3,fun b j hj=>?_⟩
       . rw[qoY (by omega)];exact up (by omega) bZ
       . rw[qoY (by omega)];have:=up (by omega) bV;simp only[qx,hwn]at this ⊢;exact this
       . rw[kZ hkl];by_cases hjk:j=k
         . subst hjk;rw[if_pos rfl,hs2 b,hLL];have ht:=hx.ok.two
           cases hbb:b LL with
           | true=>simp[qco hx.ok]
           | false=>simp[Je hx.ok]
         . rw[if_neg hjk,zx hx.ok g2 hW b hj,hbits b j hj];by_cases h1:j<k
           . have h2:j<k+1:=(by omega);simp[h1,h2]
           . have h2:¬ j<k+1:=(by omega);simp[h1,h2]
   . rintro ev ⟨H1,T1⟩ ⟨e0,e4,e5,e6,e7,e30,e31,d1,W,hx,hg,hW,bZ,bV,bW,hbits⟩;dsimp only at hx bZ bV bW;have hWl:=hW.1;have hHl:=(qoX.1 bZ).1;simp[-getElem?_pos,e0,e4,e7,e30,e31,bW,bZ,hWl,qk hWl,zd hWl (show (qq q9).length=16 from rfl),qO,hHl];refine⟨d1,W,rfl,hx.set (by omega) _,hg,hW,fun b=>?_⟩;unfold zS qf4;dsimp only;rw[if_neg hm0,hwN,hlN,zi (hbits b),qeu _ (by omega)]
end
end
section
def Q9 (vs:List Var)(lv:List Int)(b:Nat->Bool):List Int:=(vs.zip lv).map fun q=>qf4 q.1 q.2 b
theorem JB {vs:List Var}{lv:List Int}(h:lv.length=vs.length)(b:Nat->Bool):(Q9 vs lv b).length=vs.length:=by simp[Q9,h]
theorem qcB {vs:List Var}{lv:List Int}{i:Nat}{v:Var}{l:Int}(hv:vs[i]?=some v)(hl:lv[i]?=some l)(b:Nat->Bool):(Q9 vs lv b)[i]?=some (qf4 v l b):=by
 unfold Q9;rw[qpj,qqi (z:=(v,l)) |>.2 ⟨hv,hl⟩];rfl
theorem QT:∀ {vs:List Var} {a:List Int} {i:Nat} {v:Var} {x:Int},(vs.map (·.name)).Nodup->vs[i]?=some v->a[i]?=some x->j6 ((vs.zip a).map fun q=>⟨q.1.name,q.2⟩) v.name=some (qM x)
 | [],_,i,v,x,_,hv,_=>by simp at hv
 | w::vs,[],i,v,x,_,_,hx=>by simp at hx
 | w::vs,y::a,0,v,x,hn,hv,hx=>by
  simp at hv hx;subst hv hx;simp[j6]
 | w::vs,y::a,i+1,v,x,hn,hv,hx=>by
  simp only[qo9,qrk]at hn;have ih:=QT (vs:=vs) (a:=a) (i:=i) (v:=v) (x:=x) hn.2 (by simpa using hv) (by simpa using hx);have hne:¬ w.name=v.name:=fun e=>hn.1 (qpx.2 ⟨v,qoZ (i:=i) (by simpa using hv),e.symm⟩)
  have hne':(w.name==v.name)=false:=by simpa using hne
  unfold j6 at ih ⊢;simp only[qrP,qo9,qrm,hne'];exact ih
theorem qew {v:Var}(h:jY v=0)(l:Int)(b:Nat->Bool):0<=qf4 v l b/\qf4 v l b<=65535:=by
 have h1:=Wp h;have h2:=zk h;unfold qf4;split
 . omega
 . have:=yK (fun k=>b (l.toNat+v.width.toNat-1-k)) v.width.toNat;have h3:2 ^ v.width.toNat<=2 ^ 8:=qpr (by omega) (by omega);omega
theorem qh2 {p:Problem}{lv:List Int}(hl:lv.length=p.vars.length)(hn:(p.vars.map (·.name)).Nodup)(hve:∀ v∈p.vars,jY v=0){i:Nat}{v:Var}{l:Int}(hv:p.vars[i]?=some v)(hli:lv[i]?=some l)(b:Nat->Bool) :
 (j6 (Qq p.vars (Q9 p.vars lv b)) v.name).getD 0=qf4 v l b:=by
 have h1:=QT hn hv (qcB hv hli b);unfold Qq;rw[if_pos (JB hl b),h1];have h2:=qew (hve v (qoZ hv)) l b;exact Ji h2.1 h2.2
theorem J5 {V:List Nat}(hV:V.length=16):∀ {Ws:List (List Nat)} {i:Nat},(∀ w∈Ws,w.length=16)->i<Ws.length->zp (Ws.flatMap qq) (i*16) (qq V)=(Ws.set i V).flatMap qq
 | [],i,_,h=>by simp at h
 | a::r,0,h,_=>by
  rw[qpn,qqA,qrO,qpn];exact we _ _ _ (by rw[jo,jo,h a (by simp),hV])
 | a::r,i+1,h,hi=>by
  have hi':i<r.length:=by simpa using hi
  rw[qpn,qrp,qpn,<- J5 hV (Ws:=r) (i:=i) (fun w hw=>h w (by simp[hw])) hi',qro,qqz];have:=wY (c:=r.flatMap qq) (qq V) (qq a) (i*16)
  rwa[jo,h a (by simp)]at this
def qfG (p:Problem)(e:Ex):Prop:=∀ x∈pre e,qo x=0/\x.op≠3/\x.op≠24/\(x.op=2->vI p.vars x.name=true)/\x.args.length<=1000
theorem qfG.arg {p:Problem}{e a:Ex}(h:qfG p e)(ha:a∈e.args):qfG p a:=fun x hx=>h x (by rw[jk];exact qpI _ (vG.2 ⟨a,ha,hx⟩))
theorem qfG.self {p:Problem}{e:Ex}(h:qfG p e):qo e=0/\e.op≠3/\e.op≠24/\(e.op=2->vI p.vars e.name=true)/\e.args.length<=1000:=h e (by rw[jk];simp)
section
variable {c:Bc}{d:List Nd}{H:List Blk}{T:List (Option Nat)}
def qdc:List (Nat×Sch×List Nat):=[(13,.step 1 [8,7,6,5] (.step 2 [8,7,6,5,4,3] (.step 3 [8,7,6,5,4] (.step 4 [8,7,6,5] (.fork (.cons 0 (.step 5 [8,7,6] (.step 6 [8,7] (.step 7 [8] (.step 8 [] (.done))))) (.cons 5 (.step 0 [8,7,6] (.step 6 [8,7] (.step 7 [8] (.step 8 [] (.done))))) (.nil))))))),[5,6]),(15,.step 0 [5,4] (.step 1 [5,4,3,2] (.step 2 [5,4,3] (.step 3 [5,4] (.step 4 [5] (.step 5 [] (.done)))))),[4]),(17,.step 0 [6,5] (.step 1 [6,5] (.step 2 [6,5,4,3] (.step 3 [6,5,4] (.step 4 [6,5] (.step 5 [6] (.step 6 [] (.done))))))),[5]),(19,.step 0 [5,4] (.step 1 [5,4,3,2] (.step 2 [5,4,3] (.step 3 [5,4] (.step 4 [5] (.step 5 [] (.done)))))),[4]),(21,.step 0 [8,7,6] (.step 1 [8,7,6,3,2] (.step 2 [8,7,6,3] (.step 3 [8,7,6] (.step 4 [8,7,6,5] (.step 5 [8,7,6] (.step 6 [8,7] (.step 7 [8] (.step 8 [] (.done))))))))),[6]),(23,.step 0 [6,4] (.step 1 [6,4,3,2] (.step 2 [6,4,3] (.step 3 [6,4] (.fork (.cons 4 (.step 5 [6] (.step 6 [] (.done))) (.cons 5 (.step 4 [6] (.step 6 [] (.done))) (.nil))))))),[4]),(24,.step 0 [8,7,2,1] (.step 1 [8,7,2] (.step 2 [8,7] (.step 3 [8,7,5,4] (.step 4 [8,7,5] (.step 5 [8,7] (.step 6 [8,7] (.step 7 [8] (.step 8 [] (.done))))))))),[7]),(25,.step 0 [10,9] (.step 1 [10,9,2] (.step 2 [10,9] (.step 3 [10,9,5,4] (.step 4 [10,9,5] (.step 5 [10,9] (.step 6 [10,9,8,7] (.step 7 [10,9,8] (.step 8 [10,9] (.step 9 [10] (.step 10 [] (.done))))))))))),[9])]
theorem Vw (h:BX c H d H){p:Problem}{lv:List Int}(hp:PB p lv c)(e:Ex)(he:qfG p e)(h0:e.args=[]) :
 qg Tryz.prog (XG c) 132 [.ptr c.B 0,.agg (qt e)] ⟨H,T⟩ (WQ c d H fun b=>wR (Qq p.vars (Q9 p.vars lv b)) e):=by
 refine qg.kO ⟨false,qdc,[],[]⟩ qe Tryz.func132 rfl (by kernel_rfl) ?_;obtain⟨hn,h3,h24,h2,_⟩:=he.self;obtain⟨o1,o2,o3,o4,o5,o6,o7,o8⟩:=jh hn;have hop:e.op=1\/e.op=2:=by
  unfold qi at o5;rw[h0]at o5;split at o5
  . simp at o5
  . simp only[qpy,qqg,decide_eq_true_eq]at o5;unfold zs at o5
    repeat' split at o5
    all_goals omega
 have hk:∀ j,H.length<=j->j≠c.B:=fun j hj=>(h.at hj).1
 have henc:=qd e;rw[h0]at henc;simp only[qpv]at henc;rw[henc];simp[-getElem?_pos,qw,je,qO];have hx1:=h.app [.cells [.ptr c.B 0],.cells [.int .i64 e.op,.int .i64 e.n,.str e.name,.sl 4 [] .none],.cells (qq q9)];refine qJ.gen (fun n ev U=>ev 2=.ptr H.length 0/\ev 3=.ptr (H.length+1) 0/\ev 4=.ptr (H.length+2) 0/\ev 15=.int .i64 0/\ev 16=.int .i64 0/\BX c H d U.H/\U.H[H.length]?=some (.cells [.ptr c.B 0])/\U.H[H.length+1]?=some (.cells [.int .i64 e.op,.int .i64 e.n,.str e.name,.sl 4 [] .none])/\U.H[H.length+2]?=some (.cells (qq q9))) 0 ?_ ?_
 . exact⟨by simp,by simp,by simp,by simp,by simp,hx1,lk0,lk1,lk2⟩
 rintro n ev ⟨H1,T1⟩ R hR ⟨e2,e3,e4,e15,e16,hx,bB,bE,bZ⟩;dsimp only at hx bB bE bZ;have hZl:=(qoX.1 bZ).1;simp[-getElem?_pos,e2,e3,e4,e15,e16,bE];rcases hop with hop|hop
 . have hnn:=o3 hop;have hc:=jS e.n.toNat (by omega);rw[Int.toNat_of_nonneg hnn.1]at hc;have hVl:((List.range 16).map fun k=>if e.n.toNat.testBit k=true then 1 else 0).length=16:=(by simp);have hwo:=YR h.ok e.n.toNat;have hval:=fun b=>Zx h.ok b (n:=e.n.toNat) (by omega)
   generalize ((List.range 16).map fun k=>if e.n.toNat.testBit k=true then 1 else 0)=V at *;simp[-getElem?_pos,hop,e2,e3,e4,bE];refine qc.call hc (by simp) ?_;simp[-getElem?_pos,e2,e3,e4,bZ,hZl,hVl,qk hVl,zd hVl (show (qq q9).length=16 from rfl),qO];refine⟨d,V,rfl,hx.set (by omega) _,qV.refl d,hwo,fun b=>?_⟩;dsimp only;rw[wQ];unfold zS WK;rw[if_pos hop,hval b];omega
 . have hva:=h2 hop;unfold vI at hva;rw[qpq]at hva;obtain⟨v,hm,hvn⟩:=hva;have hvn:v.name=e.name:=(by simpa using hvn);obtain⟨i,hi⟩:=qpD hm;have hil:=(qoX.1 hi).1;obtain⟨l,hl⟩:∃ l,lv[i]?=some l:=⟨_,qo1 (by rw[hp.len];exact hil)⟩;have hw:=qbz hx.self hp hi hl (T:=T1);rw[hvn]at hw;have ht:¬ e.op=1:=(by omega);simp[-getElem?_pos,hop,e2,e3,e4,bE,bB];refine qc.acall hw ?_;rintro vv ⟨H2,T2⟩ ⟨d2,W,rfl,hxx,hg2,hW,hv2⟩;dsimp only at hv2;have cZ:=hxx.loc bZ (hk _ (by omega));have hl2:=(qoX.1 cZ).1;dsimp only at cZ hl2;have hWl:=hW.1;simp[-getElem?_pos,e2,e3,e4,cZ,hl2,hWl,qk hWl,zd hWl (show (qq q9).length=16 from rfl),qO];refine⟨d2,W,rfl,(hx.call hxx).set (by omega) _,hg2,hW,fun b=>?_⟩;rw[hv2 b];dsimp only;rw[wQ];unfold WK;rw[if_neg ht,if_pos hop,<- hvn,qh2 hp.len hp.nodup hp.vars hi hl b]
end
end
section
theorem qkW (n:Nat):(List.replicate n (qq q9)).flatten=(List.replicate n q9).flatMap qq:=by rw[qqC,List.map_replicate]
theorem qhz {x:Nat}:∀ l:List Nat,jR (x:Int) (l.map fun n:Nat=>(n:Int))=qml x l
 | []=>rfl
 | [_]=>rfl
 | a::b::r=>by
  simp only[qo9,jR,qml,qhz r];congr 2
  . rw[qpR,decide_eq_true_iff,decide_eq_true_iff];omega
  . rw[qpR,decide_eq_true_iff,decide_eq_true_iff];omega
section
variable {c:Bc}{d:List Nd}{H:List Blk}{T:List (Option Nat)}
theorem qis (h:BX c H d H){h1 h2:Nat}{t x y:Nat}(b1:H[h1]?=some (.cells [.ptr c.B 0]))(b2:H[h2]?=some (.cells [.int .i64 (t:Int)]))(ht:t<d.length)(hx:x<d.length)(hy:y<d.length) :
 qg Tryz.prog (XG c) 187 [.int .i64 x,.int .i64 y,.ptr h1 0,.ptr h2 0] ⟨H,T⟩ (NQ c d H fun b=>evD d b t&&evD d b x||!evD d b t&&evD d b y):=by
 refine qg.k qe Tryz.func187 rfl (by kernel_rfl) ?_;simp[-getElem?_pos,b1,b2];refine qc.acall (qir c h ht hx hy) ?_;rintro v ⟨H2,T2⟩ ⟨d2,y,rfl,hxx2,hg2,hy2,hv2⟩;simp[-getElem?_pos];exact⟨d2,y,rfl,hxx2,hg2,hy2,hv2⟩
theorem Vv (h:BX c H d H){p:Problem}{lv:List Int}(hp:PB p lv c)(e:Ex)(he:qfG p e)(h0:e.args≠[])
 (ih:∀ a∈e.args,∀ d H T,BX c H d H->qg Tryz.prog (XG c) 132 [.ptr c.B 0,.agg (qt a)] ⟨H,T⟩ (WQ c d H fun b=>wR (Qq p.vars (Q9 p.vars lv b)) a)) :
 qg Tryz.prog (XG c) 132 [.ptr c.B 0,.agg (qt e)] ⟨H,T⟩ (WQ c d H fun b=>wR (Qq p.vars (Q9 p.vars lv b)) e):=by
 obtain⟨val,hvale⟩:∃ val:(Nat->Bool)->Ex->Int,∀ b e,wR (Qq p.vars (Q9 p.vars lv b)) e=val b e:=⟨_,fun _ _=>rfl⟩;simp only[hvale]at ih ⊢;refine qg.kO ⟨false,qdc,[],[]⟩ qe Tryz.func132 rfl (by kernel_rfl) ?_;obtain⟨hn,h3,h24,h2,hal⟩:=he.self;have hk:∀ j,H.length<=j->j≠c.B:=fun j hj=>(h.at hj).1
 have hpos:=qpe.2 h0;have hpos':¬ (e.args.length:Int)=0:=by omega
 have hle:(e.args.length:Int)<=549755813888:=by omega
 rw[qd e];simp[-getElem?_pos,qw,je,qO,hpos',hle,h0,qkW];refine qJ.listR e.args (fun dn ev U=>ev 2=.ptr H.length 0/\ev 3=.ptr (H.length+1) 0/\ev 4=.ptr (H.length+2) 0/\ev 5=.ms (H.length+3) 0 e.args.length 16/\ev 14=.sl 4 (e.args.map qt) .none/\ev 15=.int .i64 e.args.length/\ev 16=.int .i64 dn.length /\
  ∃ (d':List Nd) (Ws:List (List Nat)),BX c H d' U.H/\qV d d'/\Ws.length=e.args.length/\(∀ w∈Ws,qU d' w)/\(∀ b,(Ws.take dn.length).map (zS d' b)=dn.map (val b)) /\
   U.H[H.length]?=some (.cells [.ptr c.B 0])/\U.H[H.length+1]?=some (.cells [.int .i64 e.op,.int .i64 e.n,.str e.name,.sl 4 (e.args.map qt) .none])/\U.H[H.length+2]?=some (.cells (qq q9))/\U.H[H.length+3]?=some (.cells (Ws.flatMap qq))) ?_ ?_ ?_
 . refine⟨by simp,by simp,by simp,by simp,by simp,by simp,by simp,d,List.replicate e.args.length q9,?_,qV.refl d,by simp,fun w hw=>?_,fun b=>by simp,?_,?_,?_,?_⟩
   . exact h.app _
   . rw[qqk]at hw;rw[hw.2];exact y9 h.ok
   . exact lk0
   . exact lk1
   . exact lk2
   . exact lk3
 . rintro dn a rest ev ⟨H1,T1⟩ R hR hd hx hlt ⟨e2,e3,e4,e5,e14,e15,e16,d1,Ws,hx1,hg,hWl,hWs,hv,bB,bE,bZ,bW⟩;dsimp only at hx1 bB bE bZ bW;have ham:=qoZ hx;have hdw:=wr (n:=(dn.length:Int)+1) (by omega) (by omega);have hlt':(dn.length:Int)<e.args.length:=(by omega);have hH1l:=(qoX.1 bW).1;have hihx:=hx1.self.app [.cells (qt a)];have hih:=fun T=>ih a ham d1 _ T (hx1.app [.cells (qt a)]).self
   have hflen:=YB (Ws:=Ws) fun w hw=>(hWs w hw).1
   rw[hWl]at hflen;have hfit:dn.length*16+16<=e.args.length*16:=(by omega);have hput:∀ {V:List Nat},V.length=16->zp (Ws.flatMap qq) (dn.length*16) (qq V)=(Ws.set dn.length V).flatMap qq:=fun {V} hV=>J5 hV (fun w hw=>(hWs w hw).1) (by omega)
   rw[qd a]at hih;simp[-getElem?_pos,e2,e3,e4,e5,e14,e15,e16,hlt,hlt',hx,qd a,qa bB];refine qc.acall (hih T1) ?_;rintro v ⟨H2,T2⟩ ⟨d2,V,rfl,hxx2,hg2,hV,hv2⟩;dsimp only at hv2;have hVl:=hV.1;have hx2:=(hx1.app [.cells (qt a)]).call (by rw[qd a];exact hxx2);have up:∀ {k:Nat} {x:Blk},H.length<=k->H1[k]?=some x->H2[k]?=some x:=fun {k x} hl hq=>hxx2.loc (qa hq _) (hk k hl)
   have cW:=up (by omega) bW;have hl2:=(qoX.1 cW).1;simp[-getElem?_pos,e2,e3,e4,e5,e14,e15,e16,hlt,hlt',cW,hflen,hfit,hVl,hput hVl,hdw];refine hR _ _ ⟨by simp[e2],by simp[e3],by simp[e4],by simp[e5],by simp[e14],by simp[e15],by simp,d2,Ws.set dn.length V,hx2.set (by omega) _,hg.trans hg2,by simp[hWl],fun w hw=>?_,fun b=>?_,?_,?_,?_,qo2 hl2⟩
   . rcases qqp hw with hw|rfl
     . exact (hWs w hw).grown hg2
     . exact hV
   . have h1:(Ws.set dn.length V).take (dn++[a]).length=Ws.take dn.length++[V]:=by
      rw[qo3,qpu,qpw,qo2 (by omega),List.take_set_of_le (qo7 _)];rfl
     rw[h1,qpV,qpV,<- hv b];congr 1
     . apply qqa;intro w hw;exact qeO hx1.ok hg2 (hWs w (qpZ hw)) b
     . simp only[qo9,qpv];rw[hv2 b]
   . rw[qoY (by omega)];exact up (by omega) bB
   . rw[qoY (by omega)];exact up (by omega) bE
   . rw[qoY (by omega)];exact up (by omega) bZ
 . rintro ev ⟨H1,T1⟩ ⟨e2,e3,e4,e5,e14,e15,e16,d1,Ws,hx,hg,hWl,hWs,hv,bB,bE,bZ,bW⟩;dsimp only at hx bB bE bZ bW;have hvf:∀ b,Ws.map (zS d1 b)=e.args.map (val b):=fun b=>by
    have:=hv b
    rwa[qo6 (by omega)]at this
   have hW16:∀ w∈Ws,w.length=16:=fun w hw=>(hWs w hw).1
   have hflen:=YB hW16;have hnode:∀ b,val b e=opW e.op (Ws.map (zS d1 b)):=fun b=>by
    rw[<- hvale,wQ];unfold WK;rw[hvf b];have:(List.map (wR (Qq p.vars (Q9 p.vars lv b))) e.args)=e.args.map (val b):=qqa fun a _=>hvale b a
    rw[this];have h1:e.op≠1/\e.op≠2:=by
     obtain⟨o1,o2,o3,o4,o5,o6,o7,o8⟩:=jh hn;unfold qi at o5;constructor
     . intro h;rw[h]at o5;simp[zs]at o5;exact h0 o5
     . intro h;rw[h]at o5;simp[zs]at o5;exact h0 o5
    rw[if_neg h1.1,if_neg h1.2,if_neg h3,if_neg h24]
   have fin:∀ {H4:List Blk} {d4:List Nd} {V:List Nat} {τ:St},τ.H=H4.set (H.length+2) (.cells (qq V))->BX c H d4 H4->qV d1 d4->qU d4 V->(∀ b,zS d4 b V=opW e.op (Ws.map (zS d1 b)))->WQ c d H (fun b=>val b e) (.agg (qq V)) τ:=fun {H4 d4 V τ} hτ hx4 hg4 hV hvv=>by
    refine⟨d4,_,rfl,?_,hg.trans hg4,hV,fun b=>by rw[hvv];exact (hnode b).symm⟩;rw[hτ];exact hx4.set (by omega) _
   have hZl:=(qoX.1 bZ).1;obtain⟨o1,o2,o3,o4,o5,o6,o7,o8⟩:=jh hn;have hop:((e.op=4\/e.op=5\/e.op=6\/e.op=25)/\e.args.length=1)\/(e.op=22/\e.args.length=3)\/(e.op=23/\3<=e.args.length)\/(7<=e.op/\e.op<=21/\e.args.length=2):=by
    unfold qi at o5;split at o5
    . simp only[decide_eq_true_eq]at o5;omega
    . simp only[decide_eq_true_eq]at o5;unfold zs at o5
      repeat' split at o5
      all_goals omega
   have hZ16:(qq q9).length=16:=rfl;have ht:=hx.ok.two;rcases hop with ⟨hop,h1⟩|⟨hop,h1⟩|⟨hop,h1⟩|⟨hop7,hop21,h1⟩
   . -- one operand
     rw[h1]at hWl e5;obtain⟨w0,rfl⟩:∃ w,Ws=[w]:=List.length_eq_one_iff.1 hWl;have hw0:=hWs w0 (by simp);have hw0l:=hw0.1;simp only[qpn,qrA,qpB]at bW;rcases hop with hop|hop|hop|hop
     . simp[-getElem?_pos,e2,e3,e4,e5,e15,e16,bE,hop,h1];rw[qI rfl];simp[-getElem?_pos,qP,e2,e3,e4,e5,bB,bW,hw0l,qk hw0l];have key:=vB hx.self hw0 (T:=T1);refine⟨qc.acall key ?_,qc.acall key ?_⟩
       all_goals
        rintro v ⟨H2,T2⟩ ⟨d2,t,rfl,hxx2,hg2,ht2,hv2⟩;dsimp only at hv2;have hx2:=hx.call hxx2;have cB:=hxx2.loc bB (hk _ (by omega));dsimp only at cB;simp[-getElem?_pos,qP,e2,cB];refine qc.acall (v7 c hx2.self ht2) ?_;rintro v ⟨H3,T3⟩ ⟨d3,u,rfl,hxx3,hg3,hu,hv3⟩;dsimp only at hv3;have hx3:=hx2.call hxx3;have cZ:=hxx3.loc (hxx2.loc bZ (hk _ (by omega))) (hk _ (by omega));have hl3:=(qoX.1 cZ).1;dsimp only at cZ hl3;simp[-getElem?_pos,qP,e2,e4];refine qc.call (z8 u) (by simp) ?_;have cut1:(qq (u::List.replicate 15 0)).take 16=qq (u::List.replicate 15 0):=qk rfl;have put1:zp (qq q9) 0 (qq (u::List.replicate 15 0))=qq (u::List.replicate 15 0):=zd rfl rfl;have kv:=fin (H4:=H3) (d4:=d3) (V:=u::List.replicate 15 0) (τ:=⟨H3.set (H.length+2) (.cells (qq (u::List.replicate 15 0))),T3⟩) rfl hx3 (hg2.trans hg3) (qaa hx3.ok hu) (fun b=>by
         rw[WF hx3.ok,hv3,hv2,wS,hop];simp[opW,unW,zS])
        simp only[List.reduceReplicate]at kv cut1 put1;simp[-getElem?_pos,qP,e4,cZ,qO,put1,hl3,cut1];exact kv
     . simp[-getElem?_pos,e2,e3,e4,e5,e15,e16,bE,hop,h1];rw[qI rfl];simp[-getElem?_pos,qP,e2,e3,e4,e5,bB,bW,hw0l,qk hw0l];refine qc.acall (Q2 hx.self hw0) ?_;rintro v ⟨H2,T2⟩ ⟨d2,V,rfl,hxx2,hg2,hV,hv2⟩;dsimp only at hv2;have hVl:=hV.1;have cZ:=hxx2.loc bZ (hk _ (by omega));have hl3:=(qoX.1 cZ).1;dsimp only at cZ hl3;simp[-getElem?_pos,qP,e4,cZ,qO,hVl,zd hVl hZ16,hl3,qk hVl];refine fin rfl (hx.call hxx2) hg2 hV fun b=>?_
       unfold zS;rw[zi (hv2 b),w_inv,hop];rfl
     . have hc0:=jS 0 (by omega);rw[qd1]at hc0;simp only[qqg]at hc0;simp[-getElem?_pos,e2,e3,e4,e5,e15,e16,bE,hop,h1];rw[qI rfl];simp[-getElem?_pos,qP,e2,e3,e4,e5,bB];refine qc.call hc0 (by simp) ?_;simp[-getElem?_pos,qP,e2,e3,e4,e5,bB,bW,hw0l,qk hw0l];refine qc.acall (QZ hx.self (y9 hx.ok) hw0) ?_;rintro v ⟨H2,T2⟩ ⟨d2,V,rfl,hxx2,hg2,hV,hv2⟩;dsimp only at hv2;have hVl:=hV.1;have cZ:=hxx2.loc bZ (hk _ (by omega));have hl3:=(qoX.1 cZ).1;dsimp only at cZ hl3;simp[-getElem?_pos,qP,e4,cZ,qO,hVl,zd hVl hZ16,hl3,qk hVl];refine fin rfl (hx.call hxx2) hg2 hV fun b=>?_
       rw[qb0 (hv2 b),<- ke,w_sub,yJ fun k _=>yC hx.ok b k,hop];simp[opW,unW,zS]
     . simp[-getElem?_pos,e2,e3,e4,e5,e15,e16,bE,hop,h1];rw[qI rfl];simp[-getElem?_pos,qP,e2,e3,e4,e5,bB,bW,hw0l,qk hw0l];refine qc.acall (qnL hx.self hw0) ?_;rintro v ⟨H2,T2⟩ ⟨d2,V,rfl,hxx2,hg2,hV,hv2⟩;dsimp only at hv2;have hVl:=hV.1;have cZ:=hxx2.loc bZ (hk _ (by omega));have hl3:=(qoX.1 cZ).1;dsimp only at cZ hl3;simp[-getElem?_pos,qP,e4,cZ,qO,hVl,zd hVl hZ16,hl3,qk hVl];refine fin rfl (hx.call hxx2) hg2 hV fun b=>?_
       have hr:=qeN d1 b w0;have hwi:=Ji hr.1 hr.2;unfold zS at hwi ⊢;rw[hv2 b,<- KP _ 16 (by omega),hop];simp[opW,unW,hwi]
   . -- a choice
     rw[h1]at hWl e5;obtain⟨w0,w1,w2,rfl⟩:∃ w w' w'',Ws=[w,w',w'']:=by
      match Ws,hWl with
      | [a,b,c],_=>exact⟨a,b,c,rfl⟩
     have hw0:=hWs w0 (by simp);have hw0l:=hw0.1;have hw1:=hWs w1 (by simp);have hw1l:=hw1.1;have hw2:=hWs w2 (by simp);have hw2l:=hw2.1;simp only[qpn,qrA,qpB]at bW;have c0:(qq w0++(qq w1++qq w2)).take 16=qq w0:=(by rw[qpU (by simp[hw0l]),qk hw0l]);have c1:((qq w0++(qq w1++qq w2)).drop 16).take 16=qq w1:=by
      rw[qqr,qpz (by simp[hw0l]),jo,hw0l,qql,qqm,qpl,qpU (by simp[hw1l]),qk hw1l]
     have c2:(qq w0++(qq w1++qq w2)).drop 32=qq w2:=by
      rw[qqr,qpz (by simp[hw0l]),jo,hw0l,qpl,qqr,qpz (by simp[hw1l]),jo,hw1l];rfl
     have cl:(qq w0++(qq w1++qq w2)).length=48:=(by simp[hw0l,hw1l,hw2l]);generalize qq w0++(qq w1++qq w2)=F at *;simp[-getElem?_pos,e2,e3,e4,e5,e15,e16,bE,hop,h1];rw[qI rfl];simp[-getElem?_pos,qP,e2,e3,e4,e5,bB,bE,bW,hw0l,cl,c0]
     -- what is behind the truth
     have rest:∀ {H2:List Blk} {T2:List (Option Nat)} {d2:List Nd} {t N:Nat},BX c H d2 H2->qV d1 d2->t<d2.length->(∀ b,evD d2 b t=Q6 (qn d1 b w0) 16)->(∀ {k:Nat} {x:Blk},H.length<=k->H1[k]?=some x->H2[k]?=some x)->H2[N]?=some (.cells [.int .i64 (t:Int)])->N≠c.B ->
      qg Tryz.prog (XG c) 186 [.agg (qq w1),.agg (qq w2),.fn 187 [] [.ptr H.length 0,.ptr N 0]] ⟨H2,T2⟩ (BQ c d2 H2 fun b k=>if Q6 (qn d1 b w0) 16=true then qn d1 b w1 k else qn d1 b w2 k):=by
      intro H2 T2 d2 t N hx2 hg2 ht2 htv up bN hN;have cB:=up (qo7 _) bB;have:=Jn hx2.self (hw1.grown hg2) (hw2.grown hg2) (T:=T2) (g:=187) (first:=[]) (cap:=[.ptr H.length 0,.ptr N 0]) (F:=fun b p q=>Q6 (qn d1 b w0) 16&&p||!Q6 (qn d1 b w0) 16&&q) (fun d3 H3 T3 x y hx3 hg3 hxl hyl=>by
       have key:=qis hx3.self (h1:=H.length) (h2:=N) (t:=t) (x:=x) (y:=y) (T:=T3) (hx3.loc cB (hk _ (qo7 _))) (hx3.loc bN hN) (qpc ht2 hg3.len) hxl hyl;have e:(fun b=>evD d3 b t&&evD d3 b x||!evD d3 b t&&evD d3 b y)=fun b=>Q6 (qn d1 b w0) 16&&evD d3 b x||!Q6 (qn d1 b w0) 16&&evD d3 b y:=by
        funext b;rw[hg3.ev hx2.ok b ht2,htv]
       rw[e]at key;exact key)
      refine this.imp fun v U ⟨d',W,e1,e2,e3,e4,e5⟩=>⟨d',W,e1,e2,e3,e4,fun b k hk=>?_⟩
      rw[e5 b k hk];dsimp only;rw[zx hx.ok hg2 hw1 b hk,zx hx.ok hg2 hw2 b hk];cases Q6 (qn d1 b w0) 16<;>simp
     have Zr:∀ {H4:List Blk} {T4:List (Option Nat)} {d2 d4:List Nd} {V:List Nat},BX c H d4 H4->qV d1 d2->qV d2 d4->qU d4 V->(∀ b k,k<16->qn d4 b V k=if Q6 (qn d1 b w0) 16=true then qn d1 b w1 k else qn d1 b w2 k)->WQ c d H (fun b=>val b e) (.agg (qq V)) ⟨H4.set (H.length+2) (.cells (qq V)),T4⟩:=fun {H4 T4 d2 d4 V} hx4 hg2 hg4 hV hvv=>by
      refine fin rfl hx4 (hg2.trans hg4) hV fun b=>?_
      unfold zS;rw[zi (hvv b),hop,wS];by_cases h:(zh (qn d1 b w0) 16:Int)=0
      . have h':zh (qn d1 b w0) 16=0:=(by omega);simp[opW,h']
      . have h':¬ zh (qn d1 b w0) 16=0:=(by omega);simp[opW,h']
     refine⟨qc.acall (vB hx.self hw0) ?_,qc.acall (vB (hx.app _).self hw0) ?_⟩
     . rintro v ⟨H2,T2⟩ ⟨d2,t,rfl,hxx2,hg2,ht2,hv2⟩;dsimp only at hv2;have hx2:=hx.call hxx2;have up:∀ {k:Nat} {x:Blk},H.length<=k->H1[k]?=some x->H2[k]?=some x:=fun {k x} hl hq=>hxx2.loc hq (hk k hl)
       have cW:=up (by omega) bW;simp[-getElem?_pos,qP,e2,e3,e4,e5];rw[qI rfl];simp[-getElem?_pos,qP,e2,e3,e4,e5,qa cW,cl,c1,c2,hw1l,hw2l,qk hw2l];have hH2l:H.length<=H2.length:=hx2.kp.1;refine qc.acall (rest (hx2.app [.cells [.int .i64 (t:Int)]]) hg2 ht2 hv2 (fun hl hq=>qa (up hl hq) _) lk0 (hk _ hH2l)) ?_;rintro v ⟨H3,T3⟩ ⟨d3,V,rfl,hxx3,hg3,hV,hv3⟩;have hx3:=(hx2.app [.cells [.int .i64 (t:Int)]]).call hxx3;have hVl:=hV.1;have cZ:=hxx3.loc (qa (up (by omega) bZ) _) (hk _ (by omega));have hl3:=(qoX.1 cZ).1;dsimp only at cZ hl3;simp[-getElem?_pos,qP,e4,cZ,qO,hVl,zd hVl hZ16,hl3,qk hVl];exact Zr hx3 hg2 hg3 hV hv3
     . rintro v ⟨H2,T2⟩ ⟨d2,t,rfl,hxx2,hg2,ht2,hv2⟩;dsimp only at hv2;have hx2:=(hx.app _).call hxx2;have up:∀ {k:Nat} {x:Blk},H.length<=k->H1[k]?=some x->H2[k]?=some x:=fun {k x} hl hq=>hxx2.loc (qa hq _) (hk k hl)
       have hH1l:H.length<=H1.length:=hx.kp.1;have bN:=hxx2.loc (lk0 (H:=H1) (p:=Blk.cells [.int .i64 0]) (t:=[])) (hk _ hH1l);have hNl:=(qoX.1 bN).1;have hH13:=(qoX.1 bW).1;have cW:=up (by omega) bW;have up3:∀ {k:Nat} {x:Blk},H.length<=k->H1[k]?=some x->(H2.set H1.length (.cells [.int .i64 (t:Int)]))[k]?=some x:=fun {k x} hl hq=>by
        have:=(qoX.1 hq).1;rw[qoY (by omega)];exact up hl hq
       have dW:=up3 (by omega) bW;simp[-getElem?_pos,qP,e2,e3,e4,e5,bN];rw[qI rfl];simp[-getElem?_pos,qP,e2,e3,e4,e5,dW,cl,c1,c2,hw1l,hw2l,qk hw2l];refine qc.acall (rest (hx2.set hH1l _) hg2 ht2 hv2 up3 (qo2 hNl) (hk _ hH1l)) ?_;rintro v ⟨H3,T3⟩ ⟨d3,V,rfl,hxx3,hg3,hV,hv3⟩;have hx3:=(hx2.set hH1l _).call hxx3;have hVl:=hV.1;have cZ:=hxx3.loc (up3 (by omega) bZ) (hk _ (by omega));have hl3:=(qoX.1 cZ).1;dsimp only at cZ hl3;simp[-getElem?_pos,qP,e4,cZ,qO,hVl,zd hVl hZ16,hl3,qk hVl];exact Zr hx3 hg2 hg3 hV hv3
   . -- ranges
     obtain⟨w0,Wr,rfl⟩:∃ w r,Ws=w::r:=by
      match Ws,hWl with
      | a::r,_=>exact⟨a,r,rfl⟩
      | [],h=>simp at h;omega
     have hw0:=hWs w0 (by simp);have hw0l:=hw0.1;have hWrl:Wr.length+1=e.args.length:=(by simpa using hWl);rw[<- hWrl]at e5;have hsl:zo (.ms (H.length+3) 0 (Wr.length+1) 16) (some (.int .i64 1)) none none=some (.ms (H.length+3) 16 Wr.length 16):=by
      have h2:(1:Int)<=((Wr.length+1:Nat):Int):=(by omega);show (if (0:Int)<=1/\(1:Int)<=((Wr.length+1:Nat):Int)/\((Wr.length+1:Nat):Int)<=((Wr.length+1:Nat):Int)/\((1:Int)=0\/(1:Int)<((Wr.length+1:Nat):Int)) then _ else _)=_;rw[if_pos ⟨by omega,h2,Int.le_refl _,.inr (by omega)⟩];simp
     have hpos1:(0:Int)<(Wr.length:Int)+1:=(by omega);have hin:=qhy hx.self hw0 (A:=H.length+3) (V:=w0) (Ws:=Wr) hw0l (fun w hw=>hWs w (by simp[hw])) (by simpa using bW) (hk _ (by omega)) (by omega) (T:=T1);simp only[qpn]at bW hflen;have c0:(qq w0++Wr.flatMap qq).take 16=qq w0:=(by rw[qpU (by simp[hw0l]),qk hw0l]);have cl:16<=(qq w0++Wr.flatMap qq).length:=(by simp[hw0l]);generalize qq w0++Wr.flatMap qq=F at *;simp[-getElem?_pos,e2,e3,e4,e5,e15,e16,bE,hop];rw[qI rfl];simp[-getElem?_pos,qP,e2,e3,e4,e5,bB,bE,bW,hw0l,cl,c0,hsl,hpos1];refine qc.acall hin ?_;rintro v ⟨H2,T2⟩ ⟨d2,u,rfl,hxx2,hg2,hu,hv2⟩;dsimp only at hv2;have hx2:=hx.call hxx2;have cZ:=hxx2.loc bZ (hk _ (by omega));have hl3:=(qoX.1 cZ).1;dsimp only at cZ hl3;simp[-getElem?_pos,qP,e2,e4];refine qc.call (z8 u) (by simp) ?_;have cut1:(qq (u::List.replicate 15 0)).take 16=qq (u::List.replicate 15 0):=qk rfl;have put1:zp (qq q9) 0 (qq (u::List.replicate 15 0))=qq (u::List.replicate 15 0):=zd rfl rfl;have kv:=fin (H4:=H2) (d4:=d2) (V:=u::List.replicate 15 0) (τ:=⟨H2.set (H.length+2) (.cells (qq (u::List.replicate 15 0))),T2⟩) rfl hx2 hg2 (qaa hx2.ok hu) (fun b=>by
      rw[WF hx2.ok,hv2,hop];have:(Wr.map (zS d1 b))=(Wr.map fun w=>zh (qn d1 b w) 16).map fun n:Nat=>(n:Int):=by
       rw[qqd];rfl
      simp only[opW,qo9,List.tail_cons,this];have hins:=qhz (x:=zh (qn d1 b w0) 16) (Wr.map fun w=>zh (qn d1 b w) 16);show _=b2i (jR (zS d1 b w0) _);rw[<- hins];rfl)
     simp only[List.reduceReplicate]at kv cut1 put1;simp[-getElem?_pos,qP,e4,cZ,qO,put1,hl3,cut1];exact kv
   . -- two operands
     rw[h1]at hWl e5;obtain⟨w0,w1,rfl⟩:∃ w w',Ws=[w,w']:=by
      match Ws,hWl with
      | [a,b],_=>exact⟨a,b,rfl⟩
     have hw0:=hWs w0 (by simp);have hw0l:=hw0.1;have hw1:=hWs w1 (by simp);have hw1l:=hw1.1;have c0:(qq w0++qq w1).take 16=qq w0:=(by rw[qpU (by simp[hw0l]),qk hw0l]);have c1:(qq w0++qq w1).drop 16=qq w1:=(by rw[qqr,qpz (by simp[hw0l]),jo,hw0l];rfl);have cl:(qq w0++qq w1).length=32:=(by simp[hw0l,hw1l]);simp only[qpn,qrA,qpB]at bW;generalize qq w0++qq w1=F at *;have n1:¬ e.op=1:=(by omega);have n2:¬ e.op=2:=(by omega);have n4:¬ e.op=4:=(by omega);have n5:¬ e.op=5:=(by omega);have n6:¬ e.op=6:=(by omega);have n25:¬ e.op=25:=(by omega);have n23:¬ e.op=23:=(by omega);have n22:¬ e.op=22:=(by omega);simp[-getElem?_pos,e2,e3,e4,e5,e15,e16,bE,h1,n1,n2,n4,n5,n6,n25,n23,n22];rw[qI rfl];simp[-getElem?_pos,qP,e2,e3,e4,e5,bB,bE,bW,hw0l,hw1l,cl,c0,c1,qk hw1l];refine qc.acall (qiy hx.self hw0 hw1 hop7 hop21) ?_;rintro v ⟨H2,T2⟩ ⟨d2,V,rfl,hxx2,hg2,hV,hv2⟩;dsimp only at hv2;have hVl:=hV.1;have cZ:=hxx2.loc bZ (hk _ (by omega));have hl3:=(qoX.1 cZ).1;dsimp only at cZ hl3;simp[-getElem?_pos,qP,e4,cZ,qO,hVl,zd hVl hZ16,hl3,qk hVl];refine fin rfl (hx.call hxx2) hg2 hV fun b=>?_
     rw[hv2 b];simp[opW,n22,n23]
theorem qmU {p:Problem}{lv:List Int}(hp:PB p lv c):∀ (e:Ex),qfG p e->∀ d H T,BX c H d H->qg Tryz.prog (XG c) 132 [.ptr c.B 0,.agg (qt e)] ⟨H,T⟩ (WQ c d H fun b=>wR (Qq p.vars (Q9 p.vars lv b)) e):=by
 refine Ex.ind fun e ih he d H T h=>?_
 by_cases h0:e.args=[]
 . exact Vw h hp e he h0
 . exact Vv h hp e he h0 fun a ha d H T h=>ih a ha (he.arg ha) d H T h
end
end
def qmC (v:Var):Nat:=if v.mode=0 then 0 else v.width.toNat
theorem qcS {l:List Var}(hw:∀ v∈l,0<=v.width/\v.width<=8)(hl:l.length<=1000):∀ k,k<=l.length->yp l (Z6 l k)=(((l.take k).map qmC).sum:Nat)/\((l.take k).map qmC).sum<=8*k
 | 0,_=>⟨by simp[Z6,yp],by simp⟩
 | k+1,hk=>by
  obtain⟨i1,i2⟩:=qcS hw hl k (by omega);obtain⟨v,hv⟩:∃ v,l[k]?=some v:=⟨_,qo1 (by omega)⟩;have hwv:=hw v (qoZ hv);have ht:l.take (k+1)=l.take k++[v]:=by rw[qpw,hv];rfl
  have hr:yh l (k:Int)=(v.mode != 0):=by simp[yh,hv]
  rw[J0,hr,ht,qpV,List.sum_append];by_cases hm:v.mode=0
  . have hb:qmC v=0:=(by simp[qmC,hm]);simp only[hm,bne_self_eq_false,qpi,if_false,qo9,qpv,qre,qsi,hb];exact⟨by simpa using i1,by omega⟩
  . have hb:qmC v=v.width.toNat:=(by simp[qmC,hm]);have hm':(v.mode != 0)=true:=(by simpa using hm);rw[if_pos hm'];have hs:yp l (Z6 l k++[(k:Int)])=IntKind.i64.wrap (yp l (Z6 l k)+zz l k):=by
     unfold yp;rw[qqo];simp
    rw[hs,i1];have hwa:zz l k=v.width:=(by simp[zz,hv]);rw[hwa];simp only[qo9,qpv,qre,qsi,hb,qp7];rw[wr (by omega) (by omega)];exact⟨by omega,by omega⟩
theorem qd9 {p:Problem}(hv:qr p=0)(hl:p.vars.length<=1000):yp p.vars (qy p)=((p.vars.map qmC).sum:Nat)/\(ZZ p.vars).length=2 ^ (p.vars.map qmC).sum:=by
 have hw:∀ v∈p.vars,0<=v.width/\v.width<=8:=fun v hm=>by have:=zk (jA hv v hm);omega
 have h1:=qcS hw hl p.vars.length (qo7 _);rw[qqD]at h1;have hr:qy p=Z6 p.vars p.vars.length:=by unfold qy;rw[if_neg (by simpa using hv)]
 rw[hr];exact⟨h1.1,qcE p.vars⟩
noncomputable def Z3 (p:Problem)(l:List Ex):Bool:=decide (qr p=0)&&(l.all (wl p.vars)&&yM p.vars l)
theorem Qc (p:Problem)(l:List Ex)(h:VQ p)(hv20:p.vars.length<=20)(hb:yp p.vars (qy p)<=18)(hfl:Fits l)(hx:∀ e∈l,Wen e/\hgt e<=1000/\(pre e).length<=100000) :
 Pure Tryz.prog GG 85 [.agg (qL p),.sl 4 (l.map qt) .none] (.bool (Z3 p l)):=by
 refine Pure.k qe Tryz.func85 rfl (by kernel_rfl) ?_;have h0:0<=yp p.vars (qy p):=by
  by_cases hv:qr p=0
  . rw[(qd9 hv (by omega)).1];omega
  . have:qy p=[]:=by unfold qy;rw[if_pos (by simpa using hv)]
    rw[this];simp[yp]
 have ha:=qiF p h hv20 h0 (by omega);have hp:2 ^ (yp p.vars (qy p)).toNat<=2 ^ 18:=qpr (by omega) (by omega);have hf:=qkX p l (2 ^ (yp p.vars (qy p)).toNat) h hfl hx (by omega);have hr:(ZR p l (2 ^ (yp p.vars (qy p)).toNat)).2≠18/\decide ((ZR p l (2 ^ (yp p.vars (qy p)).toNat)).2=0)=Z3 p l:=by
  unfold ZR;by_cases hg:qd5 p l (2 ^ (yp p.vars (qy p)).toNat:Nat)=true
  . rw[if_pos hg];simp only[qd5,qo0,decide_eq_true_eq]at hg;obtain⟨hv,_,_,hk⟩:=hg;have hab:=qd9 hv (by omega);have hs:=qkL (vs:=p.vars) (l:=l) (k:=2 ^ (yp p.vars (qy p)).toNat) (by rw[hab.2,hab.1];simp);have hsb:Z3 p l=yM p.vars l:=(by simp[Z3,hv,hk]);rw[hsb,<- hs.1];generalize qbo p.vars l _ (qX p.vars)=s at hs;obtain⟨s1,s2⟩:=s
    cases s1 with
    | some a=>simp
    | none=>
     have:=hs.2 rfl;simp only at this;subst this;simp
  . rw[if_neg hg];have hsb:Z3 p l=false:=by
     apply qp1.2;intro hh;simp only[Z3,qo0,decide_eq_true_eq]at hh;apply hg;simp only[qd5,qo0,decide_eq_true_eq];have hp0:0<2 ^ (yp p.vars (qy p)).toNat:=qqV _;generalize 2 ^ (yp p.vars (qy p)).toNat=N at *;exact⟨hh.1,by omega,by omega,hh.2.1⟩
    rw[hsb];simp
 generalize ZR p l (2 ^ (yp p.vars (qy p)).toNat)=fa at *;generalize 2 ^ (yp p.vars (qy p)).toNat=N at *;obtain⟨hr1,hr2⟩:=hr;rw[<- hr2];have hm:vT (.int .i64 (N:Int)) (.int .i64 262144)=some (.int .i64 N):=by
  simp only[vT];rw[if_neg (by omega)]
 simp only[qL]at ha hf;simp[-getElem?_pos];refine qc.call ha (by simp) ?_;simp[-getElem?_pos,hm];refine qc.call hf (by simp) ?_;simp[-getElem?_pos,hr1];rw[qpR];simp
theorem qnq (e:Ex)(hwe:Wen e)(hh:hgt e<=1000)(hsz:(pre e).length<=200000000000):Pure Tryz.prog GG 33 [.agg (qt e)] (.int .i64 (wH e)):=by
 refine Pure.k qe Tryz.func33 rfl (by kernel_rfl) ?_;simp only[qd e];simp[-getElem?_pos];rw[<- qd e];refine qc.acall (qgM e hwe hh hsz _) ?_;rintro r U ⟨b,V,A,tv,ta,rfl,hb⟩;simp[-getElem?_pos,hb]
def kU (l:List Ex):Bool:=decide (l.length<=5)&&(l.take 6).all fun e=>jU e 8&&decide (wH e<=20)
theorem qhW (l:List Ex)(hl:Fits l)(hw:∀ e∈l,Wen e):Pure Tryz.prog GG 11 [.sl 4 (l.map qt) .none] (.bool (kU l)):=by
 refine Pure.k qe Tryz.func11 rfl (by kernel_rfl) ?_;simp[-getElem?_pos];obtain⟨r,hr⟩:∃ r,r=kU l:=⟨_,rfl⟩;rw[<- hr];refine qJ.list (l.take 6) (fun d env U=>env 0=.sl 4 (l.map qt) .none/\env 3=.int .i64 d.length/\U=⟨[],[]⟩/\(d.all fun e=>jU e 8&&decide (wH e<=20))=true) ?_ ?_ ?_
 . simp
 . rintro d e s env U hd he hlt ⟨e0,e3,rfl,hall⟩;have hlt':d.length<6/\d.length<l.length:=(by simp at hlt;omega);have he':l[d.length]?=some e:=(by rw[qpE]at he;split at he<;>first | exact he | cases he);have hm6:=qoZ he;have hwe:=hw e (qoZ he');have hw1:=wr (n:=(d.length:Int)+1) (by omega) (by omega);have h6:(d.length:Int)<6:=(by omega);have hbad:(jU e 8&&decide (wH e<=20))=false->r=false:=by
    intro h;rw[hr,qp1];intro h2;simp only[kU,qo0,qpa]at h2;have:=h2.2 e hm6;simp only[qsg]at h;rcases h with h|h
    . rw[h]at this;cases this.1
    . rw[h]at this;cases this.2
   simp[-getElem?_pos,e0,e3,hlt'.2,h6,he',qd e];rw[<- qd e];refine qc.call (G:=z5 GG) (qjD 8 e (fun x hx=>(hwe x hx).1) (by omega)) (by simp) ?_;cases hs:jU e 8
   . have hr0:r=false:=hbad (by simp[hs]);simp[-getElem?_pos,e0,e3,unA,hr0]
   . obtain⟨q1,q2⟩:=qlU hs;simp[-getElem?_pos,e0,e3,unA,he',qd e];rw[<- qd e];refine qc.call (G:=z5 GG) (qnq e hwe (by omega) q2) (by simp) ?_;by_cases hz:wH e<=20
     . have hz':¬ 20<wH e:=(by omega);simp[-getElem?_pos,e0,e3,hz',hw1,hs,hz];simpa using hall
     . have hz':20<wH e:=(by omega);have hr0:r=false:=hbad (by simp[hs,hz]);simp[-getElem?_pos,e0,e3,hz',hr0]
 . rintro env U ⟨e0,e3,rfl,hall⟩;by_cases h5:l.length<=5
   . have hm:(l.take 6).length=l.length:=(by simp;omega);rw[hm]at e3;have hr1:r=true:=(by rw[hr];simp only[kU,h5,decide_true,qp9];exact hall);have h5':(l.length:Int)<=5:=(by omega);simp[-getElem?_pos,e0,e3,hr1,h5']
   . have hm:(l.take 6).length=6:=(by simp;omega);rw[hm]at e3;have hr0:r=false:=(by rw[hr];simp[kU,h5]);have h5':¬ (l.length:Int)<=5:=(by omega);have h6':(6:Int)<=l.length:=(by omega);simp[-getElem?_pos,e0,e3,hr0,h5']
noncomputable def yN (p:Problem):Bool :=
 decide (p.vars.length<=5)&&decide (p.dists.length<=5)&&decide (p.groups.length<=5)&&kU p.hard&&kU p.soft&&(p.dists.all fun d=>decide (d.weights.length<=20))&&(!decide (qr p=0)||decide (yp p.vars (qy p)<=7))
structure VM (p:Problem):Prop where
 h:VH p
 vars:Fits p.vars
 hard:Fits p.hard
 soft:Fits p.soft
 grp:∀ g∈p.groups,g.length<17592186044416
theorem VM.flat {p:Problem}(h:VM p)(hg:p.groups.length<=5):p.groups.flatten.length<4611686018427387904:=by
 have:∀ (g:List (List Int)),(∀ x∈g,x.length<17592186044416)->g.flatten.length<=g.length*17592186044416:=by
  intro g
  induction g with
  | nil=>simp
  | cons a r ih=>
   intro h;have h1:=h a (by simp);have h2:=ih fun x hx=>h x (by simp[hx])
   simp only[qpF,qo3,qpd];omega
 have:=this p.groups h.grp;omega
theorem wq {l:List Ex}(h:kU l=true):l.length<=5/\∀ e∈l,hgt e<=8/\(pre e).length<=20:=by
 simp only[kU,qo0,decide_eq_true_eq,qpa]at h;refine⟨h.1,fun e he=>?_⟩;have hm:l.take 6=l:=qo6 (by omega);rw[hm]at h;obtain⟨h1,h2⟩:=h.2 e he;obtain⟨q1,q2⟩:=qlU h1;refine⟨q1,?_⟩;unfold wH at h2;rw[wr (by omega) (by omega)]at h2;omega
theorem VM.q {p:Problem}(h:VM p)(hv:p.vars.length<=5)(h1:kU p.hard=true)(h2:kU p.soft=true):VQ p:=by
 obtain⟨a1,a2⟩:=wq h1;obtain⟨b1,b2⟩:=wq h2;refine⟨by omega,h.h.names,by omega,by omega,fun e he=>?_,h.h.dists,h.h.weights,h.h.groups,h.h.group⟩;refine⟨h.h.exprs e he,?_⟩;rcases qpk.1 he with he|he
 . have:=a2 e he;omega
 . have:=b2 e he;omega
theorem qbM (p:Problem)(h:VM p):Pure Tryz.prog GG 4 [.agg (qL p)] (.bool (yN p)):=by
 refine Pure.k qe Tryz.func4 rfl (by kernel_rfl) ?_;obtain⟨r,hr⟩:∃ r,r=yN p:=⟨_,rfl⟩;rw[<- hr];by_cases hv:p.vars.length<=5
 case neg=>
  have hv':(5:Int)<p.vars.length:=by omega
  have hr0:r=false:=by rw[hr];simp[yN,hv]
  simp[-getElem?_pos,hv',hr0]
 by_cases hd:p.dists.length<=5
 case neg=>
  have hv':¬ (5:Int)<p.vars.length:=by omega
  have hd':(5:Int)<p.dists.length:=by omega
  have hr0:r=false:=by rw[hr];simp[yN,hd]
  simp[-getElem?_pos,hv',hd',hr0]
 by_cases hg:p.groups.length<=5
 case neg=>
  have hv':¬ (5:Int)<p.vars.length:=by omega
  have hd':¬ (5:Int)<p.dists.length:=by omega
  have hg':(5:Int)<p.groups.length:=by omega
  have hr0:r=false:=by rw[hr];simp[yN,hg]
  simp[-getElem?_pos,hv',hd',hg',hr0]
 have hv':¬ (5:Int)<p.vars.length:=by omega
 have hd':¬ (5:Int)<p.dists.length:=by omega
 have hg':¬ (5:Int)<p.groups.length:=by omega
 have e1:=qhW p.hard h.hard fun e he=>h.h.exprs e (qpH _ he)
 have e2:=qhW p.soft h.soft fun e he=>h.h.exprs e (qp5 _ he)
 simp[-getElem?_pos,hv',hd',hg'];refine qc.call (G:=z5 GG) e1 (by simp) ?_;cases h1:kU p.hard
 case false=>
  have hr0:r=false:=by rw[hr];simp[yN,h1]
  simp[-getElem?_pos,unA,hr0]
 simp[-getElem?_pos,unA];refine qc.call (G:=z5 GG) e2 (by simp) ?_;cases h2:kU p.soft
 case false=>
  have hr0:r=false:=by rw[hr];simp[yN,h2]
  simp[-getElem?_pos,unA,hr0]
 have hq:=h.q hv h1 h2;have h28:=Qt p hq (h.flat hg);have h29:=qoB p hq (by omega) (h.flat hg);simp only[qL]at h28 h29;simp[-getElem?_pos,unA];refine qJ.list p.dists (fun d env U=>env 1=.ptr 0 0/\env 3=.int .i64 d.length/\U=⟨[.cells (qL p)],[]⟩/\(d.all fun d=>decide (d.weights.length<=20))=true) ?_ ?_ ?_
 . simp
 . rintro d x s env U hds hx hlt ⟨f1,f3,rfl,hall⟩;have hw1:=wr (n:=(d.length:Int)+1) (by omega) (by omega);by_cases hwx:x.weights.length<=20
   . have hwx':¬ (20:Int)<x.weights.length:=(by omega);simp[-getElem?_pos,f1,f3,hlt,hx,hwx',hw1,hwx];simpa using hall
   . have hwx':(20:Int)<x.weights.length:=(by omega);have hr0:r=false:=by
      rw[hr,qp1];intro ht;simp only[yN,qo0,qpa,decide_eq_true_eq]at ht;exact hwx (ht.1.2 x (qoZ hx))
     simp[-getElem?_pos,f1,f3,hlt,hx,hwx',hr0]
 . rintro env U ⟨f1,f3,rfl,hall⟩;have hrs:r=(!decide (qr p=0)||decide (yp p.vars (qy p)<=7)):=by
    rw[hr];unfold yN;rw[h1,h2,hall];simp[hv,hd,hg]
   simp[-getElem?_pos,f1,f3];refine qc.call (G:=z5 GG) h28 (by simp) ?_;by_cases h0:qr p=0
   . simp[-getElem?_pos,f1,h0];refine qc.call (G:=z5 GG) h29 (by simp) ?_;simp[-getElem?_pos,hrs,h0]
   . simp[-getElem?_pos,f1,h0,hrs]
end Go.Proofs.YtcadpamddlofjaaGreatDoor
end
