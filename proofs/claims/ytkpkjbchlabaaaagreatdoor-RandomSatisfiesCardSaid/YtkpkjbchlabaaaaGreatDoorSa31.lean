/- A part of the proof. -/
import Derived.Test.YtkpkjbchlabaaaaGreatDoorSa30
import Derived.Test.YtkpkjbchlabaaaaGreatDoorSa18
import Derived.Test.YtkpkjbchlabaaaaGreatDoorSa21
set_option maxHeartbeats 16000000
set_option linter.unusedVariables false
set_option linter.unusedSimpArgs false
set_option maxRecDepth 100000
set_option linter.defProp false
section
namespace Go.Proofs.YtkpkjbchlabaaaaGreatDoor
open Go Go.Abs
theorem jl {p:Problem}(h:qj p=0):∀ v∈p.vars,jH v=0:=by
 have hv:zV p.vars=0:=by
  unfold qj at h;split at h
  . exact absurd h (by assumption)
  . rename_i h1;exact qqY.1 h1
 unfold zV at hv;split at hv
 . cases hv
 . split at hv
   . rename_i h1;exact absurd hv h1
   . rename_i h1;exact zr.1 (qqY.1 h1)
theorem wm:∀ (a:List Int),zI a=a.flatMap qt
 | []=>rfl
 | x::r=>by
  have:=wm r;rw[qqD,<- this];rfl
noncomputable def Z9 (p:Problem)(l:List Ex)(n:Nat):List Int×Int :=
 if qeO p l n=true then (match qb0 p.vars l n (qP p.vars) with
  | (some a,_)=>(a,0)
  | (none,true)=>([],11)
  | (none,false)=>([],18)) else ([],1)
theorem qlD (p:Problem)(l:List Ex)(n:Nat)(h:VQ p)(hfl:Fits l)(hx:∀ e∈l,Wen e/\hgt e<=1000/\(pre e).length<=100000)(hn:n<4611686018427387904) :
 Pure Tryz.prog GG 174 [.agg (qE p),.sl 4 (l.map qr) .none,.int .i64 n] (.tup [.sl 1 ((Z9 p l n).1.map qt) .none,.int .i64 (Z9 p l n).2]):=by
 refine Pure.kO o0 true qe Tryz.func174 rfl (by kernel_rfl) ?_;have hb:=qmi p l n h hfl hx hn [.cells (qE p)] [];simp only[qE]at hb;simp[-getElem?_pos];refine qc.acall hb ?_;rintro v ⟨H1,T1⟩ hq;unfold qqb at hq;by_cases hg:qeO p l n=true
 . rw[if_pos hg]at hq;obtain⟨F,A,t,rfl,hfr,hAl⟩:=hq;simp only at hfr hAl;have hv:qj p=0:=by
    simp only[qeO,qqi,decide_eq_true_eq]at hg;exact hg.1
   have hn2:n<=262144:=by
    simp only[qeO,qqi,decide_eq_true_eq]at hg;omega
   have hw:∀ v∈p.vars,0<=v.width/\v.width<=28:=fun v hm=>by have:=zd (jl hv v hm);omega
   have hh:=hit327 T1 hfr hAl hn2 h.vars (Yz p.vars) hw hx hfl;have hFA:Z9 p l n=(match qb0 p.vars l n (qP p.vars) with
    | (some a,_)=>(a,0)
    | (none,true)=>([],11)
    | (none,false)=>([],18)):=if_pos hg
   rw[hFA];generalize qb0 p.vars l n (qP p.vars)=s at *;simp[-getElem?_pos];refine qc.acall hh ?_;rintro v2 ⟨H2,T2⟩ ⟨hk,⟨va,n',hF2⟩,hres⟩;simp only[KC]at hF2;rcases hres with ⟨a,bh,vh,hs,rfl,hrow⟩|⟨hs,rfl⟩
   . obtain⟨s1,s2⟩:=s;simp only at hs;subst hs;simp only at hrow;simp[-getElem?_pos];rcases hrow with ⟨rfl,sz,tok,rfl⟩|⟨ha0,rfl,hbc⟩
     . have hc:∀ H t k,frz H 7 (.sl sz [] (.chain t k))=.sl sz [] .none:=fun H t k=>by rw[frz];simp[qR]
       cases tok with
       | chain t k=>
        rw[frz,if_neg (by simp[qR,qv])];simp only[qqp,qqU,hc,ZA,qR,qv,Leq,zu];simp[zl]
       | none=>rw[qI (by simp)];exact⟨by simp,by simp[Leq,zu]⟩
       | nil=>rw[qI (by simp)];exact⟨by simp,by simp[Leq,zu]⟩
       | tight=>rw[qI (by simp)];exact⟨by simp,by simp[Leq,zu]⟩
     . have ho:js bh 1 qt H2 (.ms bh 0 a.length 1) a:=.inr ⟨ha0,rfl,by
        rw[hbc,wm]⟩
       have f1:=ho.frz (fun x=>by simp) (fun x=>by simp) (fun x=>by simp) 6;have f2:=ho.frzNo (fun x=>by simp) (fun x=>by simp) (fun x=>by simp) 6;rw[frz,if_neg (by simp[qR,qv])];simp only[qqp,qqU,ZA,qR,qv,Leq,zu,qsu,and_true];exact⟨f2,f1⟩
   . obtain⟨s1,s2⟩:=s;simp only at hs hF2;subst hs;cases s2
     . simp[-getElem?_pos,hF2];rw[qI (by simp)];exact⟨by simp,by simp[Leq,zu]⟩
     . simp[-getElem?_pos,hF2];rw[qI (by simp)];exact⟨by simp,by simp[Leq,zu]⟩
 . rw[if_neg hg]at hq;subst hq;have hFA:Z9 p l n=([],1):=if_neg hg;rw[hFA];simp[-getElem?_pos];rw[qI (by simp)];exact⟨by simp,by simp[Leq,zu]⟩
theorem qjc (p:Problem)(h:VQ p)(hv20:p.vars.length<=20):Pure Tryz.prog GG 24 [.agg (qE p)] (.int .i64 (yP p.vars (qz p))):=by
 refine Pure.vc qe Tryz.func24 rfl (by kernel_rfl) ?_;have hv:=qhl p h;have hlen:=Z3 p hv20;have hrg:∀ i∈qz p,0<=i/\i<p.vars.length:=fun i hi=>QS hi
 simp only[qE]at hv;generalize qz p=R at hv hlen hrg ⊢;simp;refine qb.call hv (by simp) ?_
 try simp
 refine qy.intro (fun q env U=>∃ i,i<=R.length/\q=R.length-i/\env 1=.ptr 0 0/\env 3=.int .i64 (yP p.vars (R.take i))/\env 7=.sl 1 (R.map qt) .none/\env 8=.int .i64 R.length/\env 9=.int .i64 i/\U=⟨[.cells (qE p)],[]⟩) R.length ⟨0,by simp[yP]⟩ ?_;rintro q env U ⟨i,hi,rfl,h1,h3,h7,h8,h9,rfl⟩
 cases hvi:R[i]? with
 | some v=>
  obtain⟨hc,hv'⟩:=qqc.1 hvi;obtain⟨r1,r2⟩:=hrg v (qqd hvi);obtain⟨j,rfl⟩:=qqL r1;have hj:j<p.vars.length:=by omega
  have hs:=qdC (l:=p.vars) hvi;simp only[qqT]at hs;rw[JW hj]at hs;simp[h1,h3,h7,h8,h9,hc,hv',hj];exact⟨_,by omega,i+1,by omega,rfl,by rw[hs],wr (by omega) (by omega)⟩
 | none=>
  have hc:¬ i<R.length:=by simp at hvi;omega
  have ht:R.take i=R:=qqk (by omega);rw[ht]at h3;simp[h1,h3,h7,h8,h9,hc]
theorem qjj (p:Problem)(h:VQ p)(hv20:p.vars.length<=20)(h0:0<=yP p.vars (qz p))(h28:yP p.vars (qz p)<=28):Pure Tryz.prog GG 175 [.agg (qE p)] (.int .i64 ((2 ^ (yP p.vars (qz p)).toNat:Nat):Int)):=by
 refine Pure.k qe Tryz.func175 rfl (by kernel_rfl) ?_;have hb:=qjc p h hv20;have hs:=Qp h0 h28;generalize yP p.vars (qz p)=B at *;have hn:¬ B<0:=by omega
 generalize hN:2 ^ B.toNat=N at *;simp only[qE]at hb;simp[-getElem?_pos];refine qc.call hb (by simp) ?_;simp[-getElem?_pos,hn,IntKind.bits,hs]
section
def Z0 (q:Str×AV×Nat):AV×AV×Nat:=(.str q.1,q.2.1,q.2.2)
theorem QI {s:Str}:∀ (E:List (Str×AV×Nat)) (k:Nat),(jy (.str s) (E.map Z0) k=some none/\∀ q∈E,q.1≠s)\/∃ j q,E[j]?=some q/\q.1=s/\jy (.str s) (E.map Z0) k=some (some (k+j,q.2.1))
 | [],k=>.inl ⟨rfl,by simp⟩
 | e::E,k=>by
  by_cases h:s=e.1
  . right;refine⟨0,e,rfl,h.symm,?_⟩;simp[jy,Z0,Qe,h]
  . have h':(s==e.1)=false:=(by simpa using h);rcases QI (s:=s) E (k+1) with ⟨h1,h2⟩|⟨j,q,h1,h2,h3⟩
    . left;refine⟨by simp[jy,Z0,Qe,h'];simpa[Z0] using h1,fun q hq=>?_⟩;rcases qqE.1 hq with rfl|hq
      . exact fun e=>h e.symm
      . exact h2 q hq
    . right;refine⟨j+1,q,by simpa using h1,h2,?_⟩;simp only[qqp,Z0,jy,Qe,h'];have:k+(j+1)=k+1+j:=by omega
      rw[this];exact h3
def vl (vs:List Var):List (Str×AV×Nat):=vs.zipIdx.map fun q=>(q.1.name,.int .i64 (q.2:Int),q.2)
def wR (vs:List Var):Blk:=.map ((vl vs).map Z0) vs.length
theorem qdu {vs:List Var}{j:Nat}{q:Str×AV×Nat}(h:(vl vs)[j]?=some q):∃ v,vs[j]?=some v/\q=(v.name,.int .i64 (j:Int),j):=by
 unfold vl at h;rw[qqB,qsn]at h
 cases hv:vs[j]? with
 | none=>rw[hv]at h;simp at h
 | some v=>rw[hv]at h;simp at h;exact⟨v,rfl,h.symm⟩
theorem qdt {vs:List Var}(hn:(vs.map (·.name)).Nodup){i:Nat}{v:Var}(hv:vs[i]?=some v)(k:Nat):jy (.str v.name) ((vl vs).map Z0) k=some (some (k+i,.int .i64 (i:Int))):=by
 rcases QI (s:=v.name) (vl vs) k with ⟨_,h2⟩|⟨j,q,h1,h2,h3⟩
 . exfalso;have hm:(v.name,AV.int .i64 (i:Int),i)∈vl vs:=qqG.2 ⟨(v,i),qqd (i:=i) (by rw[qsn,hv];simp),rfl⟩;exact h2 _ hm rfl
 . obtain⟨w,hw,rfl⟩:=qdu h1;have hij:j=i:=by
    obtain⟨hj1,hj2⟩:=qqc.1 hw;obtain⟨hi1,hi2⟩:=qqc.1 hv;have h2:w.name=v.name:=h2;have hp:=qr6.1 hn;rcases Nat.lt_trichotomy j i with h|h|h
    . exact absurd (by rw[qrB,qrB,hj2,hi2,h2]) (hp j i (by simpa using hj1) (by simpa using hi1) h)
    . exact h
    . exact absurd (by rw[qrB,qrB,hj2,hi2,h2]) (hp i j (by simpa using hi1) (by simpa using hj1) h)
   subst hij;exact h3
structure PB (p:Problem)(lv:List Int)(c:Bc):Prop where
 rest:c.rest=qE p++[.sl 1 (lv.map qt) .none,.map c.M]
 mp:c.mp=wR p.vars
 len:lv.length=p.vars.length
 few:p.vars.length<=1000
 vars:∀ v∈p.vars,jH v=0
 nodup:(p.vars.map (·.name)).Nodup
 lev:∀ (i:Nat) (v:Var) (l:Int),p.vars[i]?=some v->lv[i]?=some l->v.mode≠0->0<=l/\l+v.width<=20
def qgM (v:Var)(l:Int)(b:Nat->Bool):Int:=if v.mode=0 then v.value else (zg (fun k=>b (l.toNat+v.width.toNat-1-k)) v.width.toNat:Nat)
theorem WL {v:Var}(h:jH v=0):0<=v.value/\v.value<65536:=by
 have h1:=zd h;unfold jH at h;split at h
 . cases h
 . split at h
   . cases h
   . rename_i hc;have:(2:Int) ^ v.width.toNat<=2 ^ 8:=by
      have:v.width.toNat<=8:=by omega
      have h2:(2:Nat) ^ v.width.toNat<=2 ^ 8:=qqJ (by omega) this;have h3:((2 ^ v.width.toNat:Nat):Int)<=((2 ^ 8:Nat):Int):=Int.ofNat_le.2 h2;simpa using h3
     omega
theorem qcd {vs:List Var}{m:Nat}{U:St}(hm:U.H[m]?=some (wR vs))(hn:(vs.map (·.name)).Nodup){i:Nat}{v:Var}(hv:vs[i]?=some v):zm (Dof Tryz.prog) U 210 (.map m) (.str v.name) false=some (.int .i64 (i:Int)):=by
 have:=qdt hn hv 0;unfold wR at hm;generalize (vl vs).map Z0=E at *;simp[zm,hm,zw,this]
theorem qfe {w:Nat}(f:Nat->Bool):∀ {n:Nat},w<=n->zg (fun j=>decide (j<w)&&f j) n=zg f w:=fun {n} h=>by
 apply qrW;intro i;rw[qS,qS];by_cases h1:i<w
 . have:i<n:=by omega
   simp[h1,this]
 . simp[h1]
section
variable {c:Bc}{d:List Nd}{H:List Blk}{T:List (Option Nat)}
def qkB:List (Nat×Sch×List Nat):=[(9,.step 0 [25,24] (.step 1 [25,24,23] (.step 2 [25,24,23,22,21,20,19,5,4,3] (.step 3 [25,24,23,22,21,20,19,5,4] (.step 4 [25,24,23,22,21,20,19,5] (.step 5 [25,24,23,22,21,20,19] (.step 6 [25,24,23,22,21,20,19,18,16,15,12,11,9,8,7] (.step 7 [25,24,23,22,21,20,19,18,16,15,12,11,9,8] (.step 8 [25,24,23,22,21,20,19,18,16,15,12,11,9] (.step 9 [25,24,23,22,21,20,19,18,16,15,12,11] (.step 10 [25,24,23,22,21,20,19,18,16,15,12,11] (.step 11 [25,24,23,22,21,20,19,18,16,15,12] (.step 12 [25,24,23,22,21,20,19,18,16,15] (.step 13 [25,24,23,22,21,20,19,18,16,15,14] (.step 14 [25,24,23,22,21,20,19,18,16,15] (.step 15 [25,24,23,22,21,20,19,18,16] (.step 16 [25,24,23,22,21,20,19,18] (.step 17 [25,24,23,22,21,20,19,18] (.step 18 [25,24,23,22,21,20,19] (.step 19 [25,24,23,22,21,20] (.step 20 [25,24,23] (.step 21 [25,24,23] (.step 22 [25,24,23] (.step 23 [25,24] (.step 24 [25] (.step 25 [] (.done)))))))))))))))))))))))))),[19,23])]
theorem qcb (h:BX c H d H){p:Problem}{lv:List Int}(hp:PB p lv c){i:Nat}{v:Var}{l:Int}(hv:p.vars[i]?=some v)(hl:lv[i]?=some l) :
 qf Tryz.prog (XG c) 206 [.ptr c.B 0,.str v.name] ⟨H,T⟩ (WQ c d H fun b=>qgM v l b):=by
 refine qf.kO ⟨false,qkB,[],[]⟩ qe Tryz.func206 rfl (by kernel_rfl) ?_;have hk:∀ j,H.length<=j->j≠c.B:=fun j hj=>(h.at hj).1
 obtain⟨tok,hb⟩:=h.b;have hm:=h.m;rw[hp.rest]at hb;rw[hp.mp]at hm;have hlook:=fun (u:List Blk) (T:List (Option Nat))=>qcd (U:=⟨H++u,T⟩) (qa hm u) hp.nodup hv
 have hve:=hp.vars v (qqd hv);have hvw:=zd hve;have hvv:=WL hve;have hil:=(qqc.1 hv).1;have hill:i<lv.length:=by rw[hp.len];exact hil
 simp only[qE,qqz,qqw]at hb;simp[-getElem?_pos,qa hb,hlook,hv,jo];by_cases hm0:v.mode=0
 . have hc:=jW v.value.toNat (by omega);rw[Int.toNat_of_nonneg hvv.1]at hc;have hVl:((List.range 16).map fun k=>if v.value.toNat.testBit k=true then 1 else 0).length=16:=(by simp);have hwo:=Ka h.ok v.value.toNat;have hval:=fun b=>ZM h.ok b (n:=v.value.toNat) (by omega)
   generalize ((List.range 16).map fun k=>if v.value.toNat.testBit k=true then 1 else 0)=V at *;simp[-getElem?_pos,hm0];refine qc.call hc (by simp) ?_;simp[-getElem?_pos,hVl,qm hVl,ze hVl (show (qp q9).length=16 from rfl),qL];refine⟨d,V,rfl,h.app _,qW.refl d,hwo,fun b=>?_⟩;unfold zP qgM;dsimp only;rw[if_pos hm0,hval b];omega
 . have hlev:=hp.lev i v l hv hl hm0;have hwn:v.width=(v.width.toNat:Int):=(by omega);have hln:l=(l.toNat:Int):=(by omega);generalize hwN:v.width.toNat=w at *;generalize hlN:l.toNat=L at *;have hgl:∀ u:List Blk,True:=fun _=>trivial
   have hl':lv[i]?=some (L:Int):=(by rw[hl,hln]);simp[-getElem?_pos,hm0,hwn];refine yE w (fun k ev U=>ev 0=.ptr c.B 0/\ev 4=.ptr H.length 0/\ev 5=.int .i64 (i:Int)/\ev 6=.ptr (H.length+1) 0/\ev 7=.ptr (H.length+2) 0/\ev 30=.int .i64 (w:Int)/\ev 31=.int .i64 (k:Int) /\
    ∃ d' W,BX c H d' U.H/\qW d d'/\qV d' W/\U.H[H.length]?=some (.cells (qp q9))/\U.H[H.length+1]?=some (.cells (qA v))/\U.H[H.length+2]?=some (.cells (qp W)) /\
     ∀ b j,j<16->qn d' b W j=(decide (j<k)&&b (L+w-1-j))) ?_ ?_ ?_
   . refine⟨by simp,by simp,by simp,by simp,by simp,by simp,by simp,d,q9,h.app _,qW.refl d,km h.ok,lk0,?_,lk2,fun b j hj=>by rw[yT h.ok];simp⟩;have:=lk1 (H:=H) (p:=Blk.cells (qp q9)) (q:=Blk.cells (qA v)) (t:=[.cells (qp q9)]);simp only[qA,hwn]at this ⊢;exact this
   . rintro k ev ⟨H1,T1⟩ R hR hkw ⟨e0,e4,e5,e6,e7,e30,e31,d1,W,hx,hg,hW,bZ,bV,bW,hbits⟩;dsimp only at hx bZ bV bW;obtain⟨t1,hb1⟩:=hx.b;rw[hp.rest]at hb1;simp only[qE,qqz,qqw]at hb1;simp only[qA,hwn]at bV;have hWl:=hW.1;have hk':(k:Int)<w:=(by omega);have hk16:k<16:=(by omega);have hk16':(k:Int)<16:=(by omega);have hk1:k+1<=16:=hk16;have hwk:=wr (n:=(k:Int)+1) (by omega) (by omega);have hw1:=wr (n:=(L:Int)+w) (by omega) (by omega);have hw2:=wr (n:=(L:Int)+w-1) (by omega) (by omega);have hw3:=wr (n:=(L:Int)+w-1-k) (by omega) (by omega);have hlevel:(L:Int)+w-1-k=((L+w-1-k:Nat):Int):=(by omega);rw[hlevel]at hw3;have hbit:=fun T=>(bit417 d1 hx.ok (L+w-1-k) (by omega) H1 T).leq (args:=[.agg [.sl 3 (d1.map qw) t1],.int .i64 ((L+w-1-k:Nat):Int)]) (by simp[zu,Leq,j7.refl])
     have hLv:∀ b:Nat->Bool,b (L+w-1-k)=b (L+w-1-k):=fun _=>rfl
     generalize hLL:L+w-1-k=LL at *;simp[-getElem?_pos,e30,e31,hk'];rw[qG rfl];simp[-getElem?_pos,qN,e0,e5,e6,hb1,bV,hl',hw1,hw2,hlevel,hw3];refine qc.acall (hbit T1).glo ?_;have hxc:=hx;rintro v2 ⟨H2,T2⟩ ⟨hk2,rfl|⟨d2,i2,t2,rfl,g2,hd2,hi2,hm2,hs2⟩⟩
     . simp[-getElem?_pos,qN];exact qc.acall (we c (Q:=fun _ _=>False) (hx.same hk2).kp0 _ _) fun _ _ h=>h.elim
     . simp[-getElem?_pos,qN];refine qc.acall (Zu c (hx.self.same hk2) hd2 i2 _) ?_;rintro v3 ⟨H3,T3⟩ ⟨rfl,hxx⟩;have hx3:=hx.call hxx;have up:∀ {k:Nat} {x:Blk},H.length<=k->H1[k]?=some x->H3[k]?=some x:=fun {k x} hl hq=>hxx.loc hq (hk k hl)
       have cW:=up (by omega) bW;have hl3:=(qqc.1 cW).1;have hkl:k<W.length:=(by omega);simp[-getElem?_pos,qN,e7,e31,cW,hWl,hk16',hk1,yS,hwk];refine hR _ _ ⟨by simp[e0],by simp[e4],by simp[e5],by simp[e6],by simp[e7],by simp[e30],by simp,d2,W.set k i2,hx3.set (by omega) _,hg.trans g2,(hW.grown g2).set hi2,?_,?_,qqh hl3,fun b j hj=>?_⟩
       . rw[qqf (by omega)];exact up (by omega) bZ
       . rw[qqf (by omega)];have:=up (by omega) bV;simp only[qA,hwn]at this ⊢;exact this
       . rw[wn hkl];by_cases hjk:j=k
         . subst hjk;rw[if_pos rfl,hs2 b,hLL];have ht:=hx.ok.two
           cases hbb:b LL with
           | true=>simp[qc0 hx.ok]
           | false=>simp[Ju hx.ok]
         . rw[if_neg hjk,zC hx.ok g2 hW b hj,hbits b j hj];by_cases h1:j<k
           . have h2:j<k+1:=(by omega);simp[h1,h2]
           . have h2:¬ j<k+1:=(by omega);simp[h1,h2]
   . rintro ev ⟨H1,T1⟩ ⟨e0,e4,e5,e6,e7,e30,e31,d1,W,hx,hg,hW,bZ,bV,bW,hbits⟩;dsimp only at hx bZ bV bW;have hWl:=hW.1;have hHl:=(qqc.1 bZ).1;simp[-getElem?_pos,e4,e7,e30,e31,bW,bZ,hWl,qm hWl,ze hWl (show (qp q9).length=16 from rfl),qL,hHl];refine⟨d1,W,rfl,hx.set (by omega) _,hg,hW,fun b=>?_⟩;unfold zP qgM;dsimp only;rw[if_neg hm0,hwN,hlN,zh (hbits b),qfe _ (by omega)]
end
end
section
def v9 (vs:List Var)(lv:List Int)(b:Nat->Bool):List Int:=(vs.zip lv).map fun q=>qgM q.1 q.2 b
theorem JR {vs:List Var}{lv:List Int}(h:lv.length=vs.length)(b:Nat->Bool):(v9 vs lv b).length=vs.length:=by simp[v9,h]
theorem qdd {vs:List Var}{lv:List Int}{i:Nat}{v:Var}{l:Int}(hv:vs[i]?=some v)(hl:lv[i]?=some l)(b:Nat->Bool):(v9 vs lv b)[i]?=some (qgM v l b):=by
 unfold v9;rw[qqB,qrO (z:=(v,l)) |>.2 ⟨hv,hl⟩];rfl
theorem Q7:∀ {vs:List Var} {a:List Int} {i:Nat} {v:Var} {x:Int},(vs.map (·.name)).Nodup->vs[i]?=some v->a[i]?=some x->ye ((vs.zip a).map fun q=>⟨q.1.name,q.2⟩) v.name=some (qK x)
 | [],_,i,v,x,_,hv,_=>by simp at hv
 | w::vs,[],i,v,x,_,_,hx=>by simp at hx
 | w::vs,y::a,0,v,x,hn,hv,hx=>by
  simp at hv hx;subst hv hx;simp[ye]
 | w::vs,y::a,i+1,v,x,hn,hv,hx=>by
  simp only[qqp,qrX]at hn;have ih:=Q7 (vs:=vs) (a:=a) (i:=i) (v:=v) (x:=x) hn.2 (by simpa using hv) (by simpa using hx);have hne:¬ w.name=v.name:=fun e=>hn.1 (qqG.2 ⟨v,qqd (i:=i) (by simpa using hv),e.symm⟩)
  have hne':(w.name==v.name)=false:=by simpa using hne
  unfold ye at ih ⊢;simp only[qtj,qqp,qsP,hne'];exact ih
theorem qff {v:Var}(h:jH v=0)(l:Int)(b:Nat->Bool):0<=qgM v l b/\qgM v l b<=65535:=by
 have h1:=WL h;have h2:=zd h;unfold qgM;split
 . omega
 . have:=y8 (fun k=>b (l.toNat+v.width.toNat-1-k)) v.width.toNat;have h3:2 ^ v.width.toNat<=2 ^ 8:=qqJ (by omega) (by omega);omega
theorem qiA {p:Problem}{lv:List Int}(hl:lv.length=p.vars.length)(hn:(p.vars.map (·.name)).Nodup)(hve:∀ v∈p.vars,jH v=0){i:Nat}{v:Var}{l:Int}(hv:p.vars[i]?=some v)(hli:lv[i]?=some l)(b:Nat->Bool) :
 (ye (kQ p.vars (v9 p.vars lv b)) v.name).getD 0=qgM v l b:=by
 have h1:=Q7 hn hv (qdd hv hli b);unfold kQ;rw[if_pos (JR hl b),h1];have h2:=qff (hve v (qqd hv)) l b;exact Jy h2.1 h2.2
theorem Ys {V:List Nat}(hV:V.length=16):∀ {Ws:List (List Nat)} {i:Nat},(∀ w∈Ws,w.length=16)->i<Ws.length->zj (Ws.flatMap qp) (i*16) (qp V)=(Ws.set i V).flatMap qp
 | [],i,_,h=>by simp at h
 | a::r,0,h,_=>by
  rw[qqD,qrK,qti,qqD];exact wA _ _ _ (by rw[jm,jm,h a (by simp),hV])
 | a::r,i+1,h,hi=>by
  have hi':i<r.length:=by simpa using hi
  rw[qqD,qsR,qqD,<- Ys hV (Ws:=r) (i:=i) (fun w hw=>h w (by simp[hw])) hi',qso,qrZ];have:=vz (c:=r.flatMap qp) (qp V) (qp a) (i*16)
  rwa[jm,h a (by simp)]at this
def qgp (p:Problem)(e:Ex):Prop:=∀ x∈pre e,qo x=0/\x.op≠3/\x.op≠24/\(x.op=2->vH p.vars x.name=true)/\x.args.length<=1000
theorem qgp.arg {p:Problem}{e a:Ex}(h:qgp p e)(ha:a∈e.args):qgp p a:=fun x hx=>h x (by rw[jr];exact qrJ _ (QX.2 ⟨a,ha,hx⟩))
theorem qgp.self {p:Problem}{e:Ex}(h:qgp p e):qo e=0/\e.op≠3/\e.op≠24/\(e.op=2->vH p.vars e.name=true)/\e.args.length<=1000:=h e (by rw[jr];simp)
section
variable {c:Bc}{d:List Nd}{H:List Blk}{T:List (Option Nat)}
def qdZ:List (Nat×Sch×List Nat):=[(13,.step 1 [8,7,6,5] (.step 2 [8,7,6,5,4,3] (.step 3 [8,7,6,5,4] (.step 4 [8,7,6,5] (.fork (.cons 0 (.step 5 [8,7,6] (.step 6 [8,7] (.step 7 [8] (.step 8 [] (.done))))) (.cons 5 (.step 0 [8,7,6] (.step 6 [8,7] (.step 7 [8] (.step 8 [] (.done))))) (.nil))))))),[5,6]),(15,.step 0 [5,4] (.step 1 [5,4,3,2] (.step 2 [5,4,3] (.step 3 [5,4] (.step 4 [5] (.step 5 [] (.done)))))),[4]),(17,.step 0 [6,5] (.step 1 [6,5] (.step 2 [6,5,4,3] (.step 3 [6,5,4] (.step 4 [6,5] (.step 5 [6] (.step 6 [] (.done))))))),[5]),(19,.step 0 [5,4] (.step 1 [5,4,3,2] (.step 2 [5,4,3] (.step 3 [5,4] (.step 4 [5] (.step 5 [] (.done)))))),[4]),(21,.step 0 [8,7,6] (.step 1 [8,7,6,3,2] (.step 2 [8,7,6,3] (.step 3 [8,7,6] (.step 4 [8,7,6,5] (.step 5 [8,7,6] (.step 6 [8,7] (.step 7 [8] (.step 8 [] (.done))))))))),[6]),(23,.step 0 [6,4] (.step 1 [6,4,3,2] (.step 2 [6,4,3] (.step 3 [6,4] (.fork (.cons 4 (.step 5 [6] (.step 6 [] (.done))) (.cons 5 (.step 4 [6] (.step 6 [] (.done))) (.nil))))))),[4]),(24,.step 0 [8,7,2,1] (.step 1 [8,7,2] (.step 2 [8,7] (.step 3 [8,7,5,4] (.step 4 [8,7,5] (.step 5 [8,7] (.step 6 [8,7] (.step 7 [8] (.step 8 [] (.done))))))))),[7]),(25,.step 0 [10,9] (.step 1 [10,9,2] (.step 2 [10,9] (.step 3 [10,9,5,4] (.step 4 [10,9,5] (.step 5 [10,9] (.step 6 [10,9,8,7] (.step 7 [10,9,8] (.step 8 [10,9] (.step 9 [10] (.step 10 [] (.done))))))))))),[9])]
theorem V9 (h:BX c H d H){p:Problem}{lv:List Int}(hp:PB p lv c)(e:Ex)(he:qgp p e)(h0:e.args=[]) :
 qf Tryz.prog (XG c) 161 [.ptr c.B 0,.agg (qr e)] ⟨H,T⟩ (WQ c d H fun b=>vd (kQ p.vars (v9 p.vars lv b)) e):=by
 refine qf.kO ⟨false,qdZ,[],[]⟩ qe Tryz.func161 rfl (by kernel_rfl) ?_;obtain⟨hn,h3,h24,h2,_⟩:=he.self;obtain⟨o1,o2,o3,o4,o5,o6,o7,o8⟩:=je hn;have hop:e.op=1\/e.op=2:=by
  unfold qi at o5;rw[h0]at o5;split at o5
  . simp at o5
  . simp only[qq0,qrn,decide_eq_true_eq]at o5;unfold zo at o5
    repeat' split at o5
    all_goals omega
 have hk:∀ j,H.length<=j->j≠c.B:=fun j hj=>(h.at hj).1
 have henc:=qd e;rw[h0]at henc;simp only[qqU]at henc;rw[henc];simp[-getElem?_pos,qx,jo,qL];have hx1:=h.app [.cells [.ptr c.B 0],.cells [.int .i64 e.op,.int .i64 e.n,.str e.name,.sl 4 [] .none],.cells (qp q9)];refine qX.gen (fun n ev U=>ev 2=.ptr H.length 0/\ev 3=.ptr (H.length+1) 0/\ev 4=.ptr (H.length+2) 0/\ev 15=.int .i64 0/\ev 16=.int .i64 0/\BX c H d U.H/\U.H[H.length]?=some (.cells [.ptr c.B 0])/\U.H[H.length+1]?=some (.cells [.int .i64 e.op,.int .i64 e.n,.str e.name,.sl 4 [] .none])/\U.H[H.length+2]?=some (.cells (qp q9))) 0 ?_ ?_
 . exact⟨by simp,by simp,by simp,by simp,by simp,hx1,lk0,lk1,lk2⟩
 rintro n ev ⟨H1,T1⟩ R hR ⟨e2,e3,e4,e15,e16,hx,bB,bE,bZ⟩;dsimp only at hx bB bE bZ;have hZl:=(qqc.1 bZ).1;simp[-getElem?_pos,e2,e3,e4,e15,e16,bE];rcases hop with hop|hop
 . have hnn:=o3 hop;have hc:=jW e.n.toNat (by omega);rw[Int.toNat_of_nonneg hnn.1]at hc;have hVl:((List.range 16).map fun k=>if e.n.toNat.testBit k=true then 1 else 0).length=16:=(by simp);have hwo:=Ka h.ok e.n.toNat;have hval:=fun b=>ZM h.ok b (n:=e.n.toNat) (by omega)
   generalize ((List.range 16).map fun k=>if e.n.toNat.testBit k=true then 1 else 0)=V at *;simp[-getElem?_pos,hop,e2,e3,e4,bE];refine qc.call hc (by simp) ?_;simp[-getElem?_pos,e2,e3,e4,bZ,hZl,hVl,qm hVl,ze hVl (show (qp q9).length=16 from rfl),qL];refine⟨d,V,rfl,hx.set (by omega) _,qW.refl d,hwo,fun b=>?_⟩;dsimp only;rw[vm];unfold zP Vb;rw[if_pos hop,hval b];omega
 . have hva:=h2 hop;unfold vH at hva;rw[qqF]at hva;obtain⟨v,hm,hvn⟩:=hva;have hvn:v.name=e.name:=(by simpa using hvn);obtain⟨i,hi⟩:=qqN hm;have hil:=(qqc.1 hi).1;obtain⟨l,hl⟩:∃ l,lv[i]?=some l:=⟨_,qqe (by rw[hp.len];exact hil)⟩;have hw:=qcb hx.self hp hi hl (T:=T1);rw[hvn]at hw;have ht:¬ e.op=1:=(by omega);simp[-getElem?_pos,hop,e2,e3,e4,bE,bB];refine qc.acall hw ?_;rintro vv ⟨H2,T2⟩ ⟨d2,W,rfl,hxx,hg2,hW,hv2⟩;dsimp only at hv2;have cZ:=hxx.loc bZ (hk _ (by omega));have hl2:=(qqc.1 cZ).1;dsimp only at cZ hl2;have hWl:=hW.1;simp[-getElem?_pos,e2,e3,e4,cZ,hl2,hWl,qm hWl,ze hWl (show (qp q9).length=16 from rfl),qL];refine⟨d2,W,rfl,(hx.call hxx).set (by omega) _,hg2,hW,fun b=>?_⟩;rw[hv2 b];dsimp only;rw[vm];unfold Vb;rw[if_neg ht,if_pos hop,<- hvn,qiA hp.len hp.nodup hp.vars hi hl b]
end
end
section
theorem qlC (n:Nat):(List.replicate n (qp q9)).flatten=(List.replicate n q9).flatMap qp:=by rw[qr0,qsU]
theorem qh8 {x:Nat}:∀ l:List Nat,jV (x:Int) (l.map fun n:Nat=>(n:Int))=qnd x l
 | []=>rfl
 | [_]=>rfl
 | a::b::r=>by
  simp only[qqp,jV,qnd,qh8 r];congr 2
  . rw[qq4,decide_eq_true_iff,decide_eq_true_iff];omega
  . rw[qq4,decide_eq_true_iff,decide_eq_true_iff];omega
section
variable {c:Bc}{d:List Nd}{H:List Blk}{T:List (Option Nat)}
theorem qi4 (h:BX c H d H){h1 h2:Nat}{t x y:Nat}(b1:H[h1]?=some (.cells [.ptr c.B 0]))(b2:H[h2]?=some (.cells [.int .i64 (t:Int)]))(ht:t<d.length)(hx:x<d.length)(hy:y<d.length) :
 qf Tryz.prog (XG c) 214 [.int .i64 x,.int .i64 y,.ptr h1 0,.ptr h2 0] ⟨H,T⟩ (NQ c d H fun b=>evD d b t&&evD d b x||!evD d b t&&evD d b y):=by
 refine qf.k qe Tryz.func214 rfl (by kernel_rfl) ?_;simp[-getElem?_pos,b1,b2];refine qc.acall (qi3 c h ht hx hy) ?_;rintro v ⟨H2,T2⟩ ⟨d2,y,rfl,hxx2,hg2,hy2,hv2⟩;simp[-getElem?_pos];exact⟨d2,y,rfl,hxx2,hg2,hy2,hv2⟩
theorem V8 (h:BX c H d H){p:Problem}{lv:List Int}(hp:PB p lv c)(e:Ex)(he:qgp p e)(h0:e.args≠[])
 (ih:∀ a∈e.args,∀ d H T,BX c H d H->qf Tryz.prog (XG c) 161 [.ptr c.B 0,.agg (qr a)] ⟨H,T⟩ (WQ c d H fun b=>vd (kQ p.vars (v9 p.vars lv b)) a)) :
 qf Tryz.prog (XG c) 161 [.ptr c.B 0,.agg (qr e)] ⟨H,T⟩ (WQ c d H fun b=>vd (kQ p.vars (v9 p.vars lv b)) e):=by
 obtain⟨val,hvale⟩:∃ val:(Nat->Bool)->Ex->Int,∀ b e,vd (kQ p.vars (v9 p.vars lv b)) e=val b e:=⟨_,fun _ _=>rfl⟩;simp only[hvale]at ih ⊢;refine qf.kO ⟨false,qdZ,[],[]⟩ qe Tryz.func161 rfl (by kernel_rfl) ?_;obtain⟨hn,h3,h24,h2,hal⟩:=he.self;have hk:∀ j,H.length<=j->j≠c.B:=fun j hj=>(h.at hj).1
 have hpos:=qqt.2 h0;have hpos':¬ (e.args.length:Int)=0:=by omega
 have hle:(e.args.length:Int)<=549755813888:=by omega
 rw[qd e];simp[-getElem?_pos,qx,jo,qL,hle,h0,qlC];refine qX.listR e.args (fun dn ev U=>ev 2=.ptr H.length 0/\ev 3=.ptr (H.length+1) 0/\ev 4=.ptr (H.length+2) 0/\ev 5=.ms (H.length+3) 0 e.args.length 16/\ev 14=.sl 4 (e.args.map qr) .none/\ev 15=.int .i64 e.args.length/\ev 16=.int .i64 dn.length /\
  ∃ (d':List Nd) (Ws:List (List Nat)),BX c H d' U.H/\qW d d'/\Ws.length=e.args.length/\(∀ w∈Ws,qV d' w)/\(∀ b,(Ws.take dn.length).map (zP d' b)=dn.map (val b)) /\
   U.H[H.length]?=some (.cells [.ptr c.B 0])/\U.H[H.length+1]?=some (.cells [.int .i64 e.op,.int .i64 e.n,.str e.name,.sl 4 (e.args.map qr) .none])/\U.H[H.length+2]?=some (.cells (qp q9))/\U.H[H.length+3]?=some (.cells (Ws.flatMap qp))) ?_ ?_ ?_
 . refine⟨by simp,by simp,by simp,by simp,by simp,by simp,by simp,d,List.replicate e.args.length q9,?_,qW.refl d,by simp,fun w hw=>?_,fun b=>by simp,?_,?_,?_,?_⟩
   . exact h.app _
   . rw[qrH]at hw;rw[hw.2];exact km h.ok
   . exact lk0
   . exact lk1
   . exact lk2
   . exact lk3
 . rintro dn a rest ev ⟨H1,T1⟩ R hR hd hx hlt ⟨e2,e3,e4,e5,e14,e15,e16,d1,Ws,hx1,hg,hWl,hWs,hv,bB,bE,bZ,bW⟩;dsimp only at hx1 bB bE bZ bW;have ham:=qqd hx;have hdw:=wr (n:=(dn.length:Int)+1) (by omega) (by omega);have hlt':(dn.length:Int)<e.args.length:=(by omega);have hH1l:=(qqc.1 bW).1;have hihx:=hx1.self.app [.cells (qr a)];have hih:=fun T=>ih a ham d1 _ T (hx1.app [.cells (qr a)]).self
   have hflen:=YW (Ws:=Ws) fun w hw=>(hWs w hw).1
   rw[hWl]at hflen;have hfit:dn.length*16+16<=e.args.length*16:=(by omega);have hput:∀ {V:List Nat},V.length=16->zj (Ws.flatMap qp) (dn.length*16) (qp V)=(Ws.set dn.length V).flatMap qp:=fun {V} hV=>Ys hV (fun w hw=>(hWs w hw).1) (by omega)
   rw[qd a]at hih;simp[-getElem?_pos,e2,e5,e14,e15,e16,hlt',hx,qd a,qa bB];refine qc.acall (hih T1) ?_;rintro v ⟨H2,T2⟩ ⟨d2,V,rfl,hxx2,hg2,hV,hv2⟩;dsimp only at hv2;have hVl:=hV.1;have hx2:=(hx1.app [.cells (qr a)]).call (by rw[qd a];exact hxx2);have up:∀ {k:Nat} {x:Blk},H.length<=k->H1[k]?=some x->H2[k]?=some x:=fun {k x} hl hq=>hxx2.loc (qa hq _) (hk k hl)
   have cW:=up (by omega) bW;have hl2:=(qqc.1 cW).1;simp[-getElem?_pos,e16,hlt',cW,hflen,hfit,hVl,hput hVl,hdw];refine hR _ _ ⟨by simp[e2],by simp[e3],by simp[e4],by simp[e5],by simp[e14],by simp[e15],by simp,d2,Ws.set dn.length V,hx2.set (by omega) _,hg.trans hg2,by simp[hWl],fun w hw=>?_,fun b=>?_,?_,?_,?_,qqh hl2⟩
   . rcases qr5 hw with hw|rfl
     . exact (hWs w hw).grown hg2
     . exact hV
   . have h1:(Ws.set dn.length V).take (dn++[a]).length=Ws.take dn.length++[V]:=by
      rw[qqg,qqK,qqH,qqh (by omega),List.take_set_of_le (qqn _)];rfl
     rw[h1,qrb,qrb,<- hv b];congr 1
     . apply qrk;intro w hw;exact qfB hx1.ok hg2 (hWs w (qrf hw)) b
     . simp only[qqp,qqU];rw[hv2 b]
   . rw[qqf (by omega)];exact up (by omega) bB
   . rw[qqf (by omega)];exact up (by omega) bE
   . rw[qqf (by omega)];exact up (by omega) bZ
 . rintro ev ⟨H1,T1⟩ ⟨e2,e3,e4,e5,e14,e15,e16,d1,Ws,hx,hg,hWl,hWs,hv,bB,bE,bZ,bW⟩;dsimp only at hx bB bE bZ bW;have hvf:∀ b,Ws.map (zP d1 b)=e.args.map (val b):=fun b=>by
    have:=hv b
    rwa[qqk (by omega)]at this
   have hW16:∀ w∈Ws,w.length=16:=fun w hw=>(hWs w hw).1
   have hflen:=YW hW16;have hnode:∀ b,val b e=opW e.op (Ws.map (zP d1 b)):=fun b=>by
    rw[<- hvale,vm];unfold Vb;rw[hvf b];have:(List.map (vd (kQ p.vars (v9 p.vars lv b))) e.args)=e.args.map (val b):=qrk fun a _=>hvale b a
    rw[this];have h1:e.op≠1/\e.op≠2:=by
     obtain⟨o1,o2,o3,o4,o5,o6,o7,o8⟩:=je hn;unfold qi at o5;constructor
     . intro h;rw[h]at o5;simp[zo]at o5;exact h0 o5
     . intro h;rw[h]at o5;simp[zo]at o5;exact h0 o5
    rw[if_neg h1.1,if_neg h1.2,if_neg h3,if_neg h24]
   have fin:∀ {H4:List Blk} {d4:List Nd} {V:List Nat} {τ:St},τ.H=H4.set (H.length+2) (.cells (qp V))->BX c H d4 H4->qW d1 d4->qV d4 V->(∀ b,zP d4 b V=opW e.op (Ws.map (zP d1 b)))->WQ c d H (fun b=>val b e) (.agg (qp V)) τ:=fun {H4 d4 V τ} hτ hx4 hg4 hV hvv=>by
    refine⟨d4,_,rfl,?_,hg.trans hg4,hV,fun b=>by rw[hvv];exact (hnode b).symm⟩;rw[hτ];exact hx4.set (by omega) _
   have hZl:=(qqc.1 bZ).1;obtain⟨o1,o2,o3,o4,o5,o6,o7,o8⟩:=je hn;have hop:((e.op=4\/e.op=5\/e.op=6\/e.op=25)/\e.args.length=1)\/(e.op=22/\e.args.length=3)\/(e.op=23/\3<=e.args.length)\/(7<=e.op/\e.op<=21/\e.args.length=2):=by
    unfold qi at o5;split at o5
    . simp only[decide_eq_true_eq]at o5;omega
    . simp only[decide_eq_true_eq]at o5;unfold zo at o5
      repeat' split at o5
      all_goals omega
   have hZ16:(qp q9).length=16:=rfl;have ht:=hx.ok.two;rcases hop with ⟨hop,h1⟩|⟨hop,h1⟩|⟨hop,h1⟩|⟨hop7,hop21,h1⟩
   . -- one operand
     rw[h1]at hWl e5;obtain⟨w0,rfl⟩:∃ w,Ws=[w]:=List.length_eq_one_iff.1 hWl;have hw0:=hWs w0 (by simp);have hw0l:=hw0.1;simp only[qqD,qsH,qqV]at bW;rcases hop with hop|hop|hop|hop
     . simp[-getElem?_pos,e3,e15,e16,bE,hop,h1];rw[qG rfl];simp[-getElem?_pos,qN,e2,e5,bB,bW,hw0l,qm hw0l];have key:=vQ hx.self hw0 (T:=T1);refine⟨qc.acall key ?_,qc.acall key ?_⟩
       all_goals
        rintro v ⟨H2,T2⟩ ⟨d2,t,rfl,hxx2,hg2,ht2,hv2⟩;dsimp only at hv2;have hx2:=hx.call hxx2;have cB:=hxx2.loc bB (hk _ (by omega));dsimp only at cB;simp[-getElem?_pos,qN,e2,cB];refine qc.acall (Qj c hx2.self ht2) ?_;rintro v ⟨H3,T3⟩ ⟨d3,u,rfl,hxx3,hg3,hu,hv3⟩;dsimp only at hv3;have hx3:=hx2.call hxx3;have cZ:=hxx3.loc (hxx2.loc bZ (hk _ (by omega))) (hk _ (by omega));have hl3:=(qqc.1 cZ).1;dsimp only at cZ hl3;simp[-getElem?_pos,qN];refine qc.call (z4 u) (by simp) ?_;have cut1:(qp (u::List.replicate 15 0)).take 16=qp (u::List.replicate 15 0):=qm rfl;have put1:zj (qp q9) 0 (qp (u::List.replicate 15 0))=qp (u::List.replicate 15 0):=ze rfl rfl;have kN:=fin (H4:=H3) (d4:=d3) (V:=u::List.replicate 15 0) (τ:=⟨H3.set (H.length+2) (.cells (qp (u::List.replicate 15 0))),T3⟩) rfl hx3 (hg2.trans hg3) (qaQ hx3.ok hu) (fun b=>by
         rw[W6 hx3.ok,hv3,hv2,vn,hop];simp[opW,unW,zP])
        simp only[List.reduceReplicate]at kN cut1 put1;simp[-getElem?_pos,qN,e4,cZ,qL,put1,hl3,cut1];exact kN
     . simp[-getElem?_pos,e3,e15,e16,bE,hop,h1];rw[qG rfl];simp[-getElem?_pos,qN,e2,e5,bB,bW,hw0l,qm hw0l];refine qc.acall (Ze hx.self hw0) ?_;rintro v ⟨H2,T2⟩ ⟨d2,V,rfl,hxx2,hg2,hV,hv2⟩;dsimp only at hv2;have hVl:=hV.1;have cZ:=hxx2.loc bZ (hk _ (by omega));have hl3:=(qqc.1 cZ).1;dsimp only at cZ hl3;simp[-getElem?_pos,qN,e4,cZ,qL,hVl,ze hVl hZ16,hl3,qm hVl];refine fin rfl (hx.call hxx2) hg2 hV fun b=>?_
       unfold zP;rw[zh (hv2 b),w_inv,hop];rfl
     . have hc0:=jW 0 (by omega);rw[qeI]at hc0;simp only[qrn]at hc0;simp[-getElem?_pos,e3,e15,e16,bE,hop,h1];rw[qG rfl];simp[-getElem?_pos,qN,e2,bB];refine qc.call hc0 (by simp) ?_;simp[-getElem?_pos,qN,e5,bW,hw0l,qm hw0l];refine qc.acall (Zb hx.self (km hx.ok) hw0) ?_;rintro v ⟨H2,T2⟩ ⟨d2,V,rfl,hxx2,hg2,hV,hv2⟩;dsimp only at hv2;have hVl:=hV.1;have cZ:=hxx2.loc bZ (hk _ (by omega));have hl3:=(qqc.1 cZ).1;dsimp only at cZ hl3;simp[-getElem?_pos,qN,e4,cZ,qL,hVl,ze hVl hZ16,hl3,qm hVl];refine fin rfl (hx.call hxx2) hg2 hV fun b=>?_
       rw[qcE (hv2 b),<- kq,w_sub,yZ fun k _=>yT hx.ok b k,hop];simp[opW,unW,zP]
     . simp[-getElem?_pos,e3,e15,e16,bE,hop,h1];rw[qG rfl];simp[-getElem?_pos,qN,e2,e5,bB,bW,hw0l,qm hw0l];refine qc.acall (qoG hx.self hw0) ?_;rintro v ⟨H2,T2⟩ ⟨d2,V,rfl,hxx2,hg2,hV,hv2⟩;dsimp only at hv2;have hVl:=hV.1;have cZ:=hxx2.loc bZ (hk _ (by omega));have hl3:=(qqc.1 cZ).1;dsimp only at cZ hl3;simp[-getElem?_pos,qN,e4,cZ,qL,hVl,ze hVl hZ16,hl3,qm hVl];refine fin rfl (hx.call hxx2) hg2 hV fun b=>?_
       have hr:=qfA d1 b w0;have hwi:=Jy hr.1 hr.2;unfold zP at hwi ⊢;rw[hv2 b,<- Wd _ 16 (by omega),hop];simp[opW,unW,hwi]
   . -- a choice
     rw[h1]at hWl e5;obtain⟨w0,w1,w2,rfl⟩:∃ w w' w'',Ws=[w,w',w'']:=by
      match Ws,hWl with
      | [a,b,c],_=>exact⟨a,b,c,rfl⟩
     have hw0:=hWs w0 (by simp);have hw0l:=hw0.1;have hw1:=hWs w1 (by simp);have hw1l:=hw1.1;have hw2:=hWs w2 (by simp);have hw2l:=hw2.1;simp only[qqD,qsH,qqV]at bW;have c0:(qp w0++(qp w1++qp w2)).take 16=qp w0:=(by rw[qre (by simp[hw0l]),qm hw0l]);have c1:((qp w0++(qp w1++qp w2)).drop 16).take 16=qp w1:=by
      rw[qrP,qqO (by simp[hw0l]),jm,hw0l,qro,qrx,qqw,qre (by simp[hw1l]),qm hw1l]
     have c2:(qp w0++(qp w1++qp w2)).drop 32=qp w2:=by
      rw[qrP,qqO (by simp[hw0l]),jm,hw0l,qqw,qrP,qqO (by simp[hw1l]),jm,hw1l];rfl
     have cl:(qp w0++(qp w1++qp w2)).length=48:=(by simp[hw0l,hw1l,hw2l]);generalize qp w0++(qp w1++qp w2)=F at *;simp[-getElem?_pos,e3,e15,e16,bE,hop,h1];rw[qG rfl];simp[-getElem?_pos,qN,e2,e5,bB,bW,cl,c0]
     -- what is behind the truth
     have rest:∀ {H2:List Blk} {T2:List (Option Nat)} {d2:List Nd} {t N:Nat},BX c H d2 H2->qW d1 d2->t<d2.length->(∀ b,evD d2 b t=Zi (qn d1 b w0) 16)->(∀ {k:Nat} {x:Blk},H.length<=k->H1[k]?=some x->H2[k]?=some x)->H2[N]?=some (.cells [.int .i64 (t:Int)])->N≠c.B ->
      qf Tryz.prog (XG c) 213 [.agg (qp w1),.agg (qp w2),.fn 214 [] [.ptr H.length 0,.ptr N 0]] ⟨H2,T2⟩ (BQ c d2 H2 fun b k=>if Zi (qn d1 b w0) 16=true then qn d1 b w1 k else qn d1 b w2 k):=by
      intro H2 T2 d2 t N hx2 hg2 ht2 htv up bN hN;have cB:=up (qqn _) bB;have:=JE hx2.self (hw1.grown hg2) (hw2.grown hg2) (T:=T2) (g:=214) (first:=[]) (cap:=[.ptr H.length 0,.ptr N 0]) (F:=fun b p q=>Zi (qn d1 b w0) 16&&p||!Zi (qn d1 b w0) 16&&q) (fun d3 H3 T3 x y hx3 hg3 hxl hyl=>by
       have key:=qi4 hx3.self (h1:=H.length) (h2:=N) (t:=t) (x:=x) (y:=y) (T:=T3) (hx3.loc cB (hk _ (qqn _))) (hx3.loc bN hN) (qqr ht2 hg3.len) hxl hyl;have e:(fun b=>evD d3 b t&&evD d3 b x||!evD d3 b t&&evD d3 b y)=fun b=>Zi (qn d1 b w0) 16&&evD d3 b x||!Zi (qn d1 b w0) 16&&evD d3 b y:=by
        funext b;rw[hg3.ev hx2.ok b ht2,htv]
       rw[e]at key;exact key)
      refine this.imp fun v U ⟨d',W,e1,e2,e3,e4,e5⟩=>⟨d',W,e1,e2,e3,e4,fun b k hk=>?_⟩
      rw[e5 b k hk];dsimp only;rw[zC hx.ok hg2 hw1 b hk,zC hx.ok hg2 hw2 b hk];cases Zi (qn d1 b w0) 16<;>simp
     have ZD:∀ {H4:List Blk} {T4:List (Option Nat)} {d2 d4:List Nd} {V:List Nat},BX c H d4 H4->qW d1 d2->qW d2 d4->qV d4 V->(∀ b k,k<16->qn d4 b V k=if Zi (qn d1 b w0) 16=true then qn d1 b w1 k else qn d1 b w2 k)->WQ c d H (fun b=>val b e) (.agg (qp V)) ⟨H4.set (H.length+2) (.cells (qp V)),T4⟩:=fun {H4 T4 d2 d4 V} hx4 hg2 hg4 hV hvv=>by
      refine fin rfl hx4 (hg2.trans hg4) hV fun b=>?_
      unfold zP;rw[zh (hvv b),hop,vn];by_cases h:(zg (qn d1 b w0) 16:Int)=0
      . have h':zg (qn d1 b w0) 16=0:=(by omega);simp[opW,h']
      . have h':¬ zg (qn d1 b w0) 16=0:=(by omega);simp[opW,h']
     refine⟨qc.acall (vQ hx.self hw0) ?_,qc.acall (vQ (hx.app _).self hw0) ?_⟩
     . rintro v ⟨H2,T2⟩ ⟨d2,t,rfl,hxx2,hg2,ht2,hv2⟩;dsimp only at hv2;have hx2:=hx.call hxx2;have up:∀ {k:Nat} {x:Blk},H.length<=k->H1[k]?=some x->H2[k]?=some x:=fun {k x} hl hq=>hxx2.loc hq (hk k hl)
       have cW:=up (by omega) bW;simp[-getElem?_pos,qN];rw[qG rfl];simp[-getElem?_pos,qN,e2,e5,qa cW,cl,c1,c2,qm hw2l];have hH2l:H.length<=H2.length:=hx2.kp.1;refine qc.acall (rest (hx2.app [.cells [.int .i64 (t:Int)]]) hg2 ht2 hv2 (fun hl hq=>qa (up hl hq) _) lk0 (hk _ hH2l)) ?_;rintro v ⟨H3,T3⟩ ⟨d3,V,rfl,hxx3,hg3,hV,hv3⟩;have hx3:=(hx2.app [.cells [.int .i64 (t:Int)]]).call hxx3;have hVl:=hV.1;have cZ:=hxx3.loc (qa (up (by omega) bZ) _) (hk _ (by omega));have hl3:=(qqc.1 cZ).1;dsimp only at cZ hl3;simp[-getElem?_pos,qN,e4,cZ,qL,hVl,ze hVl hZ16,hl3,qm hVl];exact ZD hx3 hg2 hg3 hV hv3
     . rintro v ⟨H2,T2⟩ ⟨d2,t,rfl,hxx2,hg2,ht2,hv2⟩;dsimp only at hv2;have hx2:=(hx.app _).call hxx2;have up:∀ {k:Nat} {x:Blk},H.length<=k->H1[k]?=some x->H2[k]?=some x:=fun {k x} hl hq=>hxx2.loc (qa hq _) (hk k hl)
       have hH1l:H.length<=H1.length:=hx.kp.1;have bN:=hxx2.loc (lk0 (H:=H1) (p:=Blk.cells [.int .i64 0]) (t:=[])) (hk _ hH1l);have hNl:=(qqc.1 bN).1;have hH13:=(qqc.1 bW).1;have cW:=up (by omega) bW;have up3:∀ {k:Nat} {x:Blk},H.length<=k->H1[k]?=some x->(H2.set H1.length (.cells [.int .i64 (t:Int)]))[k]?=some x:=fun {k x} hl hq=>by
        have:=(qqc.1 hq).1;rw[qqf (by omega)];exact up hl hq
       have dW:=up3 (by omega) bW;simp[-getElem?_pos,qN,bN];rw[qG rfl];simp[-getElem?_pos,qN,e2,e5,dW,cl,c1,c2,qm hw2l];refine qc.acall (rest (hx2.set hH1l _) hg2 ht2 hv2 up3 (qqh hNl) (hk _ hH1l)) ?_;rintro v ⟨H3,T3⟩ ⟨d3,V,rfl,hxx3,hg3,hV,hv3⟩;have hx3:=(hx2.set hH1l _).call hxx3;have hVl:=hV.1;have cZ:=hxx3.loc (up3 (by omega) bZ) (hk _ (by omega));have hl3:=(qqc.1 cZ).1;dsimp only at cZ hl3;simp[-getElem?_pos,qN,e4,cZ,qL,hVl,ze hVl hZ16,hl3,qm hVl];exact ZD hx3 hg2 hg3 hV hv3
   . -- ranges
     obtain⟨w0,Wr,rfl⟩:∃ w r,Ws=w::r:=by
      match Ws,hWl with
      | a::r,_=>exact⟨a,r,rfl⟩
      | [],h=>simp at h;omega
     have hw0:=hWs w0 (by simp);have hw0l:=hw0.1;have hWrl:Wr.length+1=e.args.length:=(by simpa using hWl);rw[<- hWrl]at e5;have hsl:zq (.ms (H.length+3) 0 (Wr.length+1) 16) (some (.int .i64 1)) none none=some (.ms (H.length+3) 16 Wr.length 16):=by
      have h2:(1:Int)<=((Wr.length+1:Nat):Int):=(by omega);show (if (0:Int)<=1/\(1:Int)<=((Wr.length+1:Nat):Int)/\((Wr.length+1:Nat):Int)<=((Wr.length+1:Nat):Int)/\((1:Int)=0\/(1:Int)<((Wr.length+1:Nat):Int)) then _ else _)=_;rw[if_pos ⟨by omega,h2,Int.le_refl _,.inr (by omega)⟩];simp
     have hpos1:(0:Int)<(Wr.length:Int)+1:=(by omega);have hin:=qh7 hx.self hw0 (A:=H.length+3) (V:=w0) (Ws:=Wr) hw0l (fun w hw=>hWs w (by simp[hw])) (by simpa using bW) (hk _ (by omega)) (by omega) (T:=T1);simp only[qqD]at bW hflen;have c0:(qp w0++Wr.flatMap qp).take 16=qp w0:=(by rw[qre (by simp[hw0l]),qm hw0l]);have cl:16<=(qp w0++Wr.flatMap qp).length:=(by simp[hw0l]);generalize qp w0++Wr.flatMap qp=F at *;simp[-getElem?_pos,e3,e15,e16,bE,hop];rw[qG rfl];simp[-getElem?_pos,qN,e2,e5,bB,bW,cl,c0,hsl,hpos1];refine qc.acall hin ?_;rintro v ⟨H2,T2⟩ ⟨d2,u,rfl,hxx2,hg2,hu,hv2⟩;dsimp only at hv2;have hx2:=hx.call hxx2;have cZ:=hxx2.loc bZ (hk _ (by omega));have hl3:=(qqc.1 cZ).1;dsimp only at cZ hl3;simp[-getElem?_pos,qN];refine qc.call (z4 u) (by simp) ?_;have cut1:(qp (u::List.replicate 15 0)).take 16=qp (u::List.replicate 15 0):=qm rfl;have put1:zj (qp q9) 0 (qp (u::List.replicate 15 0))=qp (u::List.replicate 15 0):=ze rfl rfl;have kN:=fin (H4:=H2) (d4:=d2) (V:=u::List.replicate 15 0) (τ:=⟨H2.set (H.length+2) (.cells (qp (u::List.replicate 15 0))),T2⟩) rfl hx2 hg2 (qaQ hx2.ok hu) (fun b=>by
      rw[W6 hx2.ok,hv2,hop];have:(Wr.map (zP d1 b))=(Wr.map fun w=>zg (qn d1 b w) 16).map fun n:Nat=>(n:Int):=by
       rw[qrz];rfl
      simp only[opW,qqp,List.tail_cons,this];have hins:=qh8 (x:=zg (qn d1 b w0) 16) (Wr.map fun w=>zg (qn d1 b w) 16);show _=b2i (jV (zP d1 b w0) _);rw[<- hins];rfl)
     simp only[List.reduceReplicate]at kN cut1 put1;simp[-getElem?_pos,qN,e4,cZ,qL,put1,hl3,cut1];exact kN
   . -- two operands
     rw[h1]at hWl e5;obtain⟨w0,w1,rfl⟩:∃ w w',Ws=[w,w']:=by
      match Ws,hWl with
      | [a,b],_=>exact⟨a,b,rfl⟩
     have hw0:=hWs w0 (by simp);have hw0l:=hw0.1;have hw1:=hWs w1 (by simp);have hw1l:=hw1.1;have c0:(qp w0++qp w1).take 16=qp w0:=(by rw[qre (by simp[hw0l]),qm hw0l]);have c1:(qp w0++qp w1).drop 16=qp w1:=(by rw[qrP,qqO (by simp[hw0l]),jm,hw0l];rfl);have cl:(qp w0++qp w1).length=32:=(by simp[hw0l,hw1l]);simp only[qqD,qsH,qqV]at bW;generalize qp w0++qp w1=F at *;have n1:¬ e.op=1:=(by omega);have n2:¬ e.op=2:=(by omega);have n4:¬ e.op=4:=(by omega);have n5:¬ e.op=5:=(by omega);have n6:¬ e.op=6:=(by omega);have n25:¬ e.op=25:=(by omega);have n23:¬ e.op=23:=(by omega);have n22:¬ e.op=22:=(by omega);simp[-getElem?_pos,e2,e3,e15,e16,bE,h1,n1,n2,n4,n5,n6,n25,n23,n22];rw[qG rfl];simp[-getElem?_pos,qN,e2,e3,e5,bB,bE,bW,cl,c0,c1,qm hw1l];refine qc.acall (qjd hx.self hw0 hw1 hop7 hop21) ?_;rintro v ⟨H2,T2⟩ ⟨d2,V,rfl,hxx2,hg2,hV,hv2⟩;dsimp only at hv2;have hVl:=hV.1;have cZ:=hxx2.loc bZ (hk _ (by omega));have hl3:=(qqc.1 cZ).1;dsimp only at cZ hl3;simp[-getElem?_pos,qN,e4,cZ,qL,hVl,ze hVl hZ16,hl3,qm hVl];refine fin rfl (hx.call hxx2) hg2 hV fun b=>?_
     rw[hv2 b];simp[opW,n22,n23]
theorem qnM {p:Problem}{lv:List Int}(hp:PB p lv c):∀ (e:Ex),qgp p e->∀ d H T,BX c H d H->qf Tryz.prog (XG c) 161 [.ptr c.B 0,.agg (qr e)] ⟨H,T⟩ (WQ c d H fun b=>vd (kQ p.vars (v9 p.vars lv b)) e):=by
 refine Ex.ind fun e ih he d H T h=>?_
 by_cases h0:e.args=[]
 . exact V9 h hp e he h0
 . exact V8 h hp e he h0 fun a ha d H T h=>ih a ha (he.arg ha) d H T h
end
end
def qjI (v:Var):Nat:=if v.mode=0 then 0 else v.width.toNat
theorem qdD {l:List Var}(hw:∀ v∈l,0<=v.width/\v.width<=8)(hl:l.length<=1000):∀ k,k<=l.length->yP l (Jm l k)=(((l.take k).map qjI).sum:Nat)/\((l.take k).map qjI).sum<=8*k
 | 0,_=>⟨by simp[Jm,yP],by simp⟩
 | k+1,hk=>by
  obtain⟨i1,i2⟩:=qdD hw hl k (by omega);obtain⟨v,hv⟩:∃ v,l[k]?=some v:=⟨_,qqe (by omega)⟩;have hwv:=hw v (qqd hv);have ht:l.take (k+1)=l.take k++[v]:=by rw[qqH,hv];rfl
  have hr:yi l (k:Int)=(v.mode != 0):=by simp[yi,hv]
  rw[Yo,hr,ht,qrb,List.sum_append];by_cases hm:v.mode=0
  . have hb:qjI v=0:=(by simp[qjI,hm]);simp only[hm,bne_self_eq_false,qqy,if_false,qqp,qqU,qsj,qtV,hb];exact⟨by simpa using i1,by omega⟩
  . have hb:qjI v=v.width.toNat:=(by simp[qjI,hm]);have hm':(v.mode != 0)=true:=(by simpa using hm);rw[if_pos hm'];have hs:yP l (Jm l k++[(k:Int)])=IntKind.i64.wrap (yP l (Jm l k)+zF l k):=by
     unfold yP;rw[qrp];simp
    rw[hs,i1];have hwa:zF l k=v.width:=(by simp[zF,hv]);rw[hwa];simp only[qqp,qqU,qsj,qtV,hb,qrl];rw[wr (by omega) (by omega)];exact⟨by omega,by omega⟩
theorem VT {p:Problem}(hv:qj p=0)(hl:p.vars.length<=1000):yP p.vars (qz p)=((p.vars.map qjI).sum:Nat)/\(yl p.vars).length=2 ^ (p.vars.map qjI).sum:=by
 have hw:∀ v∈p.vars,0<=v.width/\v.width<=8:=fun v hm=>by have:=zd (jl hv v hm);omega
 have h1:=qdD hw hl p.vars.length (qqn _);rw[qsf]at h1;have hr:qz p=Jm p.vars p.vars.length:=by unfold qz;rw[if_neg (by simpa using hv)]
 rw[hr];exact⟨h1.1,QD p.vars⟩
noncomputable def Ji (p:Problem)(l:List Ex):Bool:=decide (qj p=0)&&(l.all (wH p.vars)&&jO p.vars l)
theorem Qn (p:Problem)(l:List Ex)(h:VQ p)(hv20:p.vars.length<=20)(hb:yP p.vars (qz p)<=18)(hfl:Fits l)(hx:∀ e∈l,Wen e/\hgt e<=1000/\(pre e).length<=100000) :
 Pure Tryz.prog GG 116 [.agg (qE p),.sl 4 (l.map qr) .none] (.bool (Ji p l)):=by
 refine Pure.k qe Tryz.func116 rfl (by kernel_rfl) ?_;have h0:0<=yP p.vars (qz p):=by
  by_cases hv:qj p=0
  . rw[(VT hv (by omega)).1];omega
  . have:qz p=[]:=by unfold qz;rw[if_pos (by simpa using hv)]
    rw[this];simp[yP]
 have ha:=qjj p h hv20 h0 (by omega);have hp:2 ^ (yP p.vars (qz p)).toNat<=2 ^ 18:=qqJ (by omega) (by omega);have hf:=qlD p l (2 ^ (yP p.vars (qz p)).toNat) h hfl hx (by omega);have hr:(Z9 p l (2 ^ (yP p.vars (qz p)).toNat)).2≠18/\decide ((Z9 p l (2 ^ (yP p.vars (qz p)).toNat)).2=0)=Ji p l:=by
  unfold Z9;by_cases hg:qeO p l (2 ^ (yP p.vars (qz p)).toNat:Nat)=true
  . rw[if_pos hg];simp only[qeO,qqi,decide_eq_true_eq]at hg;obtain⟨hv,_,_,hk⟩:=hg;have hab:=VT hv (by omega);have hs:=qlv (vs:=p.vars) (l:=l) (k:=2 ^ (yP p.vars (qz p)).toNat) (by rw[hab.2,hab.1];simp);have hsb:Ji p l=jO p.vars l:=(by simp[Ji,hv,hk]);rw[hsb,<- hs.1];generalize qb0 p.vars l _ (qP p.vars)=s at hs;obtain⟨s1,s2⟩:=s
    cases s1 with
    | some a=>simp
    | none=>
     have:=hs.2 rfl;simp only at this;subst this;simp
  . rw[if_neg hg];have hsb:Ji p l=false:=by
     apply qrq.2;intro hh;simp only[Ji,qqi,decide_eq_true_eq]at hh;apply hg;simp only[qeO,qqi,decide_eq_true_eq];have hp0:0<2 ^ (yP p.vars (qz p)).toNat:=qsx _;generalize 2 ^ (yP p.vars (qz p)).toNat=N at *;exact⟨hh.1,by omega,by omega,hh.2.1⟩
    rw[hsb];simp
 generalize Z9 p l (2 ^ (yP p.vars (qz p)).toNat)=fa at *;generalize 2 ^ (yP p.vars (qz p)).toNat=N at *;obtain⟨hr1,hr2⟩:=hr;rw[<- hr2];have hm:w7 (.int .i64 (N:Int)) (.int .i64 262144)=some (.int .i64 N):=by
  simp only[w7];rw[if_neg (by omega)]
 simp only[qE]at ha hf;simp[-getElem?_pos];refine qc.call ha (by simp) ?_;simp[-getElem?_pos,hm];refine qc.call hf (by simp) ?_;simp[-getElem?_pos,hr1];rw[qq4];simp
end Go.Proofs.YtkpkjbchlabaaaaGreatDoor
end
