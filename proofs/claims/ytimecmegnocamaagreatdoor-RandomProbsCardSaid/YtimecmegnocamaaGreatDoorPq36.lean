import Derived.Test.YtimecmegnocamaaGreatDoorPq35
import Derived.Test.YtimecmegnocamaaGreatDoorPq24
import Derived.Test.YtimecmegnocamaaGreatDoorPq27
set_option maxHeartbeats 16000000
set_option maxRecDepth 100000
set_option linter.all false
set_option linter.defProp false
namespace Go.Proofs.YtimecmegnocamaaGreatDoor
open Go Go.Abs Tryz
def jd{p}(h:qo p=0):∀v∈p.vars,j4 v=0:=by
 have hv:jg p.vars=0:=by
  unfold qo at h;split at h
  . exact absurd h (by assumption)
  rename_i h1;exact qB1.1 h1
 unfold jg at hv;split at hv
 . cases hv
 split at hv
 . rename_i h1;exact absurd hv h1
 rename_i h1;exact zF.1 (qB1.1 h1)
def jM:∀(a),zb a=a.flatMap qh
 |[]=>rfl
 | x::r=>by
  have:=jM r;rw[qBm,<- this];rfl
noncomputable def J7(p:Problem)(l:List Ex)(n:Nat):List Int×Int :=
 if qgM p l n=true then(match qdJ p.vars l n (zC p.vars) with
  |(some a,_)=>(a,0)
  |(none,true)=>([],11)
  |(none,false)=>([],18)) else([],1)
def qop(p:Problem)(l:List Ex)(n:Nat)(h:VQ p)(hfl:Fits l)(hx:∀e∈l,Wen e/\hgt e<=1000/\(pre e).length<=100000)(hn:n<4611686018427387904):
 Pure prog GG 166 [.agg (qA p),.sl 4 (l.map qt) .none,.int .i64 n] (.tup [.sl 1 ((J7 p l n).1.map qh) .none,.int .i64 (J7 p l n).2]):=by
 refine qFl o0 true qg func166 rfl (by kernel_rfl) ?_;have hb:=qo3 p l n h hfl hx hn [.cells (qA p)] [];simp only[qA]at hb;simp;refine qFs hb ?_;rintro v ⟨H1,T1⟩ hq;unfold qto at hq;by_cases hg:qgM p l n=true
 . rw[if_pos hg]at hq;obtain⟨F,A,t,rfl,hfr,hAl⟩:=hq;simp only at hfr hAl;have hv:qo p=0:=by
    simp only[qgM,qA1,decide_eq_true_eq]at hg;exact hg.1
   have hn2:n<=262144:=by
    simp only[qgM,qA1,decide_eq_true_eq]at hg;omega
   have hw:∀v∈p.vars,0<=v.width/\v.width<=28:=fun v hm=>by have:=zi (jd hv v hm);omega
   have hh:=qvi T1 hfr hAl hn2 h.vars (Qe p.vars) hw hx hfl;have hFA:J7 p l n=(match qdJ p.vars l n (zC p.vars) with
    |(some a,_)=>(a,0)
    |(none,true)=>([],11)
    |(none,false)=>([],18)):=if_pos hg
   rw[hFA];generalize qdJ p.vars l n (zC p.vars)=s at *;simp;refine qFs hh ?_;rintro v2 ⟨H2,T2⟩ ⟨hk,⟨va,n',hF2⟩,hres⟩;simp only[qbv]at hF2;rcases hres with⟨a,bh,vh,hs,rfl,hrow⟩|⟨hs,rfl⟩
   . obtain⟨s1,s2⟩:=s;simp only at hs;subst hs;simp only at hrow;simp;rcases hrow with⟨rfl,sz,tok,rfl⟩|⟨ha0,rfl,hbc⟩
     . have hc:∀H t k,frz H 7 (.sl sz [] (.chain t k))=.sl sz [] .none:=fun H t k=>by rw[frz];simp[qO]
       cases tok with
       | chain t k=>
        rw[frz,if_neg (by simp[qO,qw])];simp only[qA7,qBy,hc,Zl,qO,qw,Leq,zm];simp[qX]
       |none=>rw[qF (by simp)];exact⟨by simp,by simp[Leq,zm]⟩
       |nil=>rw[qF (by simp)];exact⟨by simp,by simp[Leq,zm]⟩
       |tight=>rw[qF (by simp)];exact⟨by simp,by simp[Leq,zm]⟩
     have ho:jr bh 1 qh H2 (.ms bh 0 a.length 1) a:=.inr ⟨ha0,rfl,by
      rw[hbc,jM]⟩
     have f1:=ho.frz (fun x=>by simp) (fun x=>by simp) (fun x=>by simp) 6;have f2:=ho.frzNo (fun x=>by simp) (fun x=>by simp) (fun x=>by simp) 6;rw[frz,if_neg (by simp[qO,qw])];simp only[qA7,qBy,Zl,qO,qw,Leq,zm,qC2,and_true];exact⟨f2,f1⟩
   obtain⟨s1,s2⟩:=s;simp only at hs hF2;subst hs;cases s2
   . simp[hF2];rw[qF (by simp)];exact⟨by simp,by simp[Leq,zm]⟩
   simp[hF2];rw[qF (by simp)];exact⟨by simp,by simp[Leq,zm]⟩
 rw[if_neg hg]at hq;subst hq;have hFA:J7 p l n=([],1):=if_neg hg;rw[hFA];simp;rw[qF (by simp)];exact⟨by simp,by simp[Leq,zm]⟩
def qlM(p)(h:VQ p)(hv20:p.vars.length<=20):Pure prog GG 32 [.agg (qA p)] (.int .i64 (wh p.vars (qQ p))):=by
 refine qFP qg func32 rfl (by kernel_rfl) ?_;have hv:=qjR p h;have hlen:=J0 p hv20;have hrg:∀i∈qQ p,0<=i/\i<p.vars.length:=fun i hi=>ZN hi
 simp only[qA]at hv;generalize qQ p=R at hv hlen hrg⊢;simp;refine qFz hv (by simp) ?_
 try simp
 refine qFM (fun q env U=>∃i,i<=R.length/\q=R.length-i/\env 1=.ptr 0 0/\env 3=.int .i64 (wh p.vars (R.take i))/\env 7=.sl 1 (R.map qh) .none/\env 8=.int .i64 R.length/\env 9=.int .i64 i/\U=⟨[.cells (qA p)],[]⟩) R.length ⟨0,by simp[wh]⟩ ?_;rintro q env U ⟨i,hi,rfl,h1,h3,h7,h8,h9,rfl⟩
 cases hvi:R[i]? with
 | some v=>
  obtain⟨hc,hv'⟩:=qAU.1 hvi;obtain⟨r1,r2⟩:=hrg v (qAV hvi);obtain⟨j,rfl⟩:=qBe r1;have hj:j<p.vars.length:=by omega
  have hs:=qfr (l:=p.vars) hvi;simp only[qBu]at hs;rw[YU hj]at hs;simp[h1,h3,h7,h8,h9,hc,hv',hj];exact⟨_,by omega,i+1,by omega,rfl,by rw[hs],wr (by omega) (by omega)⟩
 | none=>
  have hc:¬i<R.length:=by simp at hvi;omega
  rw[show R.take i=R from qAZ (by omega)]at h3;simp[h3,h7,h8,h9,hc]
def qlV(p)(h:VQ p)(hv20:p.vars.length<=20)(h0:0<=wh p.vars (qQ p))(h28:wh p.vars (qQ p)<=28):Pure prog GG 167 [.agg (qA p)] (.int .i64 ((2^(wh p.vars (qQ p)).toNat:Nat):Int)):=by
 refine qFm qg func167 rfl (by kernel_rfl) ?_;have hb:=qlM p h hv20;have hs:=wG h0 h28;generalize wh p.vars (qQ p)=B at *;generalize hN:2^B.toNat=N at *;simp only[qA]at hb;simp;refine qFp hb (by simp) ?_;simp[show ¬B<0 by omega,IntKind.bits,hs]
def JY(q:Str×AV×Nat):AV×AV×Nat:=(.str q.1,q.2.1,q.2.2)
def ZC{s:Str}:∀(E:List (Str×AV×Nat)) (k:Nat),(jS (.str s) (E.map JY) k=some none/\∀q∈E,q.1≠s)\/∃j q,E[j]?=some q/\q.1=s/\jS (.str s) (E.map JY) k=some (some (k+j,q.2.1))
 |[],k=>.inl ⟨rfl,by simp⟩
 | e::E,k=>by
  by_cases h:s=e.1
  . right;refine⟨0,e,rfl,h.symm,?_⟩;simp[jS,JY,Q4,h]
  have h':(s==e.1)=false:=by simpa using h
  rcases ZC (s:=s) E (k+1) with⟨h1,h2⟩|⟨j,q,h1,h2,h3⟩
  . left;refine⟨by simp[jS,JY,Q4,h'];simpa[JY] using h1,fun q hq=>?_⟩;rcases qBt.1 hq with rfl|hq
    . exact fun e=>h e.symm
    exact h2 q hq
  right;refine⟨j+1,q,by simpa using h1,h2,?_⟩;simp only[qA7,JY,jS,Q4,h'];have:k+(j+1)=k+1+j:=by omega
  rw[this];exact h3
def vT(vs:List Var):List (Str×AV×Nat):=vs.zipIdx.map fun q=>(q.1.name,.int .i64 (q.2:Int),q.2)
def vS(vs:List Var):Blk:=.map ((vT vs).map JY) vs.length
def qfg{vs:List Var}{j:Nat}{q:Str×AV×Nat}(h:(vT vs)[j]?=some q):∃v,vs[j]?=some v/\q=(v.name,.int .i64 (j:Int),j):=by
 unfold vT at h;rw[qBp,qDJ]at h
 cases hv:vs[j]? with
 |none=>rw[hv]at h;simp at h
 |some v=>rw[hv]at h;simp at h;exact⟨v,rfl,h.symm⟩
def qff{vs}(hn:(vs.map (·.name)).Nodup){i v}(hv:vs[i]?=some v)(k):jS (.str v.name) ((vT vs).map JY) k=some (some (k+i,.int .i64 (i:Int))):=by
 rcases ZC (s:=v.name) (vT vs) k with⟨_,h2⟩|⟨j,q,h1,h2,h3⟩
 . exfalso;have hm:(v.name,AV.int .i64 (i:Int),i)∈vT vs:=qBj.2 ⟨(v,i),qAV (i:=i) (by rw[qDJ,hv];simp),rfl⟩;exact h2 _ hm rfl
 obtain⟨w,hw,rfl⟩:=qfg h1;have hij:j=i:=by
  obtain⟨hj1,hj2⟩:=qAU.1 hw;obtain⟨hi1,hi2⟩:=qAU.1 hv;have h2:w.name=v.name:=h2;have hp:=qCH.1 hn;rcases Nat.lt_trichotomy j i with h|h|h
  . exact absurd (by rw[qCz,qCz,hj2,hi2,h2]) (hp j i (by simpa using hj1) (by simpa using hi1) h)
  . exact h
  exact absurd (by rw[qCz,qCz,hj2,hi2,h2]) (hp i j (by simpa using hi1) (by simpa using hj1) h)
 subst hij;exact h3
structure PB(p)(lv:List Int)(c:Bc):Prop where
 rest:c.rest=qA p++[.sl 1 (lv.map qh) .none,.map c.M]
 mp:c.mp=vS p.vars
 len:lv.length=p.vars.length
 few:p.vars.length<=1000
 vars:∀v∈p.vars,j4 v=0
 nodup:(p.vars.map (·.name)).Nodup
 lev:∀(i:Nat) (v:Var) (l:Int),p.vars[i]?=some v->lv[i]?=some l->v.mode≠0->0<=l/\l+v.width<=20
def qjd(v:Var)(l:Int)(b:Nat->Bool):Int:=if v.mode=0 then v.value else(zt (fun k=>b (l.toNat+v.width.toNat-1-k)) v.width.toNat:Nat)
def qae{v}(h:j4 v=0):0<=v.value/\v.value<65536:=by
 unfold j4 at h;split at h
 . cases h
 split at h
 . cases h
 rename_i hc;have:(2:Int)^v.width.toNat<=2^8:=by
  have:v.width.toNat<=8:=by omega
  have h2:(2:Nat)^v.width.toNat<=2^8:=qBn (by omega) this;simpa using Int.ofNat_le.2 h2
 omega
def qdX{vs:List Var}{m U}(hm:U.H[m]?=some (vS vs))(hn:(vs.map (·.name)).Nodup){i:Nat}{v:Var}(hv:vs[i]?=some v):zD (Dof prog) U 176 (.map m) (.str v.name) false=some (.int .i64 (i:Int)):=by
 have:=qff hn hv 0;unfold vS at hm;generalize (vT vs).map JY=E at *;simp[*,zD,zI]
def qhi{w}(f):∀{n:Nat},w<=n->zt (fun j=>decide (j<w)&&f j) n=zt f w:=fun {n} h=>by
 apply qCS;intro i;rw[zc,zc];by_cases h1:i<w
 . have:i<n:=by omega
   simp[*]
 simp[h1]
section
variable {c:Bc}{d:List Nd}{H:List Blk}{T:List (Option Nat)}
def qnt:List (Nat×Sch×List Nat):=[(9,.step 0 [25,24] (.step 1 [25,24,23] (.step 2 [25,24,23,22,21,20,19,5,4,3] (.step 3 [25,24,23,22,21,20,19,5,4] (.step 4 [25,24,23,22,21,20,19,5] (.step 5 [25,24,23,22,21,20,19] (.step 6 [25,24,23,22,21,20,19,18,16,15,12,11,9,8,7] (.step 7 [25,24,23,22,21,20,19,18,16,15,12,11,9,8] (.step 8 [25,24,23,22,21,20,19,18,16,15,12,11,9] (.step 9 [25,24,23,22,21,20,19,18,16,15,12,11] (.step 10 [25,24,23,22,21,20,19,18,16,15,12,11] (.step 11 [25,24,23,22,21,20,19,18,16,15,12] (.step 12 [25,24,23,22,21,20,19,18,16,15] (.step 13 [25,24,23,22,21,20,19,18,16,15,14] (.step 14 [25,24,23,22,21,20,19,18,16,15] (.step 15 [25,24,23,22,21,20,19,18,16] (.step 16 [25,24,23,22,21,20,19,18] (.step 17 [25,24,23,22,21,20,19,18] (.step 18 [25,24,23,22,21,20,19] (.step 19 [25,24,23,22,21,20] (.step 20 [25,24,23] (.step 21 [25,24,23] (.step 22 [25,24,23] (.step 23 [25,24] (.step 24 [25] (.step 25 [] (.done)))))))))))))))))))))))))),[19,23])]
def qdV(h:BX c H d H){p:Problem}{lv:List Int}(hp:PB p lv c){i:Nat}{v:Var}{l:Int}(hv:p.vars[i]?=some v)(hl:lv[i]?=some l):
 qj prog (XG c) 193 [.ptr c.B 0,.str v.name] ⟨H,T⟩ (WQ c d H fun b=>qjd v l b):=by
 refine qFn ⟨false,qnt,[],[]⟩ qg func193 rfl (by kernel_rfl) ?_;have hk:∀j,H.length<=j->j≠c.B:=fun j hj=>(h.at hj).1
 obtain⟨tok,hb⟩:=h.b;have hm:=h.m;rw[hp.rest]at hb;rw[hp.mp]at hm;have hlook:=fun(u:List Blk) (T:List (Option Nat))=>qdX (U:=⟨H++u,T⟩) (qf hm u) hp.nodup hv
 have hve:=hp.vars v (qAV hv);have hvw:=zi hve;have hvv:=qae hve;have hil:=(qAU.1 hv).1;have hill:i<lv.length:=by rwa[hp.len]
 simp only[qA,qBl,qBk]at hb;simp[qf hb,hlook,hv,jI];by_cases hm0:v.mode=0
 . have hc:=yw v.value.toNat (by omega);rw[Int.toNat_of_nonneg hvv.1]at hc;have hVl:((List.range 16).map fun k=>if v.value.toNat.testBit k=true then 1 else 0).length=16:=(by simp);have hwo:=Wx h.ok v.value.toNat;have hval:=fun b=>JI h.ok b (n:=v.value.toNat) (by omega)
   generalize ((List.range 16).map fun k=>if v.value.toNat.testBit k=true then 1 else 0)=V at *;simp[hm0];refine qFp hc rfl ?_;simp[hVl,qs hVl,zr hVl (show(qB zh).length=16 from rfl),qW];refine⟨d,V,rfl,h.app _,qFU d,hwo,fun b=>?_⟩;unfold z7 qjd;dsimp only;rw[if_pos hm0,hval b];omega
 have hlev:=hp.lev i v l hv hl hm0;have hwn:v.width=(v.width.toNat:Int):=by omega
 have hln:l=(l.toNat:Int):=by omega
 generalize hwN:v.width.toNat=w at *;generalize hlN:l.toNat=L at *;have hl':lv[i]?=some (L:Int):=by rw[hl,hln]
 simp[hm0,hwn];refine kl w (fun k ev U=>ev 0=.ptr c.B 0/\ev 4=.ptr H.length 0/\ev 5=.int .i64 (i:Int)/\ev 6=.ptr (H.length+1) 0/\ev 7=.ptr (H.length+2) 0/\ev 30=.int .i64 (w:Int)/\ev 31=.int .i64 (k:Int) /\
  ∃ d' W,BX c H d' U.H/\ze d d'/\zd d' W/\U.H[H.length]?=some (.cells (qB zh))/\U.H[H.length+1]?=some (.cells (qM v))/\U.H[H.length+2]?=some (.cells (qB W)) /\
   ∀b j,j<16->qu d' b W j=(decide (j<k)&&b (L+w-1-j))) ?_ ?_ ?_
 . refine⟨by simp,by simp,by simp,by simp,by simp,by simp,by simp,d,zh,h.app _,qFU d,wo h.ok,lk0,?_,lk2,fun b j hj=>by rw[kH h.ok];simp⟩;have:=lk1 (H:=H) (p:=Blk.cells (qB zh)) (q:=Blk.cells (qM v)) (t:=[.cells (qB zh)]);simp only[qM,hwn]at this⊢;exact this
 . rintro k ev ⟨H1,T1⟩ R hR hkw ⟨e0,e4,e5,e6,e7,e30,e31,d1,W,hx,hg,hW,bZ,bV,bW,hbits⟩;obtain⟨t1,hb1⟩:=hx.b;rw[hp.rest]at hb1;simp only[qA,qBl,qBk]at hb1;simp only[qM,hwn]at bV;have hWl:=hW.1;have hk16:k<16:=(by omega);have hk1:k+1<=16:=hk16;have hwk:=wr (n:=(k:Int)+1) (by omega) (by omega);have hw1:=wr (n:=(L:Int)+w) (by omega) (by omega);have hw2:=wr (n:=(L:Int)+w-1) (by omega) (by omega);have hw3:=wr (n:=(L:Int)+w-1-k) (by omega) (by omega);have hlevel:(L:Int)+w-1-k=((L+w-1-k:Nat):Int):=(by omega);rw[hlevel]at hw3;have hbit:=fun T=>(qvW d1 hx.ok (L+w-1-k) (by omega) H1 T).leq (args:=[.agg [.sl 3 (d1.map qN) t1],.int .i64 ((L+w-1-k:Nat):Int)]) (by simp[zm,Leq,qFy])
   generalize hLL:L+w-1-k=LL at *;simp[*,show(k:Int)<w by omega];rw[qU rfl];simp[zg,e0,e5,e6,hb1,bV,hl',hw1,hw2,hlevel,hw3];refine qFs (hbit T1).glo ?_;rintro v2 ⟨H2,T2⟩ ⟨hk2,rfl|⟨d2,i2,t2,rfl,g2,hd2,hi2,hm2,hs2⟩⟩
   . simp[zg];exact qFs (wW c (Q:=fun _ _=>False) (hx.same hk2).kp0 _ _) fun _ _ h=>h.elim
   simp[zg];refine qFs (Jt c (hx.self.same hk2) hd2 i2 _) ?_;rintro v3 ⟨H3,T3⟩ ⟨rfl,hxx⟩;have hx3:=hx.call hxx;have up:∀{k:Nat} {x:Blk},H.length<=k->H1[k]?=some x->H3[k]?=some x:=fun {k x} hl hq=>hxx.loc hq (hk k hl)
   have cW:=up (by omega) bW;have hl3:=(qAU.1 cW).1;have hkl:k<W.length:=(by omega);simp[zg,e7,e31,cW,hWl,show(k:Int)<16 by omega,hk1,kF,hwk];refine hR _ _ ⟨by simp[e0],by simp[e4],by simp[e5],by simp[e6],by simp[e7],by simp[e30],by simp,d2,W.set k i2,hx3.set (by omega) _,hg.trans g2,(hW.grown g2).set hi2,?_,?_,qA0 hl3,fun b j hj=>?_⟩
   . rw[qAX (by omega)];exact up (by omega) bZ
   . rw[qAX (by omega)];have:=up (by omega) bV;simp only[qM,hwn]at this⊢;exact this
   rw[w6 hkl];by_cases hjk:j=k
   . subst hjk;rw[if_pos rfl,hs2 b,hLL]
     cases hbb:b LL with
     |true=>simp[qeN hx.ok]
     |false=>simp[Yo hx.ok]
   rw[if_neg hjk,zM hx.ok g2 hW b hj,hbits b j hj];by_cases h1:j<k
   . have h2:j<k+1:=(by omega);simp[*]
   have h2:¬j<k+1:=(by omega);simp[*]
 rintro ev ⟨H1,T1⟩ ⟨e0,e4,e5,e6,e7,e30,e31,d1,W,hx,hg,hW,bZ,bV,bW,hbits⟩;have hWl:=hW.1;have hHl:=(qAU.1 bZ).1;simp[-getElem?_pos,e4,e7,e30,e31,bW,bZ,hWl,qs hWl,zr hWl (show(qB zh).length=16 from rfl),qW,hHl];refine⟨d1,W,rfl,hx.set (by omega) _,hg,hW,fun b=>?_⟩;unfold z7 qjd;dsimp only;rw[if_neg hm0,hwN,hlN,zw (hbits b),qhi _ (by omega)]
end
def QV(vs:List Var)(lv:List Int)(b:Nat->Bool):List Int:=(vs.zip lv).map fun q=>qjd q.1 q.2 b
def YP{vs lv}(h:lv.length=vs.length)(b):(QV vs lv b).length=vs.length:=by simp[QV,h]
def qe2{vs:List Var}{lv:List Int}{i:Nat}{v:Var}{l:Int}(hv:vs[i]?=some v)(hl:lv[i]?=some l)(b:Nat->Bool):(QV vs lv b)[i]?=some (qjd v l b):=by
 unfold QV;rw[qBp,qCA (z:=(v,l)) |>.2 ⟨hv,hl⟩];rfl
def Qp:∀{vs:List Var}{a:List Int}{i:Nat}{v:Var}{x:Int},(vs.map (·.name)).Nodup->vs[i]?=some v->a[i]?=some x->jB ((vs.zip a).map fun q=>⟨q.1.name,q.2⟩) v.name=some (qy x)
 |[],_,i,v,x,_,hv,_=>by simp at hv
 |w::vs,[],i,v,x,_,_,hx=>by simp at hx
 | w::vs,y::a,0,v,x,hn,hv,hx=>by
  simp at hv hx;subst hv hx;simp[jB]
 | w::vs,y::a,i+1,v,x,hn,hv,hx=>by
  simp only[qA7,qDA]at hn;have ih:=Qp (vs:=vs) (a:=a) (i:=i) (v:=v) (x:=x) hn.2 (by simpa using hv) (by simpa using hx);have hne:¬w.name=v.name:=fun e=>hn.1 (qBj.2 ⟨v,qAV (i:=i) (by simpa using hv),e.symm⟩)
  have hne':(w.name==v.name)=false:=by simpa using hne
  unfold jB at ih⊢;simp only[qEx,qA7,qDC,hne'];exact ih
def qhj{v}(h:j4 v=0)(l b):0<=qjd v l b/\qjd v l b<=65535:=by
 have h1:=qae h;have h2:=zi h;unfold qjd;split
 . omega
 have:=kR (fun k=>b (l.toNat+v.width.toNat-1-k)) v.width.toNat;have h3:2^v.width.toNat<=2^8:=qBn (by omega) (by omega);omega
def qla{p:Problem}{lv:List Int}(hl:lv.length=p.vars.length)(hn:(p.vars.map (·.name)).Nodup)(hve:∀v∈p.vars,j4 v=0){i:Nat}{v:Var}{l:Int}(hv:p.vars[i]?=some v)(hli:lv[i]?=some l)(b:Nat->Bool):
 (jB (yo p.vars (QV p.vars lv b)) v.name).getD 0=qjd v l b:=by
 have h1:=Qp hn hv (qe2 hv hli b);unfold yo;rw[if_pos (YP hl b),h1];have h2:=qhj (hve v (qAV hv)) l b;exact QB h2.1 h2.2
def Ky{V}(hV:V.length=16):∀{Ws:List (List Nat)}{i:Nat},(∀w∈Ws,w.length=16)->i<Ws.length->zA (Ws.flatMap qB) (i*16) (qB V)=(Ws.set i V).flatMap qB
 |[],i,_,h=>by simp at h
 | a::r,0,h,_=>by
  rw[qBm,qCK,qDU,qBm];exact vn _ _ _ (by rw[jG,jG,h a (by simp),hV])
 | a::r,i+1,h,hi=>by
  have hi':i<r.length:=by simpa using hi
  rw[qBm,qDB,qBm,<- Ky hV (Ws:=r) (i:=i) (fun w hw=>h w (by simp[hw])) hi',qDs,qCX];have:=Qb (c:=r.flatMap qB) (qB V) (qB a) (i*16)
  rwa[jG,h a (by simp)]at this
def qiM(p:Problem)(e:Ex):Prop:=∀x∈pre e,qv x=0/\x.op≠3/\x.op≠24/\(x.op=2->Qn p.vars x.name=true)/\x.args.length<=1000
def qiM.arg{p e a}(h:qiM p e)(ha:a∈e.args):qiM p a:=fun x hx=>h x (by rw[jC];exact qCg _ (ZU.2 ⟨a,ha,hx⟩))
def qiM.self{p e}(h:qiM p e):qv e=0/\e.op≠3/\e.op≠24/\(e.op=2->Qn p.vars e.name=true)/\e.args.length<=1000:=h e (by rw[jC];simp)
section
variable {c:Bc}{d:List Nd}{H:List Blk}{T:List (Option Nat)}
def qfM:List (Nat×Sch×List Nat):=[(13,.step 1 [8,7,6,5] (.step 2 [8,7,6,5,4,3] (.step 3 [8,7,6,5,4] (.step 4 [8,7,6,5] (.fork (.cons 0 (.step 5 [8,7,6] (.step 6 [8,7] (.step 7 [8] (.step 8 [] (.done))))) (.cons 5 (.step 0 [8,7,6] (.step 6 [8,7] (.step 7 [8] (.step 8 [] (.done))))) (.nil))))))),[5,6]),(15,.step 0 [5,4] (.step 1 [5,4,3,2] (.step 2 [5,4,3] (.step 3 [5,4] (.step 4 [5] (.step 5 [] (.done)))))),[4]),(17,.step 0 [6,5] (.step 1 [6,5] (.step 2 [6,5,4,3] (.step 3 [6,5,4] (.step 4 [6,5] (.step 5 [6] (.step 6 [] (.done))))))),[5]),(19,.step 0 [5,4] (.step 1 [5,4,3,2] (.step 2 [5,4,3] (.step 3 [5,4] (.step 4 [5] (.step 5 [] (.done)))))),[4]),(21,.step 0 [8,7,6] (.step 1 [8,7,6,3,2] (.step 2 [8,7,6,3] (.step 3 [8,7,6] (.step 4 [8,7,6,5] (.step 5 [8,7,6] (.step 6 [8,7] (.step 7 [8] (.step 8 [] (.done))))))))),[6]),(23,.step 0 [6,4] (.step 1 [6,4,3,2] (.step 2 [6,4,3] (.step 3 [6,4] (.fork (.cons 4 (.step 5 [6] (.step 6 [] (.done))) (.cons 5 (.step 4 [6] (.step 6 [] (.done))) (.nil))))))),[4]),(24,.step 0 [8,7,2,1] (.step 1 [8,7,2] (.step 2 [8,7] (.step 3 [8,7,5,4] (.step 4 [8,7,5] (.step 5 [8,7] (.step 6 [8,7] (.step 7 [8] (.step 8 [] (.done))))))))),[7]),(25,.step 0 [10,9] (.step 1 [10,9,2] (.step 2 [10,9] (.step 3 [10,9,5,4] (.step 4 [10,9,5] (.step 5 [10,9] (.step 6 [10,9,8,7] (.step 7 [10,9,8] (.step 8 [10,9] (.step 9 [10] (.step 10 [] (.done))))))))))),[9])]
def qbB(h:BX c H d H){p lv}(hp:PB p lv c)(e)(he:qiM p e)(h0:e.args=[]):
 qj prog (XG c) 133 [.ptr c.B 0,.agg (qt e)] ⟨H,T⟩ (WQ c d H fun b=>yn (yo p.vars (QV p.vars lv b)) e):=by
 refine qFn ⟨false,qfM,[],[]⟩ qg func133 rfl (by kernel_rfl) ?_;obtain⟨hn,h3,h24,h2,_⟩:=he.self;obtain⟨o1,o2,o3,o4,o5,o6,o7,o8⟩:=jk hn;have hop:e.op=1\/e.op=2:=by
  unfold qm at o5;rw[h0]at o5;split at o5
  . simp at o5
  simp at o5;unfold zE at o5
  repeat' split at o5
  all_goals omega
 have hk:∀j,H.length<=j->j≠c.B:=fun j hj=>(h.at hj).1
 have henc:=qc e;rw[h0]at henc;simp at henc;rw[henc];simp[qG,jI,qW];have hx1:=h.app [.cells [.ptr c.B 0],.cells [.int .i64 e.op,.int .i64 e.n,.str e.name,.sl 4 [] .none],.cells (qB zh)];refine qFu (fun n ev U=>ev 2=.ptr H.length 0/\ev 3=.ptr (H.length+1) 0/\ev 4=.ptr (H.length+2) 0/\ev 15=.int .i64 0/\ev 16=.int .i64 0/\BX c H d U.H/\U.H[H.length]?=some (.cells [.ptr c.B 0])/\U.H[H.length+1]?=some (.cells [.int .i64 e.op,.int .i64 e.n,.str e.name,.sl 4 [] .none])/\U.H[H.length+2]?=some (.cells (qB zh))) 0 ?_ ?_
 . exact⟨by simp,by simp,by simp,by simp,by simp,hx1,lk0,lk1,lk2⟩
 rintro n ev ⟨H1,T1⟩ R hR ⟨e2,e3,e4,e15,e16,hx,bB,bE,bZ⟩;have hZl:=(qAU.1 bZ).1;simp[*];rcases hop with hop|hop
 . have hnn:=o3 hop;have hc:=yw e.n.toNat (by omega);rw[Int.toNat_of_nonneg hnn.1]at hc;have hVl:((List.range 16).map fun k=>if e.n.toNat.testBit k=true then 1 else 0).length=16:=(by simp);have hwo:=Wx h.ok e.n.toNat;have hval:=fun b=>JI h.ok b (n:=e.n.toNat) (by omega)
   generalize ((List.range 16).map fun k=>if e.n.toNat.testBit k=true then 1 else 0)=V at *;simp[*];refine qFp hc rfl ?_;simp[*,-getElem?_pos,qs hVl,zr hVl (show(qB zh).length=16 from rfl),qW];refine⟨d,V,rfl,hx.set (by omega) _,qFU d,hwo,fun b=>?_⟩;dsimp only;rw[yX];unfold z7 vw;rw[if_pos hop,hval b];omega
 have hva:=h2 hop;unfold Qn at hva;rw[qBr]at hva;obtain⟨v,hm,hvn⟩:=hva;have hvn:v.name=e.name:=by simpa using hvn
 obtain⟨i,hi⟩:=qBB hm;have hil:=(qAU.1 hi).1;obtain⟨l,hl⟩:∃l,lv[i]?=some l:=⟨_,qAW (by rwa[hp.len])⟩;have hw:=qdV hx.self hp hi hl (T:=T1);rw[hvn]at hw;have ht:¬e.op=1:=by omega
 simp[*];refine qFs hw ?_;rintro vv ⟨H2,T2⟩ ⟨d2,W,rfl,hxx,hg2,hW,hv2⟩;have cZ:=hxx.loc bZ (hk _ (by omega));have hl2:=(qAU.1 cZ).1;have hWl:=hW.1;simp[*,-getElem?_pos,qs hWl,zr hWl (show(qB zh).length=16 from rfl),qW];refine⟨d2,W,rfl,(hx.call hxx).set (by omega) _,hg2,hW,fun b=>?_⟩;rw[hv2 b];dsimp only;rw[yX];unfold vw;rw[if_neg ht,if_pos hop,<- hvn,qla hp.len hp.nodup hp.vars hi hl b]
end
def qoo(n):(List.replicate n (qB zh)).flatten=(List.replicate n zh).flatMap qB:=by rw[qCD,qDW]
def qkF{x:Nat}:∀l:List Nat,jh (x:Int) (l.map fun n:Nat=>(n:Int))=qp0 x l
 |[]=>rfl
 |[_]=>rfl
 | a::b::r=>by
  simp only[qA7,jh,qp0,qkF r];congr 2
  . rw[qBP,decide_eq_true_iff,decide_eq_true_iff];omega
  rw[qBP,decide_eq_true_iff,decide_eq_true_iff];omega
section
variable {c:Bc}{d:List Nd}{H:List Blk}{T:List (Option Nat)}
def qlE(h:BX c H d H){h1 h2 t x y}(b1:H[h1]?=some (.cells [.ptr c.B 0]))(b2:H[h2]?=some (.cells [.int .i64 (t:Int)]))(ht:t<d.length)(hx:x<d.length)(hy:y<d.length):
 qj prog (XG c) 201 [.int .i64 x,.int .i64 y,.ptr h1 0,.ptr h2 0] ⟨H,T⟩ (NQ c d H fun b=>evD d b t&&evD d b x||!evD d b t&&evD d b y):=by
 refine qFo qg func201 rfl (by kernel_rfl) ?_;simp[*];refine qFs (qlD c h ht hx hy) ?_;rintro v ⟨H2,T2⟩ ⟨d2,y,rfl,hxx2,hg2,hy2,hv2⟩;simp;exact⟨d2,y,rfl,hxx2,hg2,hy2,hv2⟩
def qbA(h:BX c H d H){p lv}(hp:PB p lv c)(e)(he:qiM p e)(h0:e.args≠[])
 (ih:∀a∈e.args,∀d H T,BX c H d H->qj prog (XG c) 133 [.ptr c.B 0,.agg (qt a)] ⟨H,T⟩ (WQ c d H fun b=>yn (yo p.vars (QV p.vars lv b)) a)):
 qj prog (XG c) 133 [.ptr c.B 0,.agg (qt e)] ⟨H,T⟩ (WQ c d H fun b=>yn (yo p.vars (QV p.vars lv b)) e):=by
 obtain⟨val,hvale⟩:∃val:(Nat->Bool)->Ex->Int,∀b e,yn (yo p.vars (QV p.vars lv b)) e=val b e:=⟨_,fun _ _=>rfl⟩;simp only[hvale]at ih⊢;refine qFn ⟨false,qfM,[],[]⟩ qg func133 rfl (by kernel_rfl) ?_;obtain⟨hn,h3,h24,h2,hal⟩:=he.self;have hk:∀j,H.length<=j->j≠c.B:=fun j hj=>(h.at hj).1
 have hpos:=qBf.2 h0;have hpos':¬(e.args.length:Int)=0:=by omega
 rw[qc e];simp[qG,jI,qW,show(e.args.length:Int)<=549755813888 by omega,h0,qoo];refine qFF e.args (fun dn ev U=>ev 2=.ptr H.length 0/\ev 3=.ptr (H.length+1) 0/\ev 4=.ptr (H.length+2) 0/\ev 5=.ms (H.length+3) 0 e.args.length 16/\ev 14=.sl 4 (e.args.map qt) .none/\ev 15=.int .i64 e.args.length/\ev 16=.int .i64 dn.length /\
  ∃ (d':List Nd) (Ws:List (List Nat)),BX c H d' U.H/\ze d d'/\Ws.length=e.args.length/\(∀w∈Ws,zd d' w)/\(∀b,(Ws.take dn.length).map (z7 d' b)=dn.map (val b)) /\
   U.H[H.length]?=some (.cells [.ptr c.B 0])/\U.H[H.length+1]?=some (.cells [.int .i64 e.op,.int .i64 e.n,.str e.name,.sl 4 (e.args.map qt) .none])/\U.H[H.length+2]?=some (.cells (qB zh))/\U.H[H.length+3]?=some (.cells (Ws.flatMap qB))) ?_ ?_ ?_
 . refine⟨by simp,by simp,by simp,by simp,by simp,by simp,by simp,d,List.replicate e.args.length zh,?_,qFU d,by simp,fun w hw=>?_,fun b=>by simp,?_,?_,?_,?_⟩
   . exact h.app _
   . rw[qCL]at hw;rw[hw.2];exact wo h.ok
   . exact lk0
   . exact lk1
   . exact lk2
   . exact lk3
 . rintro dn a rest ev ⟨H1,T1⟩ R hR hd hx hlt ⟨e2,e3,e4,e5,e14,e15,e16,d1,Ws,hx1,hg,hWl,hWs,hv,bB,bE,bZ,bW⟩;dsimp only at hx1 bB bE bZ bW;have ham:=qAV hx;have hdw:=wr (n:=(dn.length:Int)+1) (by omega) (by omega);have hlt':(dn.length:Int)<e.args.length:=(by omega);have hH1l:=(qAU.1 bW).1;have hihx:=hx1.self.app [.cells (qt a)];have hih:=fun T=>ih a ham d1 _ T (hx1.app [.cells (qt a)]).self
   have hflen:=Wf (Ws:=Ws) fun w hw=>(hWs w hw).1
   rw[hWl]at hflen;have hput:∀{V:List Nat},V.length=16->zA (Ws.flatMap qB) (dn.length*16) (qB V)=(Ws.set dn.length V).flatMap qB:=fun {V} hV=>Ky hV (fun w hw=>(hWs w hw).1) (by omega)
   rw[qc a]at hih;simp[e2,e5,e14,e15,e16,hlt',hx,qc a,qf bB];refine qFs (hih T1) ?_;rintro v ⟨H2,T2⟩ ⟨d2,V,rfl,hxx2,hg2,hV,hv2⟩;dsimp only at hv2;have hVl:=hV.1;have hx2:=(hx1.app [.cells (qt a)]).call (by rwa[qc a]);have up:∀{k:Nat} {x:Blk},H.length<=k->H1[k]?=some x->H2[k]?=some x:=fun {k x} hl hq=>hxx2.loc (qf hq _) (hk k hl)
   have cW:=up (by omega) bW;have hl2:=(qAU.1 cW).1;simp[e16,hlt',cW,hflen,show dn.length*16+16<=e.args.length*16 by omega,hVl,hput hVl,hdw];refine hR _ _ ⟨by simp[e2],by simp[e3],by simp[e4],by simp[e5],by simp[e14],by simp[e15],by simp,d2,Ws.set dn.length V,hx2.set (by omega) _,hg.trans hg2,by simp[hWl],fun w hw=>?_,fun b=>?_,?_,?_,?_,qA0 hl2⟩
   . rcases qCF hw with hw|rfl
     . exact(hWs w hw).grown hg2
     . exact hV
   . have h1:(Ws.set dn.length V).take (dn++[a]).length=Ws.take dn.length++[V]:=by
      rw[qAY,qBo,qBi,qA0 (by omega),List.take_set_of_le (qA5 _)];rfl
     rw[h1,qBV,qBV,<- hv b];congr 1
     . apply qCa;intro w hw;exact qhP hx1.ok hg2 (hWs w (qBH hw)) b
     simp only[qA7,qBy];rw[hv2 b]
   . rw[qAX (by omega)];exact up (by omega) bB
   . rw[qAX (by omega)];exact up (by omega) bE
   rw[qAX (by omega)];exact up (by omega) bZ
 rintro ev ⟨H1,T1⟩ ⟨e2,e3,e4,e5,e14,e15,e16,d1,Ws,hx,hg,hWl,hWs,hv,bB,bE,bZ,bW⟩;dsimp only at hx bB bE bZ bW;have hvf:∀b,Ws.map (z7 d1 b)=e.args.map (val b):=fun b=>by
  have:=hv b
  rwa[qAZ (by omega)]at this
 have hflen:=Wf (fun w hw=>(hWs w hw).1);have hnode:∀b,val b e=opW e.op (Ws.map (z7 d1 b)):=fun b=>by
  rw[<- hvale,yX];unfold vw;rw[hvf b];have:(List.map (yn (yo p.vars (QV p.vars lv b))) e.args)=e.args.map (val b):=qCa fun a _=>hvale b a
  rw[this];have h1:e.op≠1/\e.op≠2:=by
   obtain⟨o1,o2,o3,o4,o5,o6,o7,o8⟩:=jk hn;unfold qm at o5;constructor
   . intro h;rw[h]at o5;simp[zE]at o5;exact h0 o5
   intro h;rw[h]at o5;simp[zE]at o5;exact h0 o5
  rw[if_neg h1.1,if_neg h1.2,if_neg h3,if_neg h24]
 have fin:∀{H4:List Blk} {d4:List Nd} {V:List Nat} {τ:St},τ.H=H4.set (H.length+2) (.cells (qB V))->BX c H d4 H4->ze d1 d4->zd d4 V->(∀b,z7 d4 b V=opW e.op (Ws.map (z7 d1 b)))->WQ c d H (fun b=>val b e) (.agg (qB V)) τ:=fun {H4 d4 V τ} hτ hx4 hg4 hV hvv=>by
  refine⟨d4,_,rfl,?_,hg.trans hg4,hV,fun b=>by rw[hvv];exact(hnode b).symm⟩;rw[hτ];exact hx4.set (by omega) _
 have hZl:=(qAU.1 bZ).1;obtain⟨o1,o2,o3,o4,o5,o6,o7,o8⟩:=jk hn;have hop:((e.op=4\/e.op=5\/e.op=6\/e.op=25)/\e.args.length=1)\/(e.op=22/\e.args.length=3)\/(e.op=23/\3<=e.args.length)\/(7<=e.op/\e.op<=21/\e.args.length=2):=by
  unfold qm at o5;split at o5
  . simp only[decide_eq_true_eq]at o5;omega
  simp only[decide_eq_true_eq]at o5;unfold zE at o5
  repeat' split at o5
  all_goals omega
 have hZ16:(qB zh).length=16:=rfl;have ht:=hx.ok.two;rcases hop with⟨hop,h1⟩|⟨hop,h1⟩|⟨hop,h1⟩|⟨hop7,hop21,h1⟩
 . -- one operand
   rw[h1]at hWl e5;obtain⟨w0,rfl⟩:=List.length_eq_one_iff.1 hWl;have hw0:=hWs w0 (by simp);have hw0l:=hw0.1;simp only[qBm,qDK,qBC]at bW;rcases hop with hop|hop|hop|hop
   . simp[e3,e15,e16,bE,hop,h1];rw[qU rfl];simp[zg,e2,e5,bB,bW,hw0l,qs hw0l];have key:=QE hx.self hw0 (T:=T1);refine⟨qFs key ?_,qFs key ?_⟩
     all_goals
      rintro v ⟨H2,T2⟩ ⟨d2,t,rfl,hxx2,hg2,ht2,hv2⟩;dsimp only at hv2;have hx2:=hx.call hxx2;have cB:=hxx2.loc bB (hk _ (by omega));dsimp only at cB;simp[zg,e2,cB];refine qFs (Q9 c hx2.self ht2) ?_;rintro v ⟨H3,T3⟩ ⟨d3,u,rfl,hxx3,hg3,hu,hv3⟩;dsimp only at hv3;have hx3:=hx2.call hxx3;have cZ:=hxx3.loc (hxx2.loc bZ (hk _ (by omega))) (hk _ (by omega));have hl3:=(qAU.1 cZ).1;dsimp only at cZ hl3;simp[zg];refine qFp (jo u) rfl ?_;have cut1:(qB (u::List.replicate 15 0)).take 16=qB (u::List.replicate 15 0):=qs rfl;have put1:zA (qB zh) 0 (qB (u::List.replicate 15 0))=qB (u::List.replicate 15 0):=zr rfl rfl;have yb:=fin (H4:=H3) (d4:=d3) (V:=u::List.replicate 15 0) (τ:=⟨H3.set (H.length+2) (.cells (qB (u::List.replicate 15 0))),T3⟩) rfl hx3 (hg2.trans hg3) (qcr hx3.ok hu) (fun b=>by
       rw[qaz hx3.ok,hv3,hv2,vW,hop];simp[opW,unW,z7])
      simp only[List.reduceReplicate]at yb cut1 put1;simp[-getElem?_pos,zg,e4,cZ,qW,put1,hl3,cut1];exact yb
   . simp[e3,e15,e16,bE,hop,h1];rw[qU rfl];simp[zg,e2,e5,bB,bW,hw0l,qs hw0l];refine qFs (Z9 hx.self hw0) ?_;rintro v ⟨H2,T2⟩ ⟨d2,V,rfl,hxx2,hg2,hV,hv2⟩;dsimp only at hv2;have hVl:=hV.1;have cZ:=hxx2.loc bZ (hk _ (by omega));have hl3:=(qAU.1 cZ).1;dsimp only at cZ hl3;simp[-getElem?_pos,zg,e4,cZ,qW,hVl,zr hVl hZ16,hl3,qs hVl];refine fin rfl (hx.call hxx2) hg2 hV fun b=>?_
     unfold z7;rw[zw (hv2 b),qxM,hop];rfl
   . have hc0:=yw 0 (by omega);rw[qgF]at hc0;simp only[qDt]at hc0;simp[e3,e15,e16,bE,hop,h1];rw[qU rfl];simp[zg,e2,bB];refine qFp hc0 rfl ?_;simp[zg,e5,bW,hw0l,qs hw0l];refine qFs (Z6 hx.self (wo hx.ok) hw0) ?_;rintro v ⟨H2,T2⟩ ⟨d2,V,rfl,hxx2,hg2,hV,hv2⟩;dsimp only at hv2;have hVl:=hV.1;have cZ:=hxx2.loc bZ (hk _ (by omega));have hl3:=(qAU.1 cZ).1;dsimp only at cZ hl3;simp[-getElem?_pos,zg,e4,cZ,qW,hVl,zr hVl hZ16,hl3,qs hVl];refine fin rfl (hx.call hxx2) hg2 hV fun b=>?_
     rw[qer (hv2 b),<- wu,qt4,kQ fun k _=>kH hx.ok b k,hop];simp[opW,unW,z7]
   simp[e3,e15,e16,bE,hop,h1];rw[qU rfl];simp[zg,e2,e5,bB,bW,hw0l,qs hw0l];refine qFs (qrN hx.self hw0) ?_;rintro v ⟨H2,T2⟩ ⟨d2,V,rfl,hxx2,hg2,hV,hv2⟩;dsimp only at hv2;have hVl:=hV.1;have cZ:=hxx2.loc bZ (hk _ (by omega));have hl3:=(qAU.1 cZ).1;dsimp only at cZ hl3;simp[-getElem?_pos,zg,e4,cZ,qW,hVl,zr hVl hZ16,hl3,qs hVl];refine fin rfl (hx.call hxx2) hg2 hV fun b=>?_
   have hr:=qhO d1 b w0;have hwi:=QB hr.1 hr.2;unfold z7 at hwi⊢;rw[hv2 b,<- VD _ 16 (by omega),hop];simp[opW,unW,hwi]
 . -- a choice
   rw[h1]at hWl e5;obtain⟨w0,w1,w2,rfl⟩:∃w w' w'',Ws=[w,w',w'']:=by
    match Ws,hWl with
    |[a,b,c],_=>exact⟨a,b,c,rfl⟩
   have hw0:=hWs w0 (by simp);have hw0l:=hw0.1;have hw1:=hWs w1 (by simp);have hw1l:=hw1.1;have hw2:=hWs w2 (by simp);have hw2l:=hw2.1;simp only[qBm,qDK,qBC]at bW;have c0:(qB w0++(qB w1++qB w2)).take 16=qB w0:=(by rw[qB6 (by simp[hw0l]),qs hw0l]);have c1:((qB w0++(qB w1++qB w2)).drop 16).take 16=qB w1:=by
    rw[qCN,qBq (by simp[hw0l]),jG,hw0l,qBS,qBZ,qBk,qB6 (by simp[hw1l]),qs hw1l]
   have c2:(qB w0++(qB w1++qB w2)).drop 32=qB w2:=by
    rw[qCN,qBq (by simp[hw0l]),jG,hw0l,qBk,qCN,qBq (by simp[hw1l]),jG,hw1l];rfl
   have cl:(qB w0++(qB w1++qB w2)).length=48:=(by simp[hw0l,hw1l,hw2l]);generalize qB w0++(qB w1++qB w2)=F at *;simp[e3,e15,e16,bE,hop,h1];rw[qU rfl];simp[zg,e2,e5,bB,bW,cl,c0]
   -- what is behind the truth
   have rest:∀{H2:List Blk} {T2:List (Option Nat)} {d2:List Nd} {t N:Nat},BX c H d2 H2->ze d1 d2->t<d2.length->(∀b,evD d2 b t=Je (qu d1 b w0) 16)->(∀{k:Nat} {x:Blk},H.length<=k->H1[k]?=some x->H2[k]?=some x)->H2[N]?=some (.cells [.int .i64 (t:Int)])->N≠c.B ->
    qj prog (XG c) 200 [.agg (qB w1),.agg (qB w2),.fn 201 [] [.ptr H.length 0,.ptr N 0]] ⟨H2,T2⟩ (BQ c d2 H2 fun b k=>if Je (qu d1 b w0) 16=true then qu d1 b w1 k else qu d1 b w2 k):=by
    intro H2 T2 d2 t N hx2 hg2 ht2 htv up bN hN;have cB:=up (qA5 _) bB;have:=YC hx2.self (hw1.grown hg2) (hw2.grown hg2) (T:=T2) (g:=201) (first:=[]) (cap:=[.ptr H.length 0,.ptr N 0]) (F:=fun b p q=>Je (qu d1 b w0) 16&&p||!Je (qu d1 b w0) 16&&q) (fun d3 H3 T3 x y hx3 hg3 hxl hyl=>by
     have key:=qlE hx3.self (h1:=H.length) (h2:=N) (t:=t) (x:=x) (y:=y) (T:=T3) (hx3.loc cB (hk _ (qA5 _))) (hx3.loc bN hN) (qBd ht2 hg3.len) hxl hyl;have e:(fun b=>evD d3 b t&&evD d3 b x||!evD d3 b t&&evD d3 b y)=fun b=>Je (qu d1 b w0) 16&&evD d3 b x||!Je (qu d1 b w0) 16&&evD d3 b y:=by
      funext b;rw[hg3.ev hx2.ok b ht2,htv]
     rw[e]at key;exact key)
    refine this.imp fun v U ⟨d',W,e1,e2,e3,e4,e5⟩=>⟨d',W,e1,e2,e3,e4,fun b k hk=>?_⟩
    rw[e5 b k hk];dsimp only;rw[zM hx.ok hg2 hw1 b hk,zM hx.ok hg2 hw2 b hk];cases Je (qu d1 b w0) 16<;>simp
   have yP:∀{H4:List Blk} {T4:List (Option Nat)} {d2 d4:List Nd} {V:List Nat},BX c H d4 H4->ze d1 d2->ze d2 d4->zd d4 V->(∀b k,k<16->qu d4 b V k=if Je (qu d1 b w0) 16=true then qu d1 b w1 k else qu d1 b w2 k)->WQ c d H (fun b=>val b e) (.agg (qB V)) ⟨H4.set (H.length+2) (.cells (qB V)),T4⟩:=fun {H4 T4 d2 d4 V} hx4 hg2 hg4 hV hvv=>by
    refine fin rfl hx4 (hg2.trans hg4) hV fun b=>?_
    unfold z7;rw[zw (hvv b),hop,vW];by_cases h:(zt (qu d1 b w0) 16:Int)=0
    . have h':zt (qu d1 b w0) 16=0:=(by omega);simp[opW,h']
    have h':¬zt (qu d1 b w0) 16=0:=(by omega);simp[opW,h']
   refine⟨qFs (QE hx.self hw0) ?_,qFs (QE (hx.app _).self hw0) ?_⟩
   . rintro v ⟨H2,T2⟩ ⟨d2,t,rfl,hxx2,hg2,ht2,hv2⟩;dsimp only at hv2;have hx2:=hx.call hxx2;have up:∀{k:Nat} {x:Blk},H.length<=k->H1[k]?=some x->H2[k]?=some x:=fun {k x} hl hq=>hxx2.loc hq (hk k hl)
     have cW:=up (by omega) bW;simp[zg];rw[qU rfl];simp[zg,e2,e5,qf cW,cl,c1,c2,qs hw2l];refine qFs (rest (hx2.app [.cells [.int .i64 (t:Int)]]) hg2 ht2 hv2 (fun hl hq=>qf (up hl hq) _) lk0 (hk _ (hx2.kp.1))) ?_;rintro v ⟨H3,T3⟩ ⟨d3,V,rfl,hxx3,hg3,hV,hv3⟩;have hx3:=(hx2.app [.cells [.int .i64 (t:Int)]]).call hxx3;have hVl:=hV.1;have cZ:=hxx3.loc (qf (up (by omega) bZ) _) (hk _ (by omega));have hl3:=(qAU.1 cZ).1;dsimp only at cZ hl3;simp[-getElem?_pos,zg,e4,cZ,qW,hVl,zr hVl hZ16,hl3,qs hVl];exact yP hx3 hg2 hg3 hV hv3
   rintro v ⟨H2,T2⟩ ⟨d2,t,rfl,hxx2,hg2,ht2,hv2⟩;dsimp only at hv2;have hx2:=(hx.app _).call hxx2;have up:∀{k:Nat} {x:Blk},H.length<=k->H1[k]?=some x->H2[k]?=some x:=fun {k x} hl hq=>hxx2.loc (qf hq _) (hk k hl)
   have hH1l:=hx.kp.1;have bN:=hxx2.loc (lk0 (H:=H1) (p:=Blk.cells [.int .i64 0]) (t:=[])) (hk _ hH1l);have hNl:=(qAU.1 bN).1;have hH13:=(qAU.1 bW).1;have cW:=up (by omega) bW;have up3:∀{k:Nat} {x:Blk},H.length<=k->H1[k]?=some x->(H2.set H1.length (.cells [.int .i64 (t:Int)]))[k]?=some x:=fun {k x} hl hq=>by
    have:=(qAU.1 hq).1;rw[qAX (by omega)];exact up hl hq
   have dW:=up3 (by omega) bW;simp[zg,bN];rw[qU rfl];simp[zg,e2,e5,dW,cl,c1,c2,qs hw2l];refine qFs (rest (hx2.set hH1l _) hg2 ht2 hv2 up3 (qA0 hNl) (hk _ hH1l)) ?_;rintro v ⟨H3,T3⟩ ⟨d3,V,rfl,hxx3,hg3,hV,hv3⟩;have hx3:=(hx2.set hH1l _).call hxx3;have hVl:=hV.1;have cZ:=hxx3.loc (up3 (by omega) bZ) (hk _ (by omega));have hl3:=(qAU.1 cZ).1;dsimp only at cZ hl3;simp[-getElem?_pos,zg,e4,cZ,qW,hVl,zr hVl hZ16,hl3,qs hVl];exact yP hx3 hg2 hg3 hV hv3
 . -- ranges
   obtain⟨w0,Wr,rfl⟩:∃w r,Ws=w::r:=by
    match Ws,hWl with
    |a::r,_=>exact⟨a,r,rfl⟩
    |[],h=>simp at h;omega
   have hw0:=hWs w0 (by simp);have hw0l:=hw0.1;have hWrl:Wr.length+1=e.args.length:=(by simpa using hWl);rw[<- hWrl]at e5;have hsl:zk (.ms (H.length+3) 0 (Wr.length+1) 16) (some (.int .i64 1)) none none=some (.ms (H.length+3) 16 Wr.length 16):=by
    have h2:(1:Int)<=((Wr.length+1:Nat):Int):=(by omega);show(if(0:Int)<=1/\(1:Int)<=((Wr.length+1:Nat):Int)/\((Wr.length+1:Nat):Int)<=((Wr.length+1:Nat):Int)/\((1:Int)=0\/(1:Int)<((Wr.length+1:Nat):Int)) then _ else _)=_;rw[if_pos ⟨by omega,h2,qEr _,.inr (by omega)⟩];simp
   have hpos1:(0:Int)<(Wr.length:Int)+1:=(by omega);have hin:=qkD hx.self hw0 (A:=H.length+3) (V:=w0) (Ws:=Wr) hw0l (fun w hw=>hWs w (by simp[hw])) (by simpa using bW) (hk _ (by omega)) (by omega) (T:=T1);simp only[qBm]at bW hflen;have c0:(qB w0++Wr.flatMap qB).take 16=qB w0:=(by rw[qB6 (by simp[hw0l]),qs hw0l]);have cl:16<=(qB w0++Wr.flatMap qB).length:=(by simp[hw0l]);generalize qB w0++Wr.flatMap qB=F at *;simp[e3,e15,e16,bE,hop];rw[qU rfl];simp[zg,e2,e5,bB,bW,cl,c0,hsl,hpos1];refine qFs hin ?_;rintro v ⟨H2,T2⟩ ⟨d2,u,rfl,hxx2,hg2,hu,hv2⟩;dsimp only at hv2;have hx2:=hx.call hxx2;have cZ:=hxx2.loc bZ (hk _ (by omega));have hl3:=(qAU.1 cZ).1;dsimp only at cZ hl3;simp[zg];refine qFp (jo u) rfl ?_;have cut1:(qB (u::List.replicate 15 0)).take 16=qB (u::List.replicate 15 0):=qs rfl;have put1:zA (qB zh) 0 (qB (u::List.replicate 15 0))=qB (u::List.replicate 15 0):=zr rfl rfl;have yb:=fin (H4:=H2) (d4:=d2) (V:=u::List.replicate 15 0) (τ:=⟨H2.set (H.length+2) (.cells (qB (u::List.replicate 15 0))),T2⟩) rfl hx2 hg2 (qcr hx2.ok hu) (fun b=>by
    rw[qaz hx2.ok,hv2,hop];have:(Wr.map (z7 d1 b))=(Wr.map fun w=>zt (qu d1 b w) 16).map fun n:Nat=>(n:Int):=by
     rw[qCo];rfl
    simp only[opW,qA7,List.tail_cons,this];have hins:=qkF (x:=zt (qu d1 b w0) 16) (Wr.map fun w=>zt (qu d1 b w) 16);show _=b2i (jh (z7 d1 b w0) _);rw[<- hins];rfl)
   simp only[List.reduceReplicate]at yb cut1 put1;simp[-getElem?_pos,zg,e4,cZ,qW,put1,hl3,cut1];exact yb
 -- two operands
 rw[h1]at hWl e5;obtain⟨w0,w1,rfl⟩:∃w w',Ws=[w,w']:=by
  match Ws,hWl with
  |[a,b],_=>exact⟨a,b,rfl⟩
 have hw0:=hWs w0 (by simp);have hw0l:=hw0.1;have hw1:=hWs w1 (by simp);have hw1l:=hw1.1;have c0:(qB w0++qB w1).take 16=qB w0:=by rw[qB6 (by simp[hw0l]),qs hw0l]
 have c1:(qB w0++qB w1).drop 16=qB w1:=by rw[qCN,qBq (by simp[hw0l]),jG,hw0l];rfl
 have cl:(qB w0++qB w1).length=32:=by simp[hw0l,hw1l]
 simp only[qBm,qDK,qBC]at bW;generalize qB w0++qB w1=F at *;have n23:¬e.op=23:=by omega
 have n22:¬e.op=22:=by omega
 simp[-getElem?_pos,e2,e3,e15,e16,bE,h1,show ¬e.op=1 by omega,show ¬e.op=2 by omega,show ¬e.op=4 by omega,show ¬e.op=5 by omega,show ¬e.op=6 by omega,show ¬e.op=25 by omega,n23,n22];rw[qU rfl];simp[-getElem?_pos,zg,e2,e3,e5,bB,bE,bW,cl,c0,c1,qs hw1l];refine qFs (qlO hx.self hw0 hw1 hop7 hop21) ?_;rintro v ⟨H2,T2⟩ ⟨d2,V,rfl,hxx2,hg2,hV,hv2⟩;dsimp only at hv2;have hVl:=hV.1;have cZ:=hxx2.loc bZ (hk _ (by omega));have hl3:=(qAU.1 cZ).1;dsimp only at cZ hl3;simp[-getElem?_pos,zg,e4,cZ,qW,hVl,zr hVl hZ16,hl3,qs hVl];refine fin rfl (hx.call hxx2) hg2 hV fun b=>?_
 rw[hv2 b];simp[opW,n22,n23]
def qqG{p lv}(hp:PB p lv c):∀(e),qiM p e->∀d H T,BX c H d H->qj prog (XG c) 133 [.ptr c.B 0,.agg (qt e)] ⟨H,T⟩ (WQ c d H fun b=>yn (yo p.vars (QV p.vars lv b)) e):=by
 refine qFN fun e ih he d H T h=>?_
 by_cases h0:e.args=[]
 . exact qbB h hp e he h0
 exact qbA h hp e he h0 fun a ha d H T h=>ih a ha (he.arg ha) d H T h
end
def qlN(v:Var):Nat:=if v.mode=0 then 0 else v.width.toNat
def qfs{l}(hw:∀v∈l,0<=v.width/\v.width<=8)(hl:l.length<=1000):∀k,k<=l.length->wh l (Yk l k)=(((l.take k).map qlN).sum:Nat)/\((l.take k).map qlN).sum<=8*k
 |0,_=>⟨by simp[Yk,wh],by simp⟩
 | k+1,hk=>by
  obtain⟨i1,i2⟩:=qfs hw hl k (by omega);obtain⟨v,hv⟩:∃v,l[k]?=some v:=⟨_,qAW (by omega)⟩;have hwv:=hw v (qAV hv);have ht:l.take (k+1)=l.take k++[v]:=by rw[qBi,hv];rfl
  have hr:yO l (k:Int)=(v.mode != 0):=by simp[yO,hv]
  rw[Kq,hr,ht,qBV,List.sum_append];by_cases hm:v.mode=0
  . have hb:qlN v=0:=(by simp[qlN,hm]);simp only[hm,bne_self_eq_false,qBz,if_false,qA7,qBy,qDl,qFd,hb];exact⟨by simpa using i1,by omega⟩
  have hb:qlN v=v.width.toNat:=by simp[qlN,hm]
  have hm':(v.mode != 0)=true:=by simpa using hm
  rw[if_pos hm'];have hs:wh l (Yk l k++[(k:Int)])=IntKind.i64.wrap (wh l (Yk l k)+zP l k):=by
   unfold wh;rw[qBX];simp
  rw[hs,i1];have hwa:zP l k=v.width:=by simp[zP,hv]
  rw[hwa];simp only[qA7,qBy,qDl,qFd,hb,qCy];rw[wr (by omega) (by omega)];exact⟨by omega,by omega⟩
def YQ{p}(hv:qo p=0)(hl:p.vars.length<=1000):wh p.vars (qQ p)=((p.vars.map qlN).sum:Nat)/\(jH p.vars).length=2^(p.vars.map qlN).sum:=by
 have hw:∀v∈p.vars,0<=v.width/\v.width<=8:=fun v hm=>by have:=zi (jd hv v hm);omega
 have h1:=qfs hw hl p.vars.length (qA5 _);rw[qCr]at h1;rw[show qQ p=Yk p.vars p.vars.length by unfold qQ;rw[if_neg (by simpa using hv)]];exact⟨h1.1,Zu p.vars⟩
noncomputable def Yg(p:Problem)(l:List Ex):Bool:=decide (qo p=0)&&(l.all (wJ p.vars)&&jQ p.vars l)
def Zd(p l)(h:VQ p)(hv20:p.vars.length<=20)(hb:wh p.vars (qQ p)<=18)(hfl:Fits l)(hx:∀e∈l,Wen e/\hgt e<=1000/\(pre e).length<=100000):
 Pure prog GG 116 [.agg (qA p),.sl 4 (l.map qt) .none] (.bool (Yg p l)):=by
 refine qFm qg func116 rfl (by kernel_rfl) ?_;have h0:0<=wh p.vars (qQ p):=by
  by_cases hv:qo p=0
  . rw[(YQ hv (by omega)).1];omega
  have:qQ p=[]:=by unfold qQ;rw[if_pos (by simpa using hv)]
  rw[this];simp[wh]
 have ha:=qlV p h hv20 h0 (by omega);have hp:2^(wh p.vars (qQ p)).toNat<=2^18:=qBn (by omega) (by omega);have hf:=qop p l (2^(wh p.vars (qQ p)).toNat) h hfl hx (by omega);have hr:(J7 p l (2^(wh p.vars (qQ p)).toNat)).2≠18/\decide ((J7 p l (2^(wh p.vars (qQ p)).toNat)).2=0)=Yg p l:=by
  unfold J7;by_cases hg:qgM p l (2^(wh p.vars (qQ p)).toNat:Nat)=true
  . rw[if_pos hg];simp only[qgM,qA1,decide_eq_true_eq]at hg;obtain⟨hv,_,_,hk⟩:=hg;have hab:=YQ hv (by omega);have hs:=qog (vs:=p.vars) (l:=l) (k:=2^(wh p.vars (qQ p)).toNat) (by rw[hab.2,hab.1];simp);have hsb:Yg p l=jQ p.vars l:=(by simp[Yg,hv,hk]);rw[hsb,<- hs.1];generalize qdJ p.vars l _ (zC p.vars)=s at hs;obtain⟨s1,s2⟩:=s
    cases s1 with
    |some a=>simp
    | none=>
     have:=hs.2 rfl;simp only at this;subst this;simp
  rw[if_neg hg];have hsb:Yg p l=false:=by
   apply qCe.2;intro hh;simp only[Yg,qA1,decide_eq_true_eq]at hh;apply hg;simp only[qgM,qA1,decide_eq_true_eq];have hp0:0<2^(wh p.vars (qQ p)).toNat:=qDS _;generalize 2^(wh p.vars (qQ p)).toNat=N at *;exact⟨hh.1,by omega,by omega,hh.2.1⟩
  rw[hsb];simp
 generalize J7 p l (2^(wh p.vars (qQ p)).toNat)=fa at *;generalize 2^(wh p.vars (qQ p)).toNat=N at *;obtain⟨hr1,hr2⟩:=hr;rw[<- hr2];have hm:wV (.int .i64 (N:Int)) (.int .i64 262144)=some (.int .i64 N):=by
  simp only[wV];rw[if_neg (by omega)]
 simp only[qA]at ha hf;simp;refine qFp ha (by simp) ?_;simp[hm];refine qFp hf (by simp) ?_;simp[hr1];rw[qBP];simp
