import Derived.Test.YtafbccendejkeaaGreatDoorPv22
import Derived.KernelRfl
set_option maxRecDepth 100000
set_option maxHeartbeats 16000000
set_option linter.all false
namespace Go.Proofs.YtafbccendejkeaaGreatDoor
open Go Go.Abs Proofs.Tryz Go.RowKit
def ZK(p fx a gi):Kp p fx a gi=sat (jc p (qm p).1 fx ((NG p).getD gi []) (((NG p).take gi).flatten.map fun i=>(i,aN a i))):=qb9 _ _
def qo3{p:Problem}{a:List Int}{gi:Nat}{g:List Nat}(hg:(NG p).getD gi []=g)(hn:g.Nodup):∀(l:List Nat) (fx:Nat->Option Nat) (idx:Int) (out:List Int),l.Nodup->(∀i∈l,fx i=none/\i∈g/\i<out.length) ->
 0<=idx->idx<(jc p (qm p).1 fx g (((NG p).take gi).flatten.map fun i=>(i,aN a i)):Nat)->jc p (qm p).1 fx g (((NG p).take gi).flatten.map fun i=>(i,aN a i))<lim ->
 ∃fx':Nat->Option Nat,(∀i∈l,∃x:Nat,fx' i=some x/\x<2^ji p i/\(chP p a gi l fx idx out)[i]?=some (x:Int))/\(∀k,k∉l->fx' k=fx k/\(chP p a gi l fx idx out)[k]?=out[k]?)/\0<jc p (qm p).1 fx' g (((NG p).take gi).flatten.map fun i=>(i,aN a i)):=by
 generalize hc:(((NG p).take gi).flatten.map fun i=>(i,aN a i))=c;intro l
 induction l with
 | nil=>
  intro fx idx out _ _ h0 h1 _;exact⟨fx,fun i hi=>(by cases hi),fun k _=>⟨rfl,rfl⟩,by omega⟩
 | cons i r ih=>
  intro fx idx out hl hm h0 h1 h2;rw[qC1]at hl;obtain⟨hfi,hig,hio⟩:=hm i (by simp);have hsp:=Zk (p:=p) (R:=(qm p).1) hfi g c hn hig;have hle:∀x,x<2^ji p i->jc p (qm p).1 (yj fx i x) g c<=jc p (qm p).1 fx g c:=fun x hx=>by
   rw[hsp];exact qaB (f:=fun x=>jc p (qm p).1 (yj fx i x) g c) (qB5.2 hx)
  have hF:∀x,x<2^ji p i->Kp p (yj fx i x) a gi=jc p (qm p).1 (yj fx i x) g c:=fun x hx=>by
   rw[ZK,hg,hc];have:=hle x hx;exact qCw (by omega)
  have hw:=qbP p i;have hsum:jh (fun x=>Kp p (yj fx i x) a gi) (List.range' 0 (2^wdN p i))=jc p (qm p).1 fx g c:=by
   rw[hsp,hw,<- qCd];exact yc fun x hx=>hF x (qB5.1 hx)
  obtain⟨⟨_,q1⟩,q2,q3,_⟩:=JE (fun x=>Kp p (yj fx i x) a gi) (2^wdN p i) 0 idx h0 (by rwa[hsum]);unfold chP;dsimp only;generalize yl (fun x=>Kp p (yj fx i x) a gi) (2^wdN p i) 0 idx=q at *;have hq1:q.1<2^ji p i:=by rw[<- hw];omega
  rw[hF _ hq1]at q3;obtain⟨fx',f1,f2,f3⟩:=ih (yj fx i q.1) q.2 (out.set i q.1) hl.2 (fun k hk=>by
   obtain⟨a1,a2,a3⟩:=hm k (by simp[hk]);exact⟨by rw[Zj (by rintro rfl;exact hl.1 hk)];exact a1,a2,by simpa using a3⟩) q2 q3 (by have:=hle _ hq1;omega)
  refine⟨fx',fun k hk=>?_,fun k hk=>?_,f3⟩
  . rcases qBz.1 hk with rfl|hk
    . obtain⟨b1,b2⟩:=f2 k hl.1;exact⟨q.1,by rw[b1,qat],hq1,by rw[b2,qBg hio]⟩
    . exact f1 k hk
  have hki:k≠i:=fun e=>hk (by simp[e])
  obtain⟨b1,b2⟩:=f2 k (fun h=>hk (by simp[h]));exact⟨by rw[b1,Zj hki],by rw[b2,qBd (Ne.symm hki)]⟩
def KV{α:Type}[DecidableEq α]:∀{a b:List α},a.Nodup->(∀x∈a,x∈b)->a.length<=b.length
 |[],_,_,_=>by simp
 | x::a,b,hn,hs=>by
  rw[qC1]at hn;have hx:=hs x (by simp);have h1:a.length<=(b.erase x).length:=KV hn.2 fun y hy=>by
   have hne:y≠x:=(by rintro rfl;exact hn.1 hy);exact(List.mem_erase_of_ne hne).2 (hs y (by simp[hy]))
  rw[qEW hx]at h1;have:=qE8 hx;simp only[qBr];omega
def VS{α:Type}[DecidableEq α]:∀{b a:List α},a.Nodup->(∀x∈a,x∈b)->b.length<=a.length->b.Nodup
 |[],_,_,_,_=>List.nodup_nil
 | x::b,a,hn,hs,hl=>by
  have hx:x∉b:=fun hx=>by
   have:=KV hn (b:=b) fun y hy=>by
    rcases qBz.1 (hs y hy) with rfl|h
    . exact hx
    exact h
   simp at hl;omega
  refine qC1.2 ⟨hx,VS (hn.erase x) (fun y hy=>?_) ?_⟩
  . rw[hn.mem_erase_iff]at hy;exact(qBz.1 (hs y hy.2)).resolve_left hy.1
  have:=List.length_erase (a:=x) (l:=a);simp only[qBr]at hl;split at this<;>omega
def Ku{g}(h:g.Nodup):(yE g).Nodup:=VS h (fun x hx=>we.2 hx) (by rw[qce];exact qBl _)
structure GoodA(p:Problem)(a:List Int):Prop where
 len:a.length=p.vars.length
 st:∀(i:Nat) (v:Var),p.vars[i]?=some v->v.mode=0->a[i]?=some v.value
 nn:∀(i:Nat) (v:Var) (x:Int),p.vars[i]?=some v->v.mode≠0->a[i]?=some x->0<=x
def V3(p:Problem):GoodA p (qO p.vars):=by
 refine⟨kW _,fun i v hi hm=>?_,fun i v x hi hm hx=>?_⟩
 . unfold qO;rw[qBD,hi];simp[hm]
 unfold qO at hx;rw[qBD,hi]at hx;simp[hm]at hx;omega
def jU(p:Problem)(a:List Int)(gi:Nat):List (Nat×Nat):=((NG p).take gi).flatten.map fun i=>(i,aN a i)
def qdu{p:Problem}(hv:qg p=0){gi:Nat}(hgi:gi<(NG p).length){a:List Int}(ha:GoodA p a){idx:Int}(h0:0<=idx)(h1:idx<(jc p (qm p).1 (fun _=>none) ((NG p).getD gi []) (jU p a gi):Nat))(h2:jc p (qm p).1 (fun _=>none) ((NG p).getD gi []) (jU p a gi)<lim):
 GoodA p (z9 p gi a idx)/\okC p (qm p).1 (jU p (z9 p gi a idx) (gi+1))=true/\(∀i,i∉(NG p).getD gi []->(z9 p gi a idx)[i]?=a[i]?)/\∀i∈(NG p).getD gi [],0<wtP p i (aN (z9 p gi a idx) i)/\aN (z9 p gi a idx) i<2^ji p i:=by
 have hgg:=qBc hgi;obtain⟨g,hg⟩:∃g,(NG p).getD gi []=g:=⟨_,rfl⟩;have hgs:(NG p)[gi]?=some g:=by rw[qBi,hgg]at hg;rw[hgg];exact congrArg some hg
 have hnf:=Jt hv;obtain⟨post,hpost⟩:=Js hgs;have hgn:g.Nodup:=by
  rw[hpost]at hnf;exact(qCa.1 (qCa.1 hnf).1).2.1
 have hdis:∀i∈g,i∉((NG p).take gi).flatten:=fun i hi hi2=>by
  rw[hpost]at hnf;exact(qCa.1 (qCa.1 hnf).1).2.2 i hi2 i hi rfl
 have hgm:∀i∈g,i∈(NG p).flatten:=fun i hi=>by rw[hpost];simp[hi]
 have hs1:∀i,i∈yE g↔i∈g:=fun i=>we
 rw[hg]at h1 h2⊢;obtain⟨fx',f1,f2,f3⟩:=qo3 hg hgn (yE g) (fun _=>none) idx a (Ku hgn) (fun i hi=>by
  obtain⟨v,hv',_⟩:=yg hv (hgm i ((hs1 i).1 hi));have:=(qBa.1 hv').1;exact⟨rfl,(hs1 i).1 hi,by rw[ha.len];exact this⟩) h0 h1 h2
 have hlen:=wm p gi a idx;rw[<- show z9 p gi a idx=chP p a gi (yE g) (fun _=>none) idx a by unfold z9;rw[hg]]at f1 f2;generalize z9 p gi a idx=b at *;have hout:∀i,i∉g->b[i]?=a[i]?:=fun i hi=>(f2 i fun h=>hi ((hs1 i).1 h)).2
 have hin:∀i∈g,fx' i=some (aN b i)/\aN b i<2^ji p i/\b[i]?=some (aN b i:Int):=fun i hi=>by
  obtain⟨x,x1,x2,x3⟩:=f1 i ((hs1 i).2 hi);have:aN b i=x:=by unfold aN;rw[qBi,x3];simp
  rw[this];exact⟨x1,x2,x3⟩
 have hpre:((NG p).take gi).flatten.map (fun i=>(i,aN b i))=jU p a gi:=by
  unfold jU;apply qCf;intro i hi;have:aN b i=aN a i:=by unfold aN;rw[qBi,qBi,hout i fun h=>hdis i h hi]
  rw[this]
 have hfix:=Kl (p:=p) (R:=(qm p).1) (fx:=fx') (val:=aN b) g (jU p a gi) (fun i hi=>(hin i hi).1);have f3':0<jc p (qm p).1 fx' g (jU p a gi):=f3;rw[hfix]at f3';have hok:okC p (qm p).1 (jU p a gi++g.map fun i=>(i,aN b i))=true:=by
  apply Classical.byContradiction;intro h;rw[if_neg h,qEX]at f3';omega
 have hpw:0<zZ p (aN b) g:=qDr fun e=>by rw[e,qCY]at f3';omega
 refine⟨⟨by rw[hlen];exact ha.len,fun i v hi hm=>?_,fun i v x hi hm hx=>?_⟩,?_,hout,fun i hi=>⟨qcs hpw i hi,(hin i hi).2.1⟩⟩
 . rw[hout i fun h=>?_]
   . exact ha.st i v hi hm
   . obtain⟨v',hv',hm'⟩:=yg hv (hgm i h);rw[hi]at hv';cases hv';exact hm' hm
 . by_cases h:i∈g
   . have:=(hin i h).2.2;rw[hx]at this;have:=Option.some.inj this;omega
   . rw[hout i h]at hx;exact ha.nn i v x hi hm hx
 have e:jU p b (gi+1)=jU p a gi++g.map fun i=>(i,aN b i):=by
  rw[<- hpre];unfold jU;rw[qBG,hgs];simp
 rwa[e]
def qd9{p}{gi:Nat}{a}(h:(kF p gi a).2=0):gi<(NG p).length/\qB p.vars a=true/\(kF p gi a).1=(jc p (qm p).1 (fun _=>none) ((NG p).getD gi []) (jU p a gi):Nat)/\0<jc p (qm p).1 (fun _=>none) ((NG p).getD gi []) (jU p a gi)/\jc p (qm p).1 (fun _=>none) ((NG p).getD gi []) (jU p a gi)<lim:=by
 unfold kF at h⊢;split at h
 . cases h
 rename_i hn;split at h
 . cases h
 rename_i h1;split at h
 . cases h
 rename_i h2;rw[if_neg hn,if_neg h1,if_neg h2];have hg:gi<(NG p).length:=by
  have:¬((NG p).length:Int)<=gi:=fun e=>hn (.inr (.inl e))
  omega
 have ha:qB p.vars a=true:=by
  cases hA:qB p.vars a with
  |true=>rfl
  |false=>exact absurd (.inr (.inr hA)) hn
 have e:Kp p (fun _=>none) a (gi:Int).toNat=sat (jc p (qm p).1 (fun _=>none) ((NG p).getD gi []) (jU p a gi)):=ZK _ _ _ _;rw[e]at h1 h2⊢;have h3:=quP h2;rw[h3]at h1⊢;refine⟨hg,ha,rfl,qDr h1,?_⟩;have:=Ky (jc p (qm p).1 (fun _=>none) ((NG p).getD gi []) (jU p a gi));omega
structure EndA(p:Problem)(a:List Int)(gi:Nat):Prop where
 good:GoodA p a
 ok:okC p (qm p).1 (jU p a gi)=true
 pos:∀i∈((NG p).take gi).flatten,0<wtP p i (aN a i)/\aN a i<2^ji p i
def qkP{p:Problem}(hv:qg p=0):∀(k gi:Nat) (a:List Int) (r:Rng),gi+k=(NG p).length->EndA p a gi->(qbH p (List.range' gi k) a r).2.2=0->EndA p (qbH p (List.range' gi k) a r).1 (NG p).length
 | 0,gi,a,r,hk,h,_=>by
  have:gi=(NG p).length:=by omega
  subst this;exact h
 | k+1,gi,a,r,hk,h,he=>by
  rw[qCx]at he⊢;unfold qbH at he⊢;split at he
  . exact absurd he (by assumption)
  rename_i h1;rw[if_neg h1];split at he
  . exact absurd he (by assumption)
  rename_i h2;rw[if_neg h2];obtain⟨t1,t2,t3,t4,t5⟩:=qd9 (qB2.1 h1);have hb:0<=(jR (kF p gi a).1 r).1/\(jR (kF p gi a).1 r).1<(kF p gi a).1:=by
   unfold jR at h2⊢;split at h2
   . exact absurd (show((1:Int))≠0 by decide) h2
   rename_i hc;rw[if_neg hc];exact wM (by rw[t3];omega) r
  rw[t3]at hb;obtain⟨c1,c2,c3,c4⟩:=qdu hv t1 h.good (idx:=(jR (kF p gi a).1 r).1) (by rw[t3];exact hb.1) (by rw[t3];exact hb.2) t5;refine qkP hv k (gi+1) _ _ (by omega) ⟨c1,c2,fun i hi=>?_⟩ he;obtain⟨g,hg⟩:∃g,(NG p)[gi]?=some g:=⟨_,qBc t1⟩;have hgd:(NG p).getD gi []=g:=by rw[qBi,hg];rfl
  rw[qBG,hg]at hi;simp only[Option.toList,qCU,qBp]at hi;rcases hi with hi|hi
  . have hni:i∉(NG p).getD gi []:=fun h'=>by
     rw[hgd]at h';have hnf:=Jt hv;obtain⟨post,hpost⟩:=Js hg;rw[hpost]at hnf;exact(qCa.1 (qCa.1 hnf).1).2.2 i hi i h' rfl
    have e:aN (z9 p gi a (jR (kF p gi a).1 r).1) i=aN a i:=by
     unfold aN;rw[qBi,qBi,c3 i hni]
    rw[e];exact h.pos i hi
  rw[hgd]at c4;exact c4 i (by simpa using hi)
def qsZ{p:Problem}(hv:qg p=0){a:List Int}(h:EndA p a (NG p).length):a∈jM p.vars/\ku p.vars (qm p).1 a=true:=by
 obtain⟨hg,hok,hpos⟩:=h;unfold jU at hok;rw[qBh (qBl _)]at hok hpos;unfold okC at hok;obtain⟨b,hb,hs⟩:=qBJ.1 hok;rw[qBf]at hs;have hbo:=yV.1 hb;have hab:a=b:=by
  apply qCb;intro i
  cases hi:p.vars[i]? with
  | none=>
   have hl:=qER.1 hi;rw[qBI (by rwa[hg.len]),qBI (by rwa[hbo.len])]
  | some v=>
   by_cases hm:v.mode=0
   . obtain⟨x,hx,hc⟩:=kK hbo hi;rw[if_pos hm]at hc;rw[hg.st i v hi hm,hx,hc]
   have hiF:=YQ hv hi hm;have h1:=qBk.1 hs.2 (i,aN a i) (qBA.2 ⟨i,hiF,rfl⟩);have hil:=(qBa.1 hi).1;obtain⟨x,h3⟩:∃x,a[i]?=some x:=⟨_,qBc (by rwa[hg.len])⟩;have h4:=hg.nn i v _ hi hm h3;rw[of_decide_eq_true h1,h3];congr 1;unfold aN;rw[qBi,h3];show x=(x.toNat:Int);omega
 rw[hab];exact⟨hb,hs.1⟩
def qjy{vs l m}(h:∀e,e∈l↔e∈m):jK vs l=jK vs m:=by
 have:∀a,ku vs l a=ku vs m a:=fun a=>by
  unfold ku;rw[qB7,qBk,qBk];exact⟨fun h1 e he=>h1 e ((h e).2 he),fun h1 e he=>h1 e ((h e).1 he)⟩
 unfold jK;congr 1;funext a;exact this a
def We(vs):∀(L) (R),jK vs R=true->jK vs (R++(yu vs R L).map (·.2))=true
 |[],R,h=>by simpa[yu] using h
 | x::r,R,h=>by
  unfold yu;split
  . rename_i h1;have:=We vs r (R++[x.2]) h1;simpa using this
  exact We vs r R h
def yz{p}(h:(qm p).2=0):qg p=0/\jK p.vars (zw p)=true/\jK p.vars (qm p).1=true/\∀e∈zw p,e∈(qm p).1:=by
 rw[wV]at h;obtain⟨h1,h2,h3,_⟩:=Qd h;refine⟨h1,h2,?_,fun e he=>?_⟩
 . rw[h3];have:=We p.vars (Zu p.soft) (zw p) h2;rw[<- this];refine qjy fun e=>?_
   have hn:qeD p=zw p:=by
    unfold qeD zw;have:jJ p=wu p:=if_pos h1;rw[this]
   unfold Zv;rw[hn];simp
 rw[h3];exact qB1 _ he
def qkd(p R):okC p R []=jK p.vars R:=by
 unfold okC jK;congr 1;funext a;simp
def qmZ{p:Problem}{r:Rng}(h:(jA p r).2.2=0):qg p=0/\(qm p).2=0/\EndA p (jA p r).1 (NG p).length/\(jA p r).1∈jM p.vars/\ku p.vars (qm p).1 (jA p r).1=true:=by
 unfold jA at h⊢;split at h
 . exact absurd h (by assumption)
 rename_i h1;rw[if_neg h1];have h0:=qB2.1 h1;obtain⟨hv,_,hs,_⟩:=yz h0;rw[qCd]at h⊢;have he:=qkP hv (NG p).length 0 (qO p.vars) r (by omega) ⟨V3 p,by
  have:jU p (qO p.vars) 0=[]:=by simp[jU]
  rw[this,qkd];exact hs,fun i hi=>by simp at hi⟩ h
 exact⟨hv,h0,he,qsZ hv he⟩
def qbb{env e}(h:jB env e≠0):Qw env e=0/\yo env e≠0:=by
 unfold jB at h;split at h
 . rename_i hc;refine⟨?_,h⟩;unfold Qw;rw[if_neg (by simp[hc.1]),if_pos hc.2]
 exact absurd rfl h
def qsQ{p:Problem}(hv:qg p=0){a:List Int}(ha:a∈jM p.vars){i:Nat}{v:Var}{z:Int}(hi:p.vars[i]?=some v)(hz:a[i]?=some z):jE (yp p.vars a) v.name=some z/\0<=z/\z<(zP v:Nat)\/v.mode=0:=by
 by_cases hm:v.mode=0
 . exact .inr hm
 left;have hok:=yV.1 ha;obtain⟨x,hx,hxr⟩:=kK hok hi;rw[hz]at hx;cases hx;rw[if_neg hm]at hxr;have hve:=zf (z5 hv v (qBb hi));have h3:2^v.width.toNat<=2^8:=qBL (by omega) (by omega);have hsz:zP v=2^v.width.toNat:=rfl;have hf:=Qt (yX hv) hi hz;rw[QG hxr.1 (by omega)]at hf;rw[show yp p.vars a=(p.vars.zip a).map fun q=>⟨q.1.name,q.2⟩ by unfold yp;rw[if_pos hok.len]];exact⟨hf,hxr⟩
def qhq{v}(h:j5 v=0):0<=v.value/\v.value<(2:Int)^v.width.toNat:=by
 unfold j5 at h;split at h
 . cases h
 split at h
 . cases h
 rename_i hc;omega
def qrp(p l a):qiN p l a=ku p.vars l a:=by
 unfold qiN ku;apply qB7.2;simp only[qBk];constructor
 . intro h e he;have:=h e he;simp at this;simpa using this.2
 intro h e he;have:=h e he;have h2:jB (yp p.vars a) e≠0:=by simpa using this
 have h3:=(qbb h2).1;simp[h2,h3]
def qm6(p l):qek p l=(jM p.vars).filter (ku p.vars l):=by
 unfold qek;congr 1;funext a;exact qrp p l a
noncomputable def Jw(p:Problem):List (List Int)×Int:=if(qm p).2=0 then((jM p.vars).filter (ku p.vars (qm p).1),0) else([],(qm p).2)
def qzl(p)(h:RfH p)(hb:kw p.vars (qJ p)<=18):Pure prog GG 28 [.agg (qu p)] (.tup [.sl 1 ((Jw p).1.map qA) .none,.int .i64 (Jw p).2]):=by
 refine okzP func28 rfl rfl ?_;have hr:=qfT p h;simp only[qu]at hr;by_cases he:(qm p).2=0
 case neg=>
  have ha:Jw p=([],(qm p).2):=if_neg he;rw[ha];simp;refine qFz (G:=zh GG) hr (by simp) ?_;simp[he,Leq,zm]
 obtain⟨hv,hrt,hrl,_⟩:=Zr h.vq h.dists h.soft he;rw[show Jw p=(qek p (qm p).1,0) by unfold Jw;rw[if_pos he,qm6]];rw[he]at hr;have hal:(jM p.vars).length<2^30:=by
  obtain⟨h1,h2⟩:=Y5 hv h.vq.vars;rw[h2];have:(p.vars.map qlQ).sum<=18:=by omega
  have:=qBL (n:=2) (by decide) this;omega
 have hs:=qaF p (qm p).1 h.vq.vars (Zi hv) (fun v hm=>by have:=zf (z5 hv v hm);omega) (by unfold Fits;omega) (fun e he=>(hrt e he).2) hal;simp only[qu]at hs;generalize qek p (qm p).1=S at *;generalize (qm p).1=L at *;simp;refine qFz (G:=zh GG) hr (by simp) ?_;simp;refine qFz (G:=zh GG) hs (by simp) ?_;simp
def agV(a b:List Int)(v:Int):Bool:=decide (a.getD v.toNat 0=b.getD v.toNat 0)
def agG(a b:List Int)(g:List Int):Bool:=g.all (agV a b)
def jf(G:List (List Int))(f t:Nat)(a b:List Int):Bool:=((G.drop f).take (t-f)).all (agG a b)
def qg4(p:Problem)(f t)(a b:List Int)(ht:t<=p.groups.length)(hf:f<=t)(hG:p.groups.length<=10000000)(hg:∀g∈p.groups,g.length<=10000000/\∀v∈g,0<=v/\v<(a.length:Nat)/\v<(b.length:Nat)):
 Pure prog GG 85 [.agg (qu p),.int .i64 f,.int .i64 t,.sl 1 (a.map qh) .none,.sl 1 (b.map qh) .none] (.bool (jf p.groups f t a b)):=by
 refine okzP func85 rfl rfl ?_;obtain⟨r,hr⟩:∃r,r=jf p.groups f t a b:=⟨_,rfl⟩;rw[<- hr];simp;refine qFE (fun m ev U=>∃i,m=t-i/\f<=i/\i<=t/\ev 2=.int .i64 t/\ev 3=.sl 1 (a.map qh) .none/\ev 4=.sl 1 (b.map qh) .none/\ev 5=.ptr 0 0/\ev 11=.int .i64 i/\U=⟨[.cells (qu p)],[]⟩/\r=jf p.groups i t a b) (t-f) ?_ ?_
 . exact⟨f,rfl,qBl _,hf,by simp,by simp,by simp,by simp,by simp,by simp,hr⟩
 rintro m ev U R hR ⟨i,rfl,hfi,hi,e2,e3,e4,e5,e11,rfl,hri⟩;by_cases hlt:i<t
 case neg=>
  have hlt':¬(i:Int)<t:=by omega
  simp[e2,e11,hlt',show r=true by rw[hri];unfold jf;rw[show t-i=0 by omega];rfl]
 have hw:=wr (n:=(i:Int)+1) (by omega) (by omega);obtain⟨g,hgi⟩:∃g,p.groups[i]?=some g:=⟨_,qBc (by omega)⟩;obtain⟨hgl,hgv⟩:=hg g (qBb hgi);have hrs:r=(agG a b g&&jf p.groups (i+1) t a b):=by
  rw[hri];unfold jf;rw[ze hgi,show t-i=(t-(i+1))+1 by omega,qC0,qCz]
 simp[e2,e11,show(i:Int)<t by omega];refine qFE (fun m ev U=>∃k,m=g.length-k/\k<=g.length/\ev 2=.int .i64 t/\ev 3=.sl 1 (a.map qh) .none/\ev 4=.sl 1 (b.map qh) .none/\ev 5=.ptr 0 0/\ev 11=.int .i64 i/\ev 12=.int .i64 k/\U=⟨[.cells (qu p)],[]⟩/\r=((g.drop k).all (agV a b)&&jf p.groups (i+1) t a b)) g.length ?_ ?_
 . exact⟨0,rfl,by omega,by simp[e2],by simp[e3],by simp[e4],by simp[e5],by simp[e11],by simp,rfl,by rw[hrs];rfl⟩
 rintro m ev U R2 hR2 ⟨k,rfl,hk,e2,e3,e4,e5,e11,e12,rfl,hrk⟩;by_cases hkl:k<g.length
 case neg=>
  rw[show g.drop k=[] by simp;omega]at hrk;have hrk:=hrk;have hkl':¬(k:Int)<g.length:=by omega
  simp[e5,e11,e12,hgi,hkl',hw];exact hR (t-(i+1)) _ _ (by omega) ⟨i+1,rfl,by omega,by omega,by simp[e2],by simp[e3],by simp[e4],by simp[e5],by simp,by simp,hrk⟩
 have hkl':(k:Int)<g.length:=by omega
 have hw2:=wr (n:=(k:Int)+1) (by omega) (by omega);obtain⟨v,hv⟩:∃v,g[k]?=some v:=⟨_,qBc hkl⟩;obtain⟨v0,va,vb⟩:=hgv v (qBb hv);obtain⟨w,rfl⟩:=qBw v0;obtain⟨x,hx⟩:∃x,a[w]?=some x:=⟨_,qBc (by omega)⟩;obtain⟨y,hy⟩:∃y,b[w]?=some y:=⟨_,qBc (by omega)⟩;rw[ze hv,qCz,show agV a b (w:Int)=decide (x=y) by unfold agV;simp[List.getD,hx,hy]]at hrk;by_cases hxy:x=y
 . subst hxy;simp[e3,e4,e5,e11,e12,hgi,hkl',hv,hx,hy,hw2];exact hR2 (g.length-(k+1)) _ _ (by omega) ⟨k+1,rfl,by omega,by simp[e2],by simp[e3],by simp[e4],by simp[e5],by simp[e11],by simp,by simp,by rw[hrk];simp⟩
 have hr0:r=false:=by rw[hrk];simp[hxy]
 simp[e3,e4,e5,e11,e12,hgi,hkl',hv,hx,hy,hxy,hr0]
def qdR(x:Int):List Int->List Int->List Int
 |[],B=>x::B
 |a::A,B=>if x<a then qdR x A (a::B) else A.reverse++a::x::B
def zN(l:List Int):List Int:=l.foldl (fun S x=>qdR x S.reverse []) []
def qgw(x):∀A B,(qdR x A B).length=A.length+B.length+1
 |[],B=>by simp[qdR]
 | a::A,B=>by
  unfold qdR;split
  . rw[qgw x A];simp;omega
  simp;omega
def Jz(l x):zN (l++[x])=qdR x (zN l).reverse []:=by unfold zN;rw[qCe];rfl
def Kt(l):(zN l).length=l.length:=by
 induction hn:l.length generalizing l with
 |zero=>rw[qBo hn];rfl
 | succ n ih=>
  obtain⟨d,x,rfl⟩:∃d x,l=d++[x]:=⟨l.dropLast,l.getLast (by rintro rfl;simp at hn),(qCr _).symm⟩;rw[Jz,qgw,qEv,ih d (by simpa using hn)];rfl
def qjs(l)(hl:l.length<=1000000):Pure prog GG 140 [.sl 1 (l.map qh) .none] (.sl 1 ((zN l).map qh) .none):=by
 refine qFx oM true qX func140 rfl (by kernel_rfl) ?_;by_cases h0:l=[]
 . subst h0;simp[oM,zr,zY,qR,YM,qr,qZ];refine qFE (fun m ev U=>ev 3=.sl 0 [] .nil/\ev 4=.int .i64 1) 0 ⟨by simp,by simp⟩ ?_;rintro m ev U R hR ⟨e3,e4⟩;simp[e3,e4];rw[qs (by simp)];exact⟨by simp,by simp[zN,Leq]⟩
 have hl0:=qBv.2 h0;simp[oM,zr,zY,qR,YM,show ¬(l.length=0) by omega,show l.length<=549755813888 by omega,h0];refine qFE (fun m ev U=>∃i T,m=l.length-i/\1<=i/\i<=l.length/\ev 3=.ms 0 0 l.length 1/\ev 4=.int .i64 i/\U=⟨[.cells (zd (zN (l.take i)++l.drop i))],T⟩) (l.length-1) ?_ ?_
 . refine⟨1,[],by omega,by omega,by omega,by simp,by simp,?_⟩;obtain⟨a,q,rfl⟩:∃a q,l=a::q:=by
    cases l with
    |nil=>exact absurd rfl h0
    |cons a q=>exact⟨a,q,rfl⟩
   have:zN ((a::q).take 1)++(a::q).drop 1=a::q:=rfl;rw[this,jQ,qCF]
 rintro m ev U R hR ⟨i,T,rfl,h1,hi,e3,e4,rfl⟩;by_cases hlt:i<l.length
 case neg=>
  have hil:i=l.length:=by omega
  subst hil;have hlt':¬(l.length:Int)<l.length:=by omega
  have hrow:zN (l.take l.length)++l.drop l.length=zN l:=by rw[qCX,qCg,qBU]
  rw[hrow];simp[e3,e4];have hsl:=Kt l;rw[<- hsl];have ho:jC 0 1 qh [.cells (zd (zN l))] (.ms 0 0 (zN l).length 1) (zN l):=.inr ⟨fun h=>by rw[h]at hsl;simp at hsl;omega,rfl,by rw[jQ];rfl⟩;exact⟨ho.frzNo (fun x=>by simp) (fun x=>by simp) (fun x=>by simp) 7,ho.frz (fun x=>by simp) (fun x=>by simp) (fun x=>by simp) 7⟩
 have hw:=wr (n:=(i:Int)+1) (by omega) (by omega);obtain⟨x,hx⟩:∃x,l[i]?=some x:=⟨_,qBc hlt⟩;have hSl:(zN (l.take i)).length=i:=by rw[Kt,qBV];omega
 have htk:zN (l.take (i+1))=qdR x (zN (l.take i)).reverse []:=by
  rw[qBG,hx];exact Jz _ _
 obtain⟨Q,hQ⟩:∃Q,Q=l.drop (i+1):=⟨_,rfl⟩;have hQl:Q.length=l.length-(i+1):=by rw[hQ,qC5]
 rw[ze hx,<- hQ];generalize hTG:qdR x (zN (l.take i)).reverse []=TG at *;generalize zN (l.take i)=S at *;simp[e3,e4,show(i:Int)<l.length by omega];refine qFE (fun m ev U=>∃A B,m=A.length/\A.length+B.length=i/\ev 3=.ms 0 0 l.length 1/\ev 4=.int .i64 i/\ev 5=.int .i64 (A.length:Nat)/\U=⟨[.cells (zd (A.reverse++x::(B++Q)))],T⟩/\qdR x A B=TG) S.length ?_ ?_
 . exact⟨S.reverse,[],by simp,by simp[hSl],by simp[e3],by simp[e4],by simp[hSl],by simp,hTG⟩
 clear e3 e4;rintro m ev U R2 hR2 ⟨A,B,rfl,hAB,e3,e4,e5,rfl,hin⟩;have fin:∀ev',ev' 3=.ms 0 0 l.length 1->ev' 4=.int .i64 ((i:Int)+1)->TG=A.reverse++x::B->R ev' ⟨[.cells (zd (A.reverse++x::(B++Q)))],T⟩:=fun ev' a3 a4 h=>
  hR (l.length-(i+1)) _ _ (by omega) ⟨i+1,T,rfl,by omega,by omega,a3,by rw[a4];simp,by rw[htk,h,<- hQ];simp⟩
 cases A with
 | nil=>
  simp[e4,e5,hw];exact fin _ (by simp[e3]) (by simp) (by rw[<- hin];rfl)
 | cons a A=>
  obtain⟨P,hP⟩:∃P,P=A.reverse:=⟨_,rfl⟩;obtain⟨m,hm⟩:∃m,m=A.length:=⟨_,rfl⟩;have hPl:(zd P).length=m:=by rw[qQ,hP,qEv,hm]
  obtain⟨Z,hZ⟩:∃Z,Z=zd (B++Q):=⟨_,rfl⟩;have hrow:∀y z,zd (P++y::z::(B++Q))=zd P++.int .i64 y::.int .i64 z::Z:=fun y z=>by rw[hZ];simp[zd]
  have hd1:∀y z,(zd P++AV.int .i64 y::.int .i64 z::Z).drop m=.int .i64 y::.int .i64 z::Z:=fun y z=>by
   rw[qCT (by omega),qBS (by omega)];rfl
  have hd2:∀y z,(zd P++AV.int .i64 y::.int .i64 z::Z).drop (m+1)=.int .i64 z::Z:=fun y z=>by
   rw[show m+1=m+1 from rfl,<- qEw,hd1];rfl
  have hs1:∀y z w,(zd P++AV.int .i64 y::.int .i64 z::Z).set m (.int .i64 w)=zd P++.int .i64 w::.int .i64 z::Z:=fun y z w=>by
   rw[qBY _ _ (by omega),hPl,qB9];rfl
  have hs2:∀y z w,(zd P++AV.int .i64 y::.int .i64 z::Z).set (m+1) (.int .i64 w)=zd P++.int .i64 y::.int .i64 w::Z:=fun y z w=>by
   rw[qBY _ _ (by omega),hPl,show m+1-m=1 by omega];rfl
  have hln:∀y z,(zd P++AV.int .i64 y::.int .i64 z::Z).length=l.length:=fun y z=>by
   simp only[qBe,qBr,hPl,show Z.length=B.length+Q.length by rw[hZ,qQ,qBe]]at *;omega
  have hml1:m+1<l.length:=by simp at hAB;omega
  have hml2:m+1<=l.length:=by omega
  have hml3:m+2<=l.length:=by omega
  have hml4:(m:Int)+1<l.length:=by omega
  have hml5:(m:Int)<l.length:=by omega
  have hwm:=wr (n:=(m:Int)) (by omega) (by omega);have e5':ev 5=.int .i64 ((m:Int)+1):=by rw[e5,hm];simp
  have hp1:(0:Int)<(m:Int)+1:=by omega
  have hp2:(0:Int)<=(m:Int)+1:=by omega
  have hrA:(a::A).reverse++x::(B++Q)=P++a::x::(B++Q):=by rw[hP];simp
  have hin2:=hin;unfold qdR at hin2;by_cases hxa:x<a
  . rw[if_pos hxa]at hin2;rw[hrA,hrow];simp[e3,e5',hp1,hp2,hml2,hml3,hml4,hml5,hd1,hd2,hs1,hs2,hln,hwm,hxa];refine hR2 A.length _ _ (by simp) ⟨A,a::B,rfl,by simp at hAB⊢;omega,by simp[e3],by simp[e4],by simp[hm],?_,hin2⟩;rw[<- hP,qBB,hrow]
  rw[if_neg hxa]at hin2;have vU:=fin;rw[hrA,hrow]at vU⊢;simp[e3,e4,e5',hp1,hp2,hml2,hml3,hml4,hml5,hd1,hd2,hln,hwm,hxa,hw];exact vU _ (by simp[e3]) (by simp) (by rw[<- hin2];simp)
def qgv{x v}:∀{A B:List Int},v∈qdR x A B↔v=x\/v∈A\/v∈B
 |[],B=>by simp[qdR]
 | a::A,B=>by
  unfold qdR;split
  . rw[qgv];simp only[qBz];constructor
    . rintro(h|h|h|h)
      . exact .inl h
      . exact .inr (.inl (.inr h))
      . exact .inr (.inl (.inl h))
      . exact .inr (.inr h)
    rintro(h|(h|h)|h)
    . exact .inl h
    . exact .inr (.inr (.inl h))
    . exact .inr (.inl h)
    exact .inr (.inr (.inr h))
  simp only[qBp,qEo,qBz];constructor
  . rintro(h|h|h|h)
    . exact .inr (.inl (.inr h))
    . exact .inr (.inl (.inl h))
    . exact .inl h
    . exact .inr (.inr h)
  rintro(h|(h|h)|h)
  . exact .inr (.inr (.inl h))
  . exact .inr (.inl h)
  . exact .inl h
  exact .inr (.inr (.inr h))
def ZP{v}(l):v∈zN l↔v∈l:=by
 induction hn:l.length generalizing l with
 |zero=>rw[qBo hn];simp[zN]
 | succ n ih=>
  obtain⟨d,x,rfl⟩:∃d x,l=d++[x]:=⟨l.dropLast,l.getLast (by rintro rfl;simp at hn),(qCr _).symm⟩;rw[Jz,qgv,qEo,ih d (by simpa using hn)];simp[or_comm]
def js(a b:List Int):List Int->Bool
 |[]=>false
 |v::r=>if a.getD v.toNat 0=b.getD v.toNat 0 then js a b r else decide (a.getD v.toNat 0<b.getD v.toNat 0)
def qsn(p:Problem)(i:Nat)(g:List Int)(a b:List Int)(hgi:p.groups[i]?=some g)(hgl:g.length<=1000000)(hgv:∀v∈g,0<=v/\v<(a.length:Nat)/\v<(b.length:Nat)):
 Pure prog GG 86 [.agg (qu p),.int .i64 i,.sl 1 (a.map qh) .none,.sl 1 (b.map qh) .none] (.bool (js a b (zN g))):=by
 refine okzP func86 rfl rfl ?_;have hso:=qjs g hgl;have hsl:=Kt g;have hsv:∀v∈zN g,0<=v/\v<(a.length:Nat)/\v<(b.length:Nat):=fun v hv=>hgv v ((ZP g).1 hv)
 have hil:=(qBa.1 hgi).1;generalize zN g=S at *;obtain⟨r,hr⟩:∃r,r=js a b S:=⟨_,rfl⟩;rw[<- hr];simp;refine qFE (fun m ev U=>∃k,m=S.length-k/\k<=S.length/\ev 1=.int .i64 i/\ev 2=.sl 1 (a.map qh) .none/\ev 3=.sl 1 (b.map qh) .none/\ev 4=.ptr 0 0/\ev 9=.int .i64 k/\U=⟨[.cells (qu p)],[]⟩/\r=js a b (S.drop k)) S.length ?_ ?_
 . exact⟨0,rfl,by omega,by simp,by simp,by simp,by simp,by simp,by simp,hr⟩
 rintro m ev U R hR ⟨k,rfl,hk,e1,e2,e3,e4,e9,rfl,hrk⟩;by_cases hkl:k<S.length
 case neg=>
  rw[show S.drop k=[] by simp;omega]at hrk;have hrk:r=false:=hrk;have hkl':¬(k:Int)<g.length:=by omega
  simp[e1,e4,e9,hgi,hkl',hrk]
 have hkl1:k<g.length:=by omega
 have hw2:=wr (n:=(k:Int)+1) (by omega) (by omega);obtain⟨v,hv⟩:∃v,S[k]?=some v:=⟨_,qBc hkl⟩;obtain⟨v0,va,vb⟩:=hsv v (qBb hv);obtain⟨w,rfl⟩:=qBw v0;obtain⟨x,hx⟩:∃x,a[w]?=some x:=⟨_,qBc (by omega)⟩;obtain⟨y,hy⟩:∃y,b[w]?=some y:=⟨_,qBc (by omega)⟩;rw[ze hv]at hrk;unfold js at hrk;simp only[qBF,List.getD,hx,hy,qET]at hrk;simp[e1,e4,e9,hgi,show(k:Int)<g.length by omega];refine qFz (G:=zh GG) hso (by simp) ?_;by_cases hxy:x=y
 . subst hxy;rw[if_pos rfl]at hrk;simp[e2,e3,e9,hv,hx,hy,hw2,show(k:Int)<S.length by omega];exact hR (S.length-(k+1)) _ _ (by omega) ⟨k+1,rfl,by omega,by simp[e1],by simp[e2],by simp[e3],by simp[e4],by simp,by simp,hrk⟩
 rw[if_neg hxy]at hrk;simp[e2,e3,e9,hv,hx,hy,hxy,hrk]
def qwv(s:Nat)(X:List (List Int))(tok:Abs.Tok)(T:List (Option Nat)):Prop:=(s=1/\qg9 tok T)\/(X=[]/\tok=.nil)
def qsB{H T X Y tok ty s}(hg:qwv s X tok T)(hX:X.length+Y.length<=549755813888):
 ∃s2 t2 T2,qr (Dof prog) ⟨H,T⟩ 25 (.sl s (X.map qA) tok) (.sl 1 (Y.map qA) ty)=some (.sl s2 ((X++Y).map qA) t2,⟨H,T2⟩)/\qwv s2 (X++Y) t2 T2:=by
 have hx1:X.length<=549755813888:=by omega
 by_cases h2:Y=[]
 . subst h2;refine⟨s,tok,T,?_,by rw[qBU];exact hg⟩;rcases hg with⟨rfl,_⟩|⟨rfl,_⟩<;>simp[qr,qZ,hx1]
 rcases hg with⟨rfl,rfl|⟨t,k,rfl,ht⟩⟩|⟨rfl,rfl⟩
 . exact⟨1,.chain T.length Y.length,T++[some Y.length],by simp[qr,qZ,h2,hX],.inl ⟨rfl,.inr ⟨_,_,rfl,by simp⟩⟩⟩
 . have hl:=(qBa.1 ht).1;exact⟨1,.chain t (k+Y.length),T.set t (some (k+Y.length)),by simp[qr,qZ,h2,hX,ht],.inl ⟨rfl,.inr ⟨_,_,rfl,by simp[hl]⟩⟩⟩
 have:Y.length<=549755813888:=by simpa using hX
 exact⟨1,.chain T.length Y.length,T++[some Y.length],by simp[qr,qZ,h2,this],.inl ⟨rfl,.inr ⟨_,_,rfl,by simp⟩⟩⟩
def qkJ(l:List (List Int))(at' a)(hat:at'<=l.length)(hl:l.length<=1000000):
 Pure prog GG 87 [.sl 1 (l.map qA) .none,.int .i64 at',.sl 1 (a.map qh) .none] (.sl 1 ((l.take at'++a::l.drop at').map qA) .none):=by
 refine okzP func87 rfl rfl ?_;have h1:zl (.sl 1 (l.map qA) .none) none (some (.int .i64 at')) none=some (.sl 1 ((l.take at').map qA) .none):=by
  simp[zl,zS,ki,zU,hat]
 have h2:zl (.sl 1 (l.map qA) .none) (some (.int .i64 at')) none none=some (.sl 1 ((l.drop at').map qA) .none):=by
  have h2:(l.map qA).take l.length=l.map qA:=qBh (by simp);simp[zl,zS,ki,zU,hat,h2]
 obtain⟨s1,t1,T1,a1,g1⟩:=qsB (H:=[]) (T:=[]) (X:=[]) (Y:=l.take at') (tok:=.nil) (ty:=.none) (s:=0) (.inr ⟨rfl,rfl⟩) (by simp;omega);rw[qBy]at a1 g1;obtain⟨s2,t2,T2,a2,g2⟩:=qsB (H:=[]) (T:=T1) (Y:=[a]) (ty:=.tight) g1 (by simp;omega);obtain⟨s3,t3,T3,a3,g3⟩:=qsB (H:=[]) (T:=T2) (Y:=l.drop at') (ty:=.none) g2 (by simp;omega);rw[show l.take at'++[a]++l.drop at'=l.take at'++a::l.drop at' by simp]at a3 g3;generalize l.take at'++a::l.drop at'=R at *;generalize l.take at'++[a]=X2 at *;generalize l.take at'=X1 at *;generalize l.drop at'=X3 at *;simp only[qBN,qBn,qA]at a1 a2 a3 h1 h2;simp[h1,h2,a1,a2,a3,qe,ql];rcases g3 with⟨rfl,g⟩|⟨rfl,rfl⟩
 . rcases g with rfl|⟨t,k,rfl,_⟩<;>simp[qL,show q9 (R.map qA)=true from zq (fun x=>by simp) R,Leq,qFI]
 simp[qL,q9,Leq]
def atX(f:List Int->Bool)(o:List (List Int)):Nat×Nat:=o.foldl (fun s v=>(if f v then s.2+1 else s.1,s.2+1)) (0,0)
def qbq(f o v):atX f (o++[v])=(if f v then(atX f o).2+1 else(atX f o).1,(atX f o).2+1):=by unfold atX;rw[qCe];rfl
def qfc(f o):(atX f o).2=o.length/\(atX f o).1<=o.length:=by
 induction hn:o.length generalizing o with
 |zero=>rw[qBo hn];exact⟨rfl,qBl _⟩
 | succ n ih=>
  obtain⟨d,x,rfl⟩:∃d x,o=d++[x]:=⟨o.dropLast,o.getLast (by rintro rfl;simp at hn),(qCr _).symm⟩;obtain⟨h1,h2⟩:=ih d (by simpa using hn);rw[qbq,h1];refine⟨rfl,?_⟩;dsimp only;split<;>omega
def vR(G:List (List Int))(i:Nat)(g a:List Int)(out:List (List Int))(x:List Int):List (List Int) :=
 if jf G 0 i x a=true then(if out.any (fun v=>jf G i (i+1) v x)=true then out else out.take (atX (fun v=>js v x (zN g)) out).1++x::out.drop (atX (fun v=>js v x (zN g)) out).1) else out
def jg(G:List (List Int))(i:Nat)(g a:List Int)(l:List (List Int)):List (List Int):=l.foldl (vR G i g a) []
def qcc{G i g a x v out}(h:v∈vR G i g a out x):v∈out\/v=x:=by
 unfold vR at h;split at h
 . split at h
   . exact .inl h
   . simp only[qBp,qBz]at h;rcases h with h|h|h
     . exact .inl (qBW h)
     . exact .inr h
     exact .inl (qCJ h)
 exact .inl h
def qcd{G i g a x out}:(vR G i g a out x).length<=out.length+1:=by
 unfold vR;split
 . split
   . omega
   . simp;omega
 omega
def qix(p:Problem)(l:List (List Int))(i:Nat)(g a:List Int)(hgi:p.groups[i]?=some g)(hl:l.length<=1000000)(hG:p.groups.length<=10000000)(hg:∀g∈p.groups,g.length<=1000000/\∀v∈g,0<=v/\v<(a.length:Nat))(hll:∀x∈l,x.length=a.length):
 Pure prog GG 46 [.agg (qu p),.sl 1 (l.map qA) .none,.int .i64 i,.sl 1 (a.map qh) .none] (.sl 1 ((jg p.groups i g a l).map qA) .none):=by
 refine okzP func46 rfl rfl ?_;obtain⟨RES,hRES⟩:∃RES,RES=jg p.groups i g a l:=⟨_,rfl⟩;rw[<- hRES];have hil:=(qBa.1 hgi).1;have hgg:=hg g (qBb hgi);have hag0:=fun(x:List Int) (hx:x.length=a.length)=>qg4 p 0 i x a (by omega) (by omega) hG (fun g' hg'=>⟨by have:=(hg g' hg').1;omega,fun v hv=>by have:=(hg g' hg').2 v hv;rw[hx];exact⟨this.1,this.2,this.2⟩⟩)
 have hag1:=fun(x y:List Int) (hx:x.length=a.length) (hy:y.length=a.length)=>qg4 p i (i+1) x y (by omega) (by omega) hG (fun g' hg'=>⟨by have:=(hg g' hg').1;omega,fun v hv=>by have:=(hg g' hg').2 v hv;rw[hx,hy];exact⟨this.1,this.2,this.2⟩⟩)
 have hle:=fun(x y:List Int) (hx:x.length=a.length) (hy:y.length=a.length)=>qsn p i g x y hgi hgg.1 (fun v hv=>by have:=hgg.2 v hv;rw[hx,hy];exact⟨this.1,this.2,this.2⟩)
 simp only[qu,qCy]at hag0 hag1 hle;simp;refine qFE (fun m ev U=>∃k s O T tok,m=l.length-k/\k<=l.length/\ev 1=.sl 1 (l.map qA) .none/\ev 2=.int .i64 i/\ev 3=.sl 1 (a.map qh) .none/\ev 4=.ptr 0 0/\ev 9=.sl s (O.map qA) tok/\(tok=.none\/tok=.nil)/\(s=1\/O=[])/\ev 10=.int .i64 k/\U=⟨[.cells (qu p)],T⟩/\(∀x∈O,x.length=a.length)/\O.length<=k/\RES=(l.drop k).foldl (vR p.groups i g a) O) l.length ?_ ?_
 . exact⟨0,0,[],[],.nil,rfl,by omega,by simp,by simp,by simp,by simp,by simp,.inr rfl,.inr rfl,by simp,by simp,by simp,by simp,hRES⟩
 rintro m ev U R hR ⟨k,s,O,T,tok,rfl,hk,e1,e2,e3,e4,e9,htok,hsO,e10,rfl,hO,hOk,hrk⟩;by_cases hlt:k<l.length
 case neg=>
  rw[show l.drop k=[] by simp;omega]at hrk;have hrk:=hrk;have hlt':¬(k:Int)<l.length:=by omega
  rw[hrk];have hn:q9 (O.map qA)=true:=zq (fun x=>by simp) O;simp[e1,e9,e10,hlt'];rcases htok with rfl|rfl<;>rcases hsO with rfl|rfl<;>simp[qL,hn,Leq,qFI]
 have hw:=wr (n:=(k:Int)+1) (by omega) (by omega);obtain⟨x,hx⟩:∃x,l[k]?=some x:=⟨_,qBc hlt⟩;have hxl:=hll x (qBb hx);rw[ze hx,qBP]at hrk;have h0:=hag0 x hxl;simp[e1,e2,e3,e4,e10,show(k:Int)<l.length by omega,hx];refine qFz (G:=zh GG) h0 (by simp) ?_
 cases hc:jf p.groups 0 i x a with
 | false=>
  have hst:vR p.groups i g a O x=O:=by unfold vR;rw[if_neg (by simp[hc])]
  rw[hst]at hrk;simp[unA,e10,hw];exact hR (l.length-(k+1)) _ _ (by omega) ⟨k+1,s,O,T,tok,rfl,by omega,by simp[e1],by simp[e2],by simp[e3],by simp[e4],by simp[e9],htok,hsO,by simp,by simp,hO,by omega,hrk⟩
 | true=>
  simp[unA,e10];have hOl:O.length<=1000000:=by omega
  refine qFE (fun m ev U=>∃q,m=O.length-q/\q<=O.length/\ev 1=.sl 1 (l.map qA) .none/\ev 2=.int .i64 i/\ev 3=.sl 1 (a.map qh) .none/\ev 4=.ptr 0 0/\ev 9=.sl s (O.map qA) tok/\ev 10=.int .i64 k/\U=⟨[.cells (qu p)],T⟩/\ev 11=.int .i64 ((atX (fun v=>js v x (zN g)) (O.take q)).1:Nat)/\ev 12=.bool ((O.take q).any (fun v=>jf p.groups i (i+1) v x))/\ev 13=.int .i64 q) O.length ?_ ?_
  . exact⟨0,rfl,by omega,by simp[e1],by simp[e2],by simp[e3],by simp[e4],by simp[e9],by simp[e10],by simp,by simp[atX],by simp⟩
  rintro m ev U R2 hR2 ⟨q,rfl,hq,e1,e2,e3,e4,e9,e10,rfl,e11,e12,e13⟩;by_cases hqo:q<O.length
  case neg=>
   have htk:O.take q=O:=qBh (by omega);rw[htk]at e11 e12;have hqo':¬(q:Int)<O.length:=(by omega);have hat:=(qfc (fun v=>js v x (zN g)) O).2;have hin:=qkJ O (atX (fun v=>js v x (zN g)) O).1 x hat hOl;have hsm:=fun v (hv:v∈vR p.groups i g a O x)=>qcc hv
   have hsl:(vR p.groups i g a O x).length<=O.length+1:=qcd;rw[show vR p.groups i g a O x=if O.any (fun v=>jf p.groups i (i+1) v x)=true then O else O.take (atX (fun v=>js v x (zN g)) O).1++x::O.drop (atX (fun v=>js v x (zN g)) O).1 by unfold vR;rw[if_pos hc]]at hrk hsm hsl;generalize (atX (fun v=>js v x (zN g)) O).1=AT at *
   cases hkn:O.any (fun v=>jf p.groups i (i+1) v x) with
   | true=>
    rw[hkn]at e12;rw[hkn,if_pos rfl]at hrk;simp[unA,e9,e10,e12,e13,hqo',hw];exact hR (l.length-(k+1)) _ _ (by omega) ⟨k+1,s,O,T,tok,rfl,by omega,by simp[e1],by simp[e2],by simp[e3],by simp[e4],by simp[e9],htok,hsO,by simp,by simp,hO,by omega,hrk⟩
   | false=>
    rw[hkn]at e12;rw[hkn,if_neg (by simp)]at hrk hsm hsl;generalize O.take AT++x::O.drop AT=O2 at *;simp[unA,e1,e9,e10,e11,e12,e13,hqo',hx];refine qFA (G:=zh GG) hin ?_ ?_ ?_
    . have hn:q9 (O.map qA)=true:=zq (fun x=>by simp) O;rcases htok with rfl|rfl<;>simp[hn]
    . rcases htok with rfl|rfl<;>rcases hsO with rfl|rfl<;>simp[zm,Leq,qFI]
    simp[e10,hw];exact hR (l.length-(k+1)) _ _ (by omega) ⟨k+1,1,O2,T,.none,rfl,by omega,by simp[e1],by simp[e2],by simp[e3],by simp[e4],by simp,.inl rfl,.inl rfl,by simp,by simp,fun v hv=>by
     rcases hsm v hv with h|h
     . exact hO v h
     rw[h];exact hxl,by omega,hrk⟩
  have hs1:=hsO.resolve_right (fun h=>by rw[h]at hqo;simp at hqo);subst hs1;obtain⟨y,hy⟩:∃y,O[q]?=some y:=⟨_,qBc hqo⟩;have hyl:=hO y (qBb hy);have htk:O.take (q+1)=O.take q++[y]:=by rw[qBG,hy];rfl
  have hwq:=wr (n:=(q:Int)+1) (by omega) (by omega);have hwi:=wr (n:=(i:Int)+1) (by omega) (by omega);have h1:=hle y x hyl hxl;have h2:=hag1 y x hyl hxl;have hal:=(qfc (fun v=>js v x (zN g)) (O.take q)).1;rw[qBV,qCw hq]at hal;have hsn:=qbq (fun v=>js v x (zN g)) (O.take q) y;rw[hal]at hsn;simp[e1,e2,e4,e9,e10,e13,show(q:Int)<O.length by omega,hy,hx];refine qFz (G:=zh GG) h1 (by simp) ?_;rw[show((i+1:Nat):Int)=(i:Int)+1 by omega]at h2;have fin:∀ev',ev' 1=.sl 1 (l.map qA) .none->ev' 2=.int .i64 i->ev' 3=.sl 1 (a.map qh) .none->ev' 4=.ptr 0 0->ev' 9=.sl 1 (O.map qA) tok->ev' 10=.int .i64 k->ev' 11=.int .i64 ((if js y x (zN g)=true then q+1 else(atX (fun v=>js v x (zN g)) (O.take q)).1:Nat):Int)->ev' 12=.bool ((O.take q).any (fun v=>jf p.groups i (i+1) v x)||jf p.groups i (i+1) y x)->ev' 13=.int .i64 ((q:Int)+1)->R2 ev' ⟨[.cells (qu p)],T⟩:=fun ev' a1 a2 a3 a4 a9 a10 a11 a12 a13=>
   hR2 (O.length-(q+1)) _ _ (by omega) ⟨q+1,rfl,by omega,a1,a2,a3,a4,a9,a10,rfl,by rw[a11,show(atX (fun v=>js v x (zN g)) (O.take (q+1))).1=if js y x (zN g)=true then q+1 else(atX (fun v=>js v x (zN g)) (O.take q)).1 by rw[htk,hsn]],by rw[a12,show(O.take (q+1)).any (fun v=>jf p.groups i (i+1) v x)=((O.take q).any (fun v=>jf p.groups i (i+1) v x)||jf p.groups i (i+1) y x) by rw[htk,List.any_append];simp],by rw[a13];simp⟩
  generalize (O.take q).any (fun v=>jf p.groups i (i+1) v x)=KN at *;generalize (atX (fun v=>js v x (zN g)) (O.take q)).1=AT at *;simp only[qu]at fin
  cases hls:js y x (zN g) with
  | true=>
   rw[hls]at fin
   cases KN with
   | true=>
    simp[e12,e13,hwq];exact fin _ (by simp[e1]) (by simp[e2]) (by simp[e3]) (by simp[e4]) (by simp[e9]) (by simp[e10]) (by simp) (by simp) (by simp)
   | false=>
    simp[e1,e2,e4,e9,e10,e12,e13,hwq,hwi,hy,hx];refine qFz (G:=zh GG) h2 (by simp) ?_;simp[e13,hwq];exact fin _ (by simp[e1]) (by simp[e2]) (by simp[e3]) (by simp[e4]) (by simp[e9]) (by simp[e10]) (by simp) (by simp) (by simp)
  | false=>
   rw[hls]at fin
   cases KN with
   | true=>
    simp[e12,e13,hwq];exact fin _ (by simp[e1]) (by simp[e2]) (by simp[e3]) (by simp[e4]) (by simp[e9]) (by simp[e10]) (by simp[e11]) (by simp) (by simp)
   | false=>
    simp[e1,e2,e4,e9,e10,e12,e13,hwi,hy,hx];refine qFz (G:=zh GG) h2 (by simp) ?_;simp[e13,hwq];exact fin _ (by simp[e1]) (by simp[e2]) (by simp[e3]) (by simp[e4]) (by simp[e9]) (by simp[e10]) (by simp[e11]) (by simp) (by simp)
def qpy(n):∃k p,IntKind.i64.wrap n=p/\p=n+18446744073709551616*k/\-9223372036854775808<=p/\p<9223372036854775808:=by
 refine⟨(IntKind.i64.wrap n-n)/18446744073709551616,_,rfl,?_,?_,?_⟩
 all_goals
  simp only[IntKind.wrap,IntKind.bits,IntKind.signed];simp;omega
def ZX(n)(h0:-9223372036854775807<=n)(h1:n<=9223372036854775807):Pure prog GG 319 [.int .i64 n] (.int .i64 (if 0<n then -n else n)):=by
 refine okzP func319 rfl rfl ?_;by_cases h:0<n
 . simp[h,unA,show IntKind.i64.wrap (-n) = -n from wr (by omega) (by omega)]
 simp[h]
def qrV{a b p k}(hp:p=a*b+18446744073709551616*k)(hk:k≠0)(ha:-9223372036854775807<=a)(ha1:a<=9223372036854775807)(hb:-9223372036854775807<=b)(hb1:b<=9223372036854775807)(hb0:b≠0)
 (h0:-9223372036854775808<=p) (h1:p<9223372036854775808) (hbig:9223372036854775808<=a*b):IntKind.i64.wrap (p.tdiv b)≠a:=by
 intro he;have hdm:=Int.mul_tdiv_add_tmod p b;have hr:(p.tmod b).natAbs<b.natAbs:=by
  rw[Int.natAbs_tmod];exact qDP _ (by omega)
 obtain⟨q,hq⟩:∃q,p.tdiv b=q:=⟨_,rfl⟩;obtain⟨r,hre⟩:∃r,p.tmod b=r:=⟨_,rfl⟩;rw[hq]at he hdm;rw[hre]at hdm hr;have hqa:q.natAbs<=p.natAbs:=by rw[<- hq,Int.natAbs_tdiv];exact qCp _ _
 have hq2:q=a\/(q=9223372036854775808/\a = -9223372036854775808):=by
  obtain⟨k2,p2,e1,e2,e3,e4⟩:=qpy q;rw[e1]at he;omega
 rcases hq2 with rfl|⟨_,h⟩
 . rw[Int.mul_comm]at hdm;omega
 omega
def qeo(a b:Int)(P:Nat)(hP:a*b=P)(ha:-9223372036854775807<=a)(ha1:a<=9223372036854775807)(hb:-9223372036854775807<=b)(hb1:b<=9223372036854775807):
 Pure prog GG 211 [.int .i64 a,.int .i64 b] (.tup [.int .i64 (Yg P).1,.int .i64 (Yg P).2]):=by
 refine okzP func211 rfl rfl ?_;generalize hr:Yg P=r;unfold Yg at hr;by_cases ha0:a=0
 . subst ha0;have:P=0:=by omega
   subst this;simp at hr;subst hr;simp
 by_cases hb0:b=0
 . subst hb0;have:P=0:=by omega
   subst this;simp at hr;subst hr;simp[ha0]
 have hal:¬a = -9223372036854775808:=by omega
 have hbl:¬b = -9223372036854775808:=by omega
 obtain⟨k,p,hw,hpk,hp0,hp1⟩:=qpy (a*b);by_cases hf:P<9223372036854775808
 . rw[if_pos hf]at hr;subst hr;have hpP:p=a*b:=(by omega);have hq:IntKind.i64.wrap (p.tdiv b)=a:=by
    rw[hpP,Int.mul_tdiv_cancel _ hb0,wr (by omega) (by omega)]
   rw[hP]at hw hpP;rw[hpP]at hw hq;rw[qCG (by omega)]at hq;simp[ha0,hb0,hal,hbl,hw,hq,hP]
 rw[if_neg hf]at hr;subst hr;have hq:=qrV (a:=a) (b:=b) (p:=p) (k:=k) hpk (by omega) ha ha1 hb hb1 hb0 hp0 hp1 (by omega);simp[ha0,hb0,hal,hbl,hw,hq]
def qrA(a b:Nat)(ha:0<a)(hb:0<b)(ha1:a<=9223372036854775807)(hb1:b<=9223372036854775807):Pure prog GG 320 [.int .i64 a,.int .i64 b] (.int .i64 (Nat.gcd a b:Nat)):=by
 have h1:=ZX a (by omega) (by omega);have h2:=ZX b (by omega) (by omega);rw[if_pos (by omega)]at h1 h2;refine okzP func320 rfl rfl ?_;generalize hgg:Nat.gcd a b=g at *;simp;refine qFz h1 rfl ?_;simp;refine qFz h2 rfl ?_;simp;refine qFE (fun n ev U=>∃x y:Nat,n=y/\x<=9223372036854775807/\y<=9223372036854775807/\ev 5=.int .i64 (-(x:Int))/\ev 6=.int .i64 (-(y:Int))/\Nat.gcd x y=g) b ⟨a,b,rfl,ha1,hb1,by simp,by simp,hgg⟩ ?_;rintro y ev U R hR ⟨x,_,rfl,hx,hy,h5,h6,hgx⟩;by_cases hz:y=0
 . subst hz;simp at hgx;subst hgx;simp[h5,h6,show ¬(-(x:Int)) = -9223372036854775808 by omega,unA,show IntKind.i64.wrap (x:Int)=x from wr (by omega) (by omega)]
 have hm:(-(x:Int)).tmod (-(y:Int)) = -((x%y:Nat):Int):=by
  rw[Int.tmod_neg,Int.neg_tmod,qB4 (by omega)];omega
 simp[h5,h6,hz,hm];refine hR (x%y) _ _ (qDP _ (by omega)) ⟨y,x%y,rfl,hy,by have:=qDP x (show 0<y by omega);omega,by simp,by simp,?_⟩
 rwa[qD9 y,<- Nat.gcd_rec,qD9]
def qry(a b:Nat)(ha:0<a)(hb:0<b)(ha1:a<=9223372036854775807)(hb1:b<=9223372036854775807):Pure prog GG 280 [.int .i64 a,.int .i64 b] (.tup [.int .i64 (Yg (Nat.lcm a b)).1,.int .i64 (Yg (Nat.lcm a b)).2]):=by
 have h1:=ZX a (by omega) (by omega);have h2:=ZX b (by omega) (by omega);rw[if_pos (by omega)]at h1 h2;have hgc:=qrA a b ha hb ha1 hb1;have hg:=qE1 b ha;have hgl:=qDw ha (qDE a b);have hlcm:a/Nat.gcd a b*b=Nat.lcm a b:=by
  unfold Nat.lcm;exact qFa (qDE a b) b
 have hq:a/Nat.gcd a b<=a:=qCp _ _;obtain⟨g,hge⟩:∃g,Nat.gcd a b=g:=⟨_,rfl⟩;obtain⟨q,hqe⟩:∃q,a/g=q:=⟨_,rfl⟩;obtain⟨l,hle⟩:∃l,Nat.lcm a b=l:=⟨_,rfl⟩;rw[hge]at hg hgl hlcm hq hgc;rw[hqe]at hlcm hq;rw[hle]at hlcm⊢;have hmul:=qeo (-(q:Int)) (-(b:Int)) l (by rw[Int.neg_mul_neg,<- hlcm];simp) (by omega) (by omega) (by omega) (by omega);have hdiv:(-(a:Int)).tdiv g = -(q:Int):=by
  rw[Int.neg_tdiv,qCG (by omega)];omega
 refine okzP func280 rfl rfl ?_;simp[show ¬a=0 by omega,show ¬b=0 by omega,show ¬(a:Int) = -9223372036854775808 by omega,show ¬(b:Int) = -9223372036854775808 by omega];refine qFz h1 rfl ?_;simp;refine qFz hgc rfl ?_;simp[show ¬g=0 by omega,hdiv,show IntKind.i64.wrap (-(q:Int)) = -(q:Int) from wr (by omega) (by omega)];refine qFz h2 rfl ?_;simp;refine qFz hmul rfl ?_;simp
def qhN(l)(hl:Fits l)(width):Pure prog GG 279 [.sl 4 (l.map qy) .none,.int .i64 width] (.int .i64 (yw l width)):=by
 refine okzP func279 rfl rfl ?_;generalize hr:yw l width=r;unfold yw at hr;by_cases hw:width<1\/8<width
 . rw[if_pos hw]at hr;subst hr;rcases hw with h|h
   . simp[h]
   have:¬width<1:=by omega
   simp[h,this]
 rw[if_neg hw]at hr;have h1:¬width<1:=by omega
 have h2:¬8<width:=by omega
 have hcv:IntKind.u64.wrap width=width:=wru (by omega) (by omega);have hsh:=quL (w:=width) (by omega) (by omega);by_cases hb:16<l.length
 . rw[if_pos hb]at hr;subst hr;have hb':(16:Int)<l.length:=(by omega);simp[h1,h2,hb']
 rw[if_neg hb]at hr;have hb':¬(16:Int)<l.length:=by omega
 have hNb:2^width.toNat<=2^8:=qBL (by omega) (by omega);generalize 2^width.toNat=N at hr hsh hNb;simp[h1,h2,hb'];refine qFP l (fun d ev U=>ev 0=.sl 4 (l.map qy) .none/\ev 1=.int .i64 width/\ev 5=.int .i64 d.length/\d.any (qiF N)=false) ?_ ?_ ?_
 . simp
 . rintro d w rest ev U R hR hd hx hlt ⟨e0,e1,e5,ha⟩;have hbad:qiF N w=true->r=1:=fun h=>by
    have hlz:¬l.length=0:=(by omega);have:l.any (qiF N)=true:=by rw[hd];simp[h]
    rw[if_neg hlz,if_pos this]at hr;exact hr.symm
   simp[-getElem?_pos,e0,e1,e5,hlt,hx,show ¬width<0 by omega,hcv,yF,hsh,show IntKind.i64.wrap ((d.length:Int)+1)=(d.length+1:Nat) by rw[wr (by omega) (by omega)];omega]
   repeat' first|(with_reducible refine And.intro ?_ ?_)|(intro _)
   all_goals first
    |exact(hbad (by unfold qiF;simp;omega)).symm
    |exact hR _ _ ⟨by simp[e0],by simp[e1],by simp,by simp[qiF,ha];omega⟩
 rintro ev U ⟨e0,e1,e5,ha⟩;rw[if_neg (show ¬l.any (qiF N)=true by rw[ha];simp)]at hr;by_cases hz:l.length=0
 . rw[if_pos hz]at hr;subst hr;have hz':=qBo hz;simp[e0,e5,hz']
 rw[if_neg hz]at hr;subst hr;have hz':l≠[]:=fun e=>hz (by rw[e];rfl)
 simp[e0,e5,hz']
def qjO(l)(hl:l.length<=1000):Pure prog GG 209 [.sl 4 (l.map qy) .none]
 (.tup [.int .i64 (if yw l 8=0 then(zK l 1).1 else 0),.int .i64 (if yw l 8=0 then(zK l 1).2 else yw l 8)]):=by
 have hv:=qhN l (by unfold Fits;omega) 8;refine okzP func209 rfl rfl ?_;simp;refine qFz hv (by simp) ?_;by_cases h:yw l 8=0
 . have hw:=(v8 h).1;simp[h];generalize hr:zK l 1=r;refine qFP l (fun d ev U=>ev 0=.sl 4 (l.map qy) .none/\ev 6=.int .i64 d.length/\∃s:Nat,ev 5=.int .i64 s/\0<s/\s<9223372036854775808/\zK (l.drop d.length) s=r) ?_ ?_ ?_
   . exact⟨by simp,by simp,1,by simp,by omega,by omega,by simpa using hr⟩
   . rintro d w rest ev U R hR hd hx hlt ⟨e0,e6,s,e5,hs0,hs1,hsc⟩;have hdw:IntKind.i64.wrap ((d.length:Int)+1)=(d.length+1:Nat):=(by rw[wr (by omega) (by omega)];omega);obtain⟨w0,w1,w2,w3,w4⟩:=hw w (qBb hx);rw[show l.drop d.length=w::l.drop (d.length+1) by rw[hd];simp]at hsc;have hwp:=Y8 w1;have hsz:(wsz w:Int)=w.hi-w.lo+1:=(by unfold wsz;omega);have e1:IntKind.i64.wrap (w.hi-w.lo)=w.hi-w.lo:=wr (by omega) (by omega);have e2:IntKind.i64.wrap (w.hi-w.lo+1)=w.hi-w.lo+1:=wr (by omega) (by omega);have h3:=qry s (wsz w) hs0 hwp (by omega) (by omega);rw[hsz]at h3;have hlp:=Nat.lcm_pos hs0 hwp;have hgo:∀(s':Nat) (ev':Env) (U':St),0<s'->s'<9223372036854775808->zK (l.drop (d.length+1)) s'=r->ev' 0=.sl 4 (l.map qy) .none->ev' 6=.int .i64 (d.length+1:Nat)->ev' 5=.int .i64 s'->R ev' U':=fun s' ev' U' a1 a2 a3 a4 a7 a8=>
      hR _ _ ⟨a4,by simpa using a7,s',a8,a1,a2,by simpa using a3⟩
     cases hea:w.each
     . simp only[zK,hea,qBE,if_false]at hsc;simp[-getElem?_pos,e0,e5,e6,hlt,hx,hea,e1,e2];refine qFz h3 rfl ?_;generalize Nat.lcm s (wsz w)=L at hsc hlp⊢;by_cases hL:L<9223372036854775808
       . rw[if_pos hL]at hsc;simp[Yg,hL,e6,hdw];exact hgo L _ _ hlp hL hsc (by simp[e0]) (by simp) (by simp)
       rw[if_neg hL]at hsc;subst hsc;simp[Yg,hL]
     simp only[zK,hea,if_true]at hsc;simp[-getElem?_pos,e0,e6,hlt,hx,hea,hdw];exact hgo s _ _ hs0 hs1 hsc (by simp[e0]) (by simp) (by simp[e5])
   rintro ev U ⟨e0,e6,s,e5,hs0,hs1,hsc⟩;rw[qCg]at hsc;simp only[zK]at hsc;subst hsc;simp[e0,e6,e5]
 simp[h]
def qjS(l)(hl:Fits l)(v):Pure prog GG 210 [.sl 4 (l.map qy) .none,.int .i64 v] (.int .i64 (zo (fun w:Weight=>decide (w.lo<=v)&&decide (v<=w.hi)) l 0)):=by
 refine okzP func210 rfl rfl ?_;generalize hr:zo (fun w:Weight=>decide (w.lo<=v)&&decide (v<=w.hi)) l 0=r;simp;refine qFP l (fun d ev U=>ev 0=.sl 4 (l.map qy) .none/\ev 1=.int .i64 v/\ev 5=.int .i64 d.length/\zo (fun w:Weight=>decide (w.lo<=v)&&decide (v<=w.hi)) (l.drop d.length) d.length=r) ?_ ?_ ?_
 . exact⟨by simp,by simp,by simp,by simpa using hr⟩
 . rintro d w rest ev U R hR hd hx hlt ⟨e0,e1,e5,hf⟩;rw[show l.drop d.length=w::l.drop (d.length+1) by rw[hd];simp]at hf;simp only[zo]at hf;by_cases hc:w.lo<=v/\v<=w.hi
   . rw[if_pos (by simpa using hc)]at hf;subst hf;simp[-getElem?_pos,e0,e1,e5,hlt,hx,hc]
   rw[if_neg (by simpa using hc)]at hf;simp[-getElem?_pos,e0,e1,e5,hlt,hx,show IntKind.i64.wrap ((d.length:Int)+1)=(d.length+1:Nat) by rw[wr (by omega) (by omega)];omega]
   repeat' first|(with_reducible refine And.intro ?_ ?_)|(intro _)
   all_goals first
    |(exfalso;omega)
    |exact hR _ _ ⟨by simp[e0],by simp[e1],by simp,by simpa using hf⟩
 rintro ev U ⟨e0,e1,e5,hf⟩;rw[qCg]at hf;simp only[zo]at hf;subst hf;simp[-getElem?_pos,e0,e5]
def V7{α}(p):∀(l:List α) (i:Nat),(zo p l i = -1/\l.find? p=none)\/∃k w,zo p l i=((i+k:Nat):Int)/\l[k]?=some w/\l.find? p=some w
 |[],i=>.inl ⟨rfl,rfl⟩
 | a::r,i=>by
  by_cases h:p a=true
  . exact .inr ⟨0,a,by simp[zo,h],by simp,by simp[h]⟩
  have ih:=V7 p r (i+1);have e:zo p (a::r) i=zo p r ((i+1:Nat):Int):=by simp[zo,h]
  rw[e];rcases ih with⟨h1,h2⟩|⟨k,w,h1,h2,h3⟩
  . exact .inl ⟨h1,by simp[h,h2]⟩
  exact .inr ⟨k+1,w,by rw[h1];congr 1;omega,by simpa using h2,by simp[h,h3]⟩
def qhJ(l)(hl:l.length<=1000)(v):Pure prog GG 141 [.sl 4 (l.map qy) .none,.int .i64 v] (.tup [.int .i64 (zR l v).1,.int .i64 (zR l v).2]):=by
 have hs:=qjO l hl;have hf:=qjS l (by unfold Fits;omega) v;refine okzP func141 rfl rfl ?_;generalize hr:zR l v=r;unfold zR at hr;simp;refine qFz hs (by simp) ?_;by_cases h:yw l 8=0
 . have hw:=(v8 h).1;rw[if_neg (by simp[h])]at hr;rcases kj l 1 hw (by omega) (by omega) with⟨h1,h2,h3⟩|h1
   . rw[if_neg (by simp[h1])]at hr;obtain⟨s,hse⟩:∃s:Nat,(zK l 1).1=s:=⟨(zK l 1).1.toNat,by omega⟩;rw[hse]at hr h2 h3;simp at hr;simp[h,h1,hse];refine qFz hf (by simp) ?_;have hff:=V7 (fun w:Weight=>decide (w.lo<=v)&&decide (v<=w.hi)) l 0;simp only[qCy,qCH]at hff;unfold vV Yc at hr;rcases hff with⟨k1,k2⟩|⟨k,w,k1,k2,k3⟩
     . rw[k2]at hr;simp only at hr;subst hr;simp[k1]
     rw[k3]at hr;simp only at hr;obtain⟨w0,w1,w2,w3,w4⟩:=hw w (qBb k2);obtain⟨c,hk⟩:∃c:Nat,w.weight=c:=⟨w.weight.toNat,by omega⟩;have hsz:w.hi-w.lo+1=(wsz w:Int):=(by unfold wsz;omega);have e2:IntKind.i64.wrap (w.hi-w.lo+1)=wsz w:=(by rw[<- hsz];exact wr (by omega) (by omega));have hm1:=qeo c s (c*s) (by simp) (by omega) (by omega) (by omega) (by omega);have hq:s/wsz w<=s:=qCp _ _;have hkt:w.weight.toNat=c:=(by omega);rw[hkt]at hr;have hn0:¬((k:Int)<0):=(by omega);generalize hz:wsz w=z at *;have hz0:¬z=0:=(by omega);obtain⟨q,hqe⟩:∃q,s/z=q:=⟨_,rfl⟩;have hdiv:(s:Int)/z=q:=(by rw[<- hqe];simp);rw[hqe]at hr hq;have hm2:=qeo c q (c*q) (by simp) (by omega) (by omega) (by omega) (by omega);have hqu:=wr (n:=q) (by omega) (by omega);cases hea:w.each
     . rw[hea]at hr;simp only[qBE,if_false]at hr;subst hr;simp[k1,k2,hn0,hea,hk,show IntKind.i64.wrap (w.hi-w.lo)=w.hi-w.lo from wr (by omega) (by omega),e2,hz0,hdiv,hqu];refine qFz hm2 rfl ?_;simp
     rw[hea]at hr;simp only[if_true]at hr;subst hr;simp[k1,k2,hn0,hea,hk];refine qFz hm1 rfl ?_;simp
   rw[h1]at hr;simp at hr;subst hr;simp[h,h1]
 rw[if_pos h]at hr;subst hr;simp[h]
def qiL(v x:Int)(acc:Int)(d:Dist):Option Int :=
 if d.var≠v then some acc
 else if(zR d.weights x).2≠0\/(0<(zR d.weights x).1/\1099511627776/(zR d.weights x).1<acc) then none
 else some (acc*(zR d.weights x).1)
def Ka(ds:List Dist)(v x:Int)(acc:Option Int):Option Int:=ds.foldl (fun s d=>s.bind fun n=>qiL v x n d) acc
def qmu(ds:List Dist)(a:List Int)(g:List Int):Option Int:=g.foldl (fun s v=>Ka ds v (a.getD v.toNat 0) s) (some 1)
def qpA(o:Option Int):Int×Bool:=match o with
 |some n=>(n,true)
 |none=>(0,false)
def ZH(ds v x):Ka ds v x none=none:=by
 unfold Ka
 induction ds with
 |nil=>rfl
 |cons d ds ih=>exact ih
def ZI(ds)(a:List Int)(g:List Int):g.foldl (fun s v=>Ka ds v (a.getD v.toNat 0) s) none=none:=by
 induction g with
 |nil=>rfl
 |cons v g ih=>rwa[qBP,ZH]
def Vg{v x acc n d}(h0:0<=acc)(h1:acc<=1099511627776)(h:qiL v x acc d=some n):0<=n/\n<=1099511627776:=by
 unfold qiL at h;split at h
 . cases h;exact⟨h0,h1⟩
 split at h
 . cases h
 rename_i h2;cases h;have hw:=QH d.weights x;generalize (zR d.weights x).1=w at *;refine⟨Int.mul_nonneg h0 hw,?_⟩;by_cases hw0:0<w
 . have h3:¬1099511627776/w<acc:=fun h=>h2 (.inr ⟨hw0,h⟩)
   exact(Int.le_ediv_iff_mul_le hw0).1 (by omega)
 have:w=0:=by omega
 rw[this];simp
def qmv(p:Problem)(i:Nat)(g a:List Int)(hgi:p.groups[i]?=some g)(hgl:g.length<=1000000)(hgv:∀v∈g,0<=v/\v<(a.length:Nat))(hd:p.dists.length<=10000)(hwl:∀d∈p.dists,d.weights.length<=1000):
 Pure prog GG 88 [.agg (qu p),.int .i64 i,.sl 1 (a.map qh) .none] (.tup [.int .i64 (qpA (qmu p.dists a g)).1,.bool (qpA (qmu p.dists a g)).2]):=by
 refine okzP func88 rfl rfl ?_;obtain⟨RES,hRES⟩:∃RES,RES=qmu p.dists a g:=⟨_,rfl⟩;rw[<- hRES];simp;refine qFE (fun m ev U=>∃k acc,m=g.length-k/\k<=g.length/\0<=acc/\acc<=1099511627776/\ev 1=.int .i64 i/\ev 2=.sl 1 (a.map qh) .none/\ev 3=.ptr 0 0/\ev 8=.int .i64 acc/\ev 9=.int .i64 k/\U=⟨[.cells (qu p)],[]⟩/\RES=(g.drop k).foldl (fun s v=>Ka p.dists v (a.getD v.toNat 0) s) (some acc)) g.length ?_ ?_
 . exact⟨0,1,rfl,by omega,by omega,by omega,by simp,by simp,by simp,by simp,by simp,by simp,hRES⟩
 rintro m ev U R hR ⟨k,acc,rfl,hk,ha0,ha1,e1,e2,e3,e8,e9,rfl,hrk⟩;by_cases hlt:k<g.length
 case neg=>
  have hdr:g.drop k=[]:=by simp;omega
  rw[hdr]at hrk;have hrk:=hrk;have hlt':¬(k:Int)<g.length:=by omega
  simp[e1,e3,e8,e9,hgi,hlt',hrk,qpA]
 have hw:=wr (n:=(k:Int)+1) (by omega) (by omega);obtain⟨v,hv⟩:∃v,g[k]?=some v:=⟨_,qBc hlt⟩;obtain⟨v0,va⟩:=hgv v (qBb hv);obtain⟨w,rfl⟩:=qBw v0;obtain⟨x,hx⟩:∃x,a[w]?=some x:=⟨_,qBc (by omega)⟩;rw[ze hv,qBP]at hrk;simp only[qBF,List.getD,hx,qET]at hrk;simp[e1,e3,e9,hgi,show(k:Int)<g.length by omega,hv];refine qFE (fun m ev U=>∃q acc,m=p.dists.length-q/\q<=p.dists.length/\0<=acc/\acc<=1099511627776/\ev 1=.int .i64 i/\ev 2=.sl 1 (a.map qh) .none/\ev 3=.ptr 0 0/\ev 8=.int .i64 acc/\ev 9=.int .i64 k/\ev 10=.int .i64 w/\ev 11=.int .i64 q/\U=⟨[.cells (qu p)],[]⟩/\RES=(g.drop (k+1)).foldl (fun s v=>Ka p.dists v ((a[v.toNat]?).getD 0) s) (Ka (p.dists.drop q) w x (some acc))) p.dists.length ?_ ?_
 . exact⟨0,acc,rfl,by omega,ha0,ha1,by simp[e1],by simp[e2],by simp[e3],by simp[e8],by simp[e9],by simp,by simp,by simp,hrk⟩
 rintro m ev U R2 hR2 ⟨q,acc,rfl,hq,ha0,ha1,e1,e2,e3,e8,e9,e10,e11,rfl,hrk⟩;by_cases hqd:q<p.dists.length
 case neg=>
  rw[show p.dists.drop q=[] by simp;omega]at hrk;have hqd':¬(q:Int)<p.dists.length:=by omega
  simp[e3,e9,e11,hqd',hw];exact hR (g.length-(k+1)) _ _ (by omega) ⟨k+1,acc,rfl,by omega,ha0,ha1,by simp[e1],by simp[e2],by simp[e3],by simp[e8],by simp,by simp,hrk⟩
 have hqd':(q:Int)<p.dists.length:=by omega
 have hwq:=wr (n:=(q:Int)+1) (by omega) (by omega);obtain⟨d,hdq⟩:∃d,p.dists[q]?=some d:=⟨_,qBc hqd⟩;have hdm:=qBb hdq;have hrw:=qhJ d.weights (hwl d hdm) x;rw[ze hdq]at hrk;have hst:Ka (d::p.dists.drop (q+1)) w x (some acc)=Ka (p.dists.drop (q+1)) w x (qiL w x acc d):=rfl;rw[hst]at hrk;have hrg:=fun n=>Vg (v:=(w:Int)) (x:=x) (d:=d) (n:=n) ha0 ha1
 have hnn:=QH d.weights x;unfold qiL at hrk hrg;by_cases hdv:d.var=w
 case neg=>
  rw[if_pos hdv]at hrk;simp[e3,e10,e11,hqd',hdq,hdv,hwq];exact hR2 (p.dists.length-(q+1)) _ _ (by omega) ⟨q+1,acc,rfl,by omega,ha0,ha1,by simp[e1],by simp[e2],by simp[e3],by simp[e8],by simp[e9],by simp[e10],by simp,by simp,hrk⟩
 rw[if_neg (by simp[hdv])]at hrk;simp only[hdv,ne_eq,not_true,if_false]at hrg;simp[e2,e3,e10,e11,hqd',hdq,hdv,hx];refine qFz (G:=zh GG) hrw (by simp) ?_;generalize (zR d.weights x).1=W at *;generalize (zR d.weights x).2=E at *;by_cases hE:E=0
 case neg=>
  have hN:RES=none:=by rw[hrk,if_pos (.inl hE),ZH];exact ZI _ _ _
  simp[hE,hN,qpA]
 subst hE;by_cases hW:0<W
 case neg=>
  have hW0:W=0:=by omega
  subst hW0;rw[if_neg (by simp),Int.mul_zero _]at hrk;simp[e8,e11,hwq,show IntKind.i64.wrap 0=0 by decide];exact hR2 (p.dists.length-(q+1)) _ _ (by omega) ⟨q+1,0,rfl,by omega,by omega,by omega,by simp[e1],by simp[e2],by simp[e3],by simp,by simp[e9],by simp[e10],by simp,by simp,hrk⟩
 have hW0:¬W=0:=by omega
 have hq1:(1099511627776:Int).tdiv W=1099511627776/W:=qCG (by omega);have hq2:0<=(1099511627776:Int)/W/\(1099511627776:Int)/W<=1099511627776:=⟨Int.ediv_nonneg (by omega) (by omega),Int.ediv_le_self _ (by omega)⟩;have hwd:=wr (n:=(1099511627776:Int)/W) (by omega) (by omega);by_cases hbig:1099511627776/W<acc
 . have hN:RES=none:=(by rw[hrk,if_pos (.inr ⟨hW,hbig⟩),ZH];exact ZI _ _ _);simp[e8,hW,hW0,hq1,hwd,hbig,hN,qpA]
 have hno:¬((0:Int)≠0\/(0<W/\1099511627776/W<acc)):=by
  rintro(h|h)
  . exact h rfl
  exact hbig h.2
 rw[if_neg hno]at hrk;have hr2:=hrg (acc*W) (by rw[if_neg hno]);have hwm:=wr (n:=acc*W) (by omega) (by omega);simp[e8,e11,hW,hW0,hq1,hwd,hbig,hwq,hwm];exact hR2 (p.dists.length-(q+1)) _ _ (by omega) ⟨q+1,acc*W,rfl,by omega,hr2.1,hr2.2,by simp[e1],by simp[e2],by simp[e3],by simp,by simp[e9],by simp[e10],by simp,by simp,hrk⟩
noncomputable def qmR(p:Problem)(R:List Ex)(fx:Nat->Option Nat)(a:List Int)(gi:Nat):Nat:=qbD p R fx ((NG p).getD gi []) (((NG p).take gi).flatten.map fun i=>(i,aN a i))
noncomputable def Yr(p:Problem)(R:List Ex)(gi:Int)(a:List Int):Int×Int :=
 if gi<0\/((NG p).length:Int)<=gi\/qB p.vars a=false then(0,1)
 else if qmR p R (fun _=>none) a gi.toNat=0 then(0,11) else if qmR p R (fun _=>none) a gi.toNat=lim then(0,3) else(qmR p R (fun _=>none) a gi.toNat,0)
noncomputable def qxE(p:Problem)(R:List Ex)(a:List Int)(gi:Nat):List Nat->(Nat->Option Nat)->Int->List Int->List Int
 |[],_,_,out=>out
 | i::r,fx,idx,out=>
  let q:=yl (fun x=>qmR p R (yj fx i x) a gi) (2^wdN p i) 0 idx
  qxE p R a gi r (yj fx i q.1) q.2 (out.set i q.1)
noncomputable def qoZ(p:Problem)(R:List Ex)(gi:Nat)(a:List Int)(idx:Int):List Int:=qxE p R a gi (yE ((NG p).getD gi [])) (fun _=>none) idx a
def qv8(p a gi):∀(l) (fx) (idx) (out),chP p a gi l fx idx out=qxE p (qm p).1 a gi l fx idx out
 |[],_,_,_=>rfl
 | i::r,fx,idx,out=>by
  unfold chP qxE;exact qv8 p a gi r _ _ _
def qpD(p gi a):kF p gi a=Yr p (qm p).1 gi a:=rfl
def qlD(p gi a idx):z9 p gi a idx=qoZ p (qm p).1 gi a idx:=qv8 _ _ _ _ _ _ _
def qhK{p}(hv:qg p=0)(hs:p.soft=[])(hd:p.dists=[])(h:jK p.vars p.hard=true):qm p=(p.hard,0):=by
 have hn:zw p=p.hard:=by
  unfold zw jJ wu;rw[if_pos hv,hd];simp
 have hns:qeD p=p.hard:=by
  unfold qeD wu;rw[hd];simp
 unfold qm;rw[if_pos hv,hn,if_pos h];unfold qjM Zv;rw[hns,hs];simp[Zu,yu]
def p1:Problem:={vars:=[⟨[97],1,2,0⟩],hard:=[],soft:=[],dists:=[],groups:=[[0]]}
def v1:Var:=⟨[97],1,2,0⟩
def qdT{l:List Var}{a:List Int}{i:Nat}{v:Var}{x:Int}(h:l[i]?=some v)(h':a[i]?=some x):(l.zip a)[i]?=some (v,x):=(qCS (z:=(v,x))).2 ⟨h,h'⟩
def WP{l a}(h:¬a.length=l.length):qB l a=false:=by simp[qB,h]
def Yp{l:List Var}{a:List Int}{i:Nat}{v:Var}{x:Int}(h:l[i]?=some v)(h':a[i]?=some x)(hb:zD (v,x)=false):qB l a=false:=by
 unfold qB;rw[qfi (qBb (qdT h h')) hb,qDN]
def Jp{l a i}(hlen:a.length=l.length)(hi:l.length<=i)(hz:∀q∈(l.zip a).take i,zD q=true):qB l a=true:=by
 unfold qB;rw[decide_eq_true hlen,qCs];exact qbz (by simp;omega) hz
def Vk{v}(h:j5 v=0):1<=v.width/\v.width<=8:=(zf h).2
def qlX(p a)(hl:p.vars.length<=1000)(ha:Fits a)(hv:∀v∈p.vars,j5 v=0):Pure prog GG 110 [.agg (qu p),.sl 1 (a.map qh) .none] (.bool (qB p.vars a)):=by
 refine okzQ func110 rfl rfl ?_;by_cases hlen:a.length=p.vars.length
 . generalize hr:qB p.vars a=r;simp[hlen];refine qFW (fun n ev U=>∃i tl,i<=p.vars.length/\n=p.vars.length-i/\ev 1=.sl 1 (a.map qh) .none/\ev 14=.sl 4 (p.vars.map qG) .none/\ev 15=.int .i64 p.vars.length/\ev 16=.int .i64 i/\U=⟨tl,[]⟩/\∀q∈(p.vars.zip a).take i,zD q=true) p.vars.length ⟨0,_,by simp,by simp,by simp,by simp,by simp,by simp,rfl,by simp⟩ ?_;rintro n ev U ⟨i,tl,hi,rfl,h1,h14,h15,h16,rfl,hz⟩
   cases hvi:p.vars[i]? with
   | some v=>
    obtain⟨hc,hv'⟩:=qBa.1 hvi;have hca:i<a.length:=(by omega);obtain⟨x,hx⟩:∃x,a[i]?=some x:=⟨_,qBc hca⟩;have hx':=(qBa.1 hx).2;obtain⟨w1,w8⟩:=Vk (hv v (qBb hvi));have hs:IntKind.i64.wrap (2^min v.width.toNat IntKind.i64.bits)=2^v.width.toNat:=qwH w1 w8;have hw0:¬v.width<0:=(by omega);have bad:zD (v,x)=false->r=false:=fun hb=>by rw[<- hr];exact Yp hvi hx hb
    have good:zD (v,x)=true->∀q∈(p.vars.zip a).take (i+1),zD q=true:=fun hg=>qW (p:=fun q=>zD q=true) (qdT hvi hx) hz hg
    by_cases c1:x<0
    . rw[bad (by simp only[zD];rw[decide_eq_false (by omega:¬0<=x)];rfl)];simp[h1,h14,h15,h16,hc,hca,hv',hx',qBO,c1]
    by_cases c2:(2:Int)^v.width.toNat<=x
    . rw[bad (by simp only[zD];rw[decide_eq_false (by omega:¬x<2^v.width.toNat)];simp)];simp[h1,h14,h15,h16,hc,hca,hv',hx',qBO,c1,hs,hw0,c2]
    by_cases c3:v.mode=0
    . by_cases c4:x=v.value
      . have g:=good (by simp only[zD];rw[decide_eq_true (by omega:0<=x),decide_eq_true (by omega:x<2^v.width.toNat),decide_eq_true c4];simp);subst c4;simp[h1,h14,h15,h16,hc,hca,hv',hx',qBO,c1,hs,hw0,c2,c3];exact⟨_,by omega,i+1,by omega,rfl,wr (by omega) (by omega),by simpa using g⟩
      . rw[bad (by simp only[zD];rw[decide_eq_true c3,decide_eq_false c4];simp)];simp[h1,h14,h15,h16,hc,hca,hv',hx',qBO,c1,hs,hw0,c2,c3,c4]
    have g:=good (by simp only[zD];rw[decide_eq_true (by omega:0<=x),decide_eq_true (by omega:x<2^v.width.toNat),decide_eq_false c3];simp);simp[h1,h14,h15,h16,hc,hca,hv',hx',qBO,c1,hs,hw0,c2,c3];exact⟨_,by omega,i+1,by omega,rfl,wr (by omega) (by omega),by simpa using g⟩
   | none=>
    have hle:p.vars.length<=i:=(by simpa using hvi);have hc:¬i<p.vars.length:=(by omega);rw[Jp hlen hle hz]at hr;subst hr;simp[h14,h15,h16,hc]
 rw[WP hlen];simp[show ¬(a.length:Int)=p.vars.length by omega]
def qhQ(p a)(h:VP p)(ha:Fits a):Pure prog GG 45 [.agg (qu p),.sl 1 (a.map qh) .none] (.bool (decide (qg p=0)&&qB p.vars a)):=by
 refine okzQ func45 rfl rfl ?_;have hva:=qq5 p h;simp only[qu]at hva;generalize hr:(decide (qg p=0)&&qB p.vars a)=r;simp;refine qFJ hva (by simp) ?_;by_cases h0:qg p=0
 . have hv:=Kh h0;rw[decide_eq_true h0,qCs]at hr;by_cases hlen:a.length=p.vars.length
   . simp[h0,hlen];refine qFW (fun n ev U=>∃i tl,i<=p.vars.length/\n=p.vars.length-i/\ev 1=.sl 1 (a.map qh) .none/\ev 2=.ptr 0 0/\ev 5=.int .i64 i/\U=⟨.cells (qu p)::tl,[]⟩/\∀q∈(p.vars.zip a).take i,zD q=true) p.vars.length ⟨0,[],by simp⟩ ?_;rintro n ev U ⟨i,tl,hi,rfl,h1,h2,h5,rfl,hz⟩
     cases hvi:p.vars[i]? with
     | some v=>
      obtain⟨hc,hv'⟩:=qBa.1 hvi;have hca:i<a.length:=(by omega);obtain⟨x,hx⟩:∃x,a[i]?=some x:=⟨_,qBc hca⟩;have hx':=(qBa.1 hx).2;obtain⟨w1,w8⟩:=Vk (hv v (qBb hvi));have hs:IntKind.i64.wrap (2^min v.width.toNat IntKind.i64.bits)=2^v.width.toNat:=qwH w1 w8;have hw0:¬v.width<0:=(by omega);have bad:zD (v,x)=false->r=false:=fun hb=>by rw[<- hr];exact Yp hvi hx hb
      have good:zD (v,x)=true->∀q∈(p.vars.zip a).take (i+1),zD q=true:=fun hg=>qW (p:=fun q=>zD q=true) (qdT hvi hx) hz hg
      by_cases c4:v.mode=0/\¬x=v.value
      . rw[bad (by simp only[zD];rw[decide_eq_true c4.1,decide_eq_false c4.2];simp)];simp[h1,h2,h5,hc,hca,hv',hx',qBO,c4.1,c4.2]
      by_cases c1:x<0
      . rw[bad (by simp only[zD];rw[decide_eq_false (by omega:¬0<=x)];rfl)];by_cases c3:v.mode=0
        . have c5:=Classical.byContradiction fun hn=>c4 ⟨c3,hn⟩
          subst c5;simp[h1,h2,h5,hc,hca,hv',hx',qBO,c1,c3]
        simp[h1,h2,h5,hc,hca,hv',hx',qBO,c1,c3]
      by_cases c2:(2:Int)^v.width.toNat<=x
      . rw[bad (by simp only[zD];rw[decide_eq_false (by omega:¬x<2^v.width.toNat)];simp)];by_cases c3:v.mode=0
        . have c5:=Classical.byContradiction fun hn=>c4 ⟨c3,hn⟩
          subst c5;simp[h1,h2,h5,hc,hca,hv',hx',qBO,c1,c3,hs,hw0,c2]
        simp[h1,h2,h5,hc,hca,hv',hx',qBO,c1,c3,hs,hw0,c2]
      by_cases c3:v.mode=0
      . have c5:=Classical.byContradiction fun hn=>c4 ⟨c3,hn⟩
        have g:=good (by simp only[zD];rw[decide_eq_true (by omega:0<=x),decide_eq_true (by omega:x<2^v.width.toNat),decide_eq_true c5];simp);subst c5;simp[h1,h2,h5,hc,hca,hv',hx',qBO,c1,hs,hw0,c2,c3];exact⟨_,by omega,i+1,by omega,rfl,wr (by omega) (by omega),by simpa using g⟩
      have g:=good (by simp only[zD];rw[decide_eq_true (by omega:0<=x),decide_eq_true (by omega:x<2^v.width.toNat),decide_eq_false c3];simp);simp[h1,h2,h5,hc,hca,hv',hx',qBO,c1,hs,hw0,c2,c3];exact⟨_,by omega,i+1,by omega,rfl,wr (by omega) (by omega),by simpa using g⟩
     | none=>
      have hle:p.vars.length<=i:=(by simpa using hvi);have hc:¬i<p.vars.length:=(by omega);have hca:¬i<a.length:=(by omega);rw[Jp hlen hle hz]at hr;subst hr;simp[h1,h2,h5,hc,hca]
   rw[WP hlen]at hr;subst hr;simp[h0,show ¬(a.length:Int)=p.vars.length by omega]
 rw[decide_eq_false h0,qDo]at hr;subst hr;simp[h0]
def qkN(p a e):ko p a e=(decide (qg p=0)&&qB p.vars a&&decide (Qw (yp p.vars a) e=0)&&!decide (jB (yp p.vars a) e=0)):=rfl
def qok(p a e)(h:VQ p)(ha:Fits a)(hwe:Wen e)(hh:hgt e<=1000)(hsz:(pre e).length<=100000):Pure prog GG 64 [.agg (qu p),.sl 1 (a.map qh) .none,.agg (qp e)] (.bool (ko p a e)):=by
 refine okzQ func64 rfl rfl ?_;have hva:=ke p h;have hen:=qze p a h.vars ha;have hev:=qqj (yp p.vars a) (by have:=qbe (l:=p.vars) (a:=a);have:=h.vars;omega) e hwe (by omega) hsz;have hr:=qkN p a e;generalize ko p a e=r at hr⊢;simp only[qu]at hva hen;simp only[qc e];simp;refine qFJ hva (by simp) ?_;by_cases h0:qg p=0
 . have has:=qlX p a h.vars ha (Kh h0);simp only[qu]at has;simp[h0];refine qFJ has (by simp) ?_;rw[decide_eq_true h0,qCs]at hr;cases hc:qB p.vars a
   . rw[hc]at hr;subst hr;simp
   rw[hc,qCs]at hr;simp;refine qFJ hen (by simp) ?_
   try simp[qc e]
   try rw[<- qc e]
   refine qFJ hev (by simp) ?_;by_cases h1:Qw (yp p.vars a) e=0
   . by_cases h2:jB (yp p.vars a) e=0
     . rw[decide_eq_true h1,decide_eq_true h2]at hr;subst hr;simp[h1,h2]
     . rw[decide_eq_true h1,decide_eq_false h2]at hr;subst hr;simp[h1,h2]
   rw[decide_eq_false h1]at hr;simp at hr;subst hr;simp[h1]
 rw[decide_eq_false h0]at hr;simp at hr;subst hr;simp[h0]
def qgP{p}(hvp:qg p=0){a e}(h:jB (yp p.vars a) e≠0)(ha:qB p.vars a=true):ko p a e=true:=by
 obtain⟨h1,h2⟩:=qbb h;unfold ko;simp[hvp,ha,h1,h]
def qfj{p}(hvp:qg p=0){a}(ha:a∈jM p.vars):qB p.vars a=true:=by
 have hok:=yV.1 ha;unfold qB;simp only[qBf,decide_eq_true_eq,qBk];refine⟨hok.len,?_⟩;rintro⟨v,x⟩ hx;obtain⟨i,hi⟩:=qBT hx;obtain⟨h1,h2⟩:=qCS.1 hi;obtain⟨y,hy,hc⟩:=kK hok h1;rw[h2]at hy;cases hy;dsimp only at h1 h2 hc⊢;have hve:=z5 hvp v (qBb h1);have h3:((2^v.width.toNat:Nat):Int)=(2:Int)^v.width.toNat:=by simp
 unfold zD;by_cases hm:v.mode=0
 . rw[if_pos hm]at hc;subst hc;have hvv:=qhq hve;simp[hm,hvv]
 rw[if_neg hm]at hc;unfold zP at hc;have:x<(2:Int)^v.width.toNat:=by omega
 simp[hm,hc.1,this]
def qhw(e):(qp e).take 4=qp e:=qBh (Nat.le_of_eq (zj e))
def qoi{c:Nat}{cfr:List AV}(q:Ex->Bool)(l:List Ex)(hl:l.length<=50000)(tok:Abs.Tok)(H:List Blk)(T:List (Option Nat))
 (hc:∀e∈l,∀(H':List Blk) (T':List (Option Nat)),KpL [] H H'->qj prog GG c (.agg (qp e)::cfr) ⟨H',T'⟩ (fun r U'=>r=.bool (q e)/\KpL [] H' U'.H)):
 qj prog GG 109 [.sl 4 (l.map qp) tok,.fn c [] cfr] ⟨H,T⟩ (fun r U'=>(∃n:Int,r=.int .i64 n/\(l.any q=true->0<=n)/\(l.any q=false->n<0))/\KpL [] H U'.H):=by
 refine okzA func109 rfl rfl ?_;obtain⟨res,hres⟩:∃res,res=l.any q:=⟨_,rfl⟩;rw[<- hres];simp;refine qFP l (fun d ev U=>ev 0=.sl 4 (l.map qp) tok/\ev 1=.fn c [] cfr/\ev 7=.int .i64 l.length/\ev 8=.int .i64 d.length/\KpL [] H U.H/\res=(l.drop d.length).any q) ?_ ?_ ?_
 . exact⟨by simp,by simp,by simp,by simp,qF5,by simpa using hres⟩
 . rintro d e rest ev ⟨H1,T1⟩ R hR hd hx hlt ⟨e0,e1,e7,e8,hk,hr⟩;have hdw:=wr (n:=(d.length:Int)+1) (by omega) (by omega);have hc1:=hc e (qBb hx) H1 T1 hk;have hdr:l.drop d.length=e::l.drop (d.length+1):=by
    obtain⟨h1,h2⟩:=qBa.1 hx;rw[qBx h1,h2]
   rw[hdr,qDc]at hr;simp[-qV,e0,e1,e7,e8,show(d.length:Int)<l.length by omega,hx,qhw];refine qFC hc1 ?_;rintro r ⟨H2,T2⟩ ⟨rfl,hk2⟩
   cases hq:q e with
   | true=>
    rw[hq,Bool.true_or]at hr;subst hr;simp[e8];exact hk.trans hk2
   | false=>
    rw[hq,qDu]at hr;simp[e8,hdw];exact hR _ _ ⟨by simp[e0],by simp[e1],by simp[e7],by simp,hk.trans hk2,by rw[qBe];exact hr⟩
 rintro ev ⟨H1,T1⟩ ⟨e0,e1,e7,e8,hk,hr⟩;have:res=false:=by rw[hr,qCg];rfl
 subst this;simp[e7,e8];exact hk
def qe3{c:Nat}{cfr:List AV}(q:Ex->Bool)(l:List Ex)(hl:l.length<=50000)(tok:Abs.Tok)(H:List Blk)(T:List (Option Nat))
 (hc:∀e∈l,∀(H':List Blk) (T':List (Option Nat)),KpL [] H H'->qj prog GG c (.agg (qp e)::cfr) ⟨H',T'⟩ (fun r U'=>r=.bool (q e)/\KpL [] H' U'.H)):
 qj prog GG 62 [.sl 4 (l.map qp) tok,.fn c [] cfr] ⟨H,T⟩ (fun r U'=>r=.bool (l.any q)/\KpL [] H U'.H):=by
 refine okzA func62 rfl rfl ?_;have hi:=qoi q l hl tok H T hc;generalize l.any q=res at *;simp;refine qFC hi ?_;rintro r ⟨H1,T1⟩ ⟨⟨n,rfl,h1,h2⟩,hk⟩
 cases res with
 | true=>
  have:=h1 rfl;simp[this];exact hk
 | false=>
  have:¬(0<=n):=by have:=h2 rfl;omega
  simp[this];exact hk
def qjt{s H}(hq:VQ s.p)(hs:SpOk s H){r a}(haf:Fits a)(hfr:∀H',KpL [] H H'->Leq (frz H' 8 r) (.sl 1 (a.map qh) .none)){e}(hwe:Wen e)(hh:hgt e<=1000)(hsz:(pre e).length<=100000){B1 B2}(h1:H[B1]?=some (.cells [.ptr s.S 0]))(h2:H[B2]?=some (.cells [r]))(T):
 qj prog GG 63 [.agg (qp e),.ptr B1 0,.ptr B2 0] ⟨H,T⟩ (fun v U'=>v=.bool (!ko s.p a e)/\KpL [] H U'.H):=by
 refine okzA func63 rfl rfl ?_;have hS:=hs.c;have hh1:=qok s.p a e hq haf hwe hh hsz;generalize ko s.p a e=res at *;simp only[spE,qu,qBB,qBy]at hS;simp only[qu,qc e]at hh1;simp only[qc e];have k1:=qd h1;have k2:=qd h2;have k3:=qd hS;simp[k1,k2,k3];refine qFB hh1 rfl ?_ ?_
 . simp only[qBn,qBN,zm,and_true];refine⟨?_,hfr _ qF7,?_⟩
   . rw[qs (by simp)];exact qFG _
   rw[qs (by simp)];exact qFG _
 simp[unA];exact qF7
def qfG{s H}(hq:VQ s.p)(hs:SpOk s H)(hl:s.R.length<=50000){r a}(haf:Fits a)(hbx:qV r=some [r])(hfr:∀H',KpL [] H H'->Leq (frz H' 8 r) (.sl 1 (a.map qh) .none))(hx:∀e∈s.R,Wen e/\hgt e<=1000/\(pre e).length<=100000)(T):
 qj prog GG 36 [.ptr s.S 0,r] ⟨H,T⟩ (fun v U'=>v=.bool (s.R.all (ko s.p a))/\KpL [] H U'.H):=by
 refine okzA func36 rfl rfl ?_;have hS:=hs.c;have hk0:KpL [] H (H++[.cells [.ptr s.S 0],.cells [r]]):=qF7;have hcon:=qe3 (c:=63) (cfr:=[.ptr H.length 0,.ptr (H.length+1) 0]) (fun e=>!ko s.p a e) s.R hl s.rtok (H++[.cells [.ptr s.S 0],.cells [r]]) T (fun e he H' T' hk=>by
  obtain⟨x1,x2,x3⟩:=hx e he;have hkk:=hk0.trans hk;exact qjt hq (hs.keep hkk (by simp) (by simp) (by simp)) haf (fun H2 hk2=>hfr _ (hkk.trans hk2)) x1 x2 x3 (hk.2 _ _ lk0 (by simp)) (hk.2 _ _ lk1 (by simp)) T')
 have hany:(!s.R.any fun e=>!ko s.p a e)=s.R.all (ko s.p a):=by simp[List.all_eq_not_any_not]
 generalize (s.R.any fun e=>!ko s.p a e)=res at *;rw[<- hany];simp only[spE,qu,qBB,qBy]at hS;have k1:=qd hS;simp[-qV,hbx,k1,show qV (.ptr s.S 0)=some [.ptr s.S 0] from rfl];refine qFC hcon ?_;rintro v ⟨H1,T1⟩ ⟨rfl,hk1⟩;simp[unA];exact hk0.trans hk1
def qgT(ok:List Int->Bool)(vs:List Var)(pre:List Int):Nat:=(jM vs).countP fun x=>ok (pre++x)
def qoU(ok pre):qgT ok [] pre=if ok pre then 1 else 0:=by
 simp[qgT,jM,qFh]
def qte(ok){v}(h:v.mode=0)(vs pre):qgT ok (v::vs) pre=qgT ok vs (pre++[v.value]):=by
 unfold qgT;rw[WR h,qEq];congr 1;funext x;simp
def qoS(ok:List Int->Bool)(vs:List Var)(pre:List Int)(k:Nat):Nat:=((List.range k).flatMap fun n:Nat=>(jM vs).map ((n:Int)::·)).countP fun x=>ok (pre++x)
def qtf(ok){v}(h:¬v.mode=0)(vs pre):qgT ok (v::vs) pre=qoS ok vs pre (2^v.width.toNat):=by
 unfold qgT qoS;rw[WS h];rfl
def qdr(ok vs pre k):qoS ok vs pre (k+1)=qoS ok vs pre k+qgT ok vs (pre++[(k:Int)]):=by
 unfold qoS qgT;rw[qCt,List.flatMap_append,List.countP_append];congr 1;simp only[qBC,qDQ,qBU,qEq];congr 1;funext x;simp
def qlw(ok vs pre):∀k,qoS ok vs pre k<=k*(jM vs).length
 |0=>by simp[qoS]
 | k+1=>by
  have h1:=qlw ok vs pre k;have h2:qgT ok vs (pre++[(k:Int)])<=(jM vs).length:=List.countP_le_length;rw[qdr,qDB];omega
def qfl{v}(h:¬v.mode=0)(vs):(jM (v::vs)).length=2^v.width.toNat*(jM vs).length:=by
 rw[ZD,ZD];simp only[qBn,qDe,if_neg h,Nat.pow_add]
def qfk{v}(h:v.mode=0)(vs):(jM (v::vs)).length=(jM vs).length:=by
 rw[ZD,ZD];simp only[qBn,qDe,if_pos h,qCH]
structure EnB where
 A:Nat
 P:Nat
 N:Nat
 V:Nat
 AL:Nat
structure EnOk(B:EnB)(s rv a n H):Prop where
 sp:SpOk s H
 fa:H[B.A]?=some (.cells [rv])
 fp:H[B.P]?=some (.cells [.ptr s.S 0])
 fn:H[B.N]?=some (.cells [.int .i64 (n:Nat)])
 fv:H[B.V]?=some (.cells [.fn 54 [] [.ptr B.A 0,.ptr B.P 0,.ptr B.N 0,.ptr B.V 0]])
 fr:qg5 B.AL H rv a
 ne:B.N≠B.AL
 o:∀b∈[B.A,B.P,B.V,s.S,s.L,s.LL],b≠B.N/\b≠B.AL
def EnOk.keep{B s rv a n H H'}(h:EnOk B s rv a n H)(hk:KpL [] H H'):EnOk B s rv a n H' :=
 ⟨h.sp.keep hk (by simp) (by simp) (by simp),hk.2 _ _ h.fa (by simp),hk.2 _ _ h.fp (by simp),hk.2 _ _ h.fn (by simp),hk.2 _ _ h.fv (by simp),h.fr.imp id fun⟨h1,h2,h3⟩=>⟨h1,h2,hk.2 _ _ h3 (by simp)⟩,h.ne,h.o⟩
def EnOk.setN{B s rv a n H}(h:EnOk B s rv a n H)(m):EnOk B s rv a m (H.set B.N (.cells [.int .i64 (m:Nat)])):=by
 have hl:=(qBa.1 h.fn).1;have hk:KpL [B.N] H (H.set B.N (.cells [.int .i64 (m:Nat)])):=qF8 (by simp);have ho:=h.o;exact⟨h.sp.keep hk (by simpa using(ho s.S (by simp)).1) (by simpa using(ho s.L (by simp)).1) (by simpa using(ho s.LL (by simp)).1),hk.2 _ _ h.fa (by simpa using(ho B.A (by simp)).1),hk.2 _ _ h.fp (by simpa using(ho B.P (by simp)).1),qBg hl,hk.2 _ _ h.fv (by simpa using(ho B.V (by simp)).1),
  h.fr.imp id fun⟨h1,h2,h3⟩=>⟨h1,h2,hk.2 _ _ h3 (by simpa using Ne.symm h.ne)⟩,h.ne,h.o⟩
def EnOk.setA{B s rv a n H}(h:EnOk B s rv a n H)(ha:a≠[])(i x):EnOk B s rv (a.set i x) n (H.set B.AL (.cells (zd (a.set i x)))):=by
 rcases h.fr with⟨h0,-⟩|⟨h1,h2,h3⟩
 . exact absurd h0 ha
 have hl:=(qBa.1 h3).1;have hk:KpL [B.AL] H (H.set B.AL (.cells (zd (a.set i x)))):=qF8 (by simp);have ho:=h.o;exact⟨h.sp.keep hk (by simpa using(ho s.S (by simp)).2) (by simpa using(ho s.L (by simp)).2) (by simpa using(ho s.LL (by simp)).2),hk.2 _ _ h.fa (by simpa using(ho B.A (by simp)).2),hk.2 _ _ h.fp (by simpa using(ho B.P (by simp)).2),hk.2 _ _ h.fn (by simpa using h.ne),hk.2 _ _ h.fv (by simpa using(ho B.V (by simp)).2),
  .inr ⟨by simpa using ha,by rw[qCD];exact h2,qBg hl⟩,h.ne,h.o⟩
noncomputable def okE(s:Spc)(a:List Int):Bool:=s.R.all (ko s.p a)
def EnQ(B:EnB)(s:Spc)(rv:AV)(i:Nat)(a:List Int)(n:Nat)(H:List Blk)(r:AV)(U':St):Prop :=
 KpL [B.N,B.AL] H U'.H/\∃a',a'.length=a.length/\a'.take i=a.take i/\EnOk B s rv a' (n+qgT (okE s) (s.p.vars.drop i) (a.take i)) U'.H
def qg5.ac{b H v a}(h:qg5 b H v a):qV v=some [v]:=by
 rcases h with⟨-,sz,tok,rfl⟩|⟨-,rfl,-⟩<;>rfl
def qg5.ln{b H v a}(h:qg5 b H v a)(U):YT (Dof prog) U 28 v=some (.int .i64 (a.length:Nat)):=by
 rcases h with⟨rfl,sz,tok,rfl⟩|⟨h0,rfl,hb⟩<;>simp
def qlf{B s}(hq:VQ s.p)(hv:∀v∈s.p.vars,0<=v.width/\v.width<=20)(hRl:s.R.length<=50000)(hx:∀e∈s.R,Wen e/\hgt e<=1000/\(pre e).length<=100000)(rv):
 ∀ (k i:Nat) (a) (n),i+k=s.p.vars.length->a.length=s.p.vars.length->n+(jM (s.p.vars.drop i)).length<=2^24->∀(H) (T),EnOk B s rv a n H ->
  qj prog GG 54 [.int .i64 i,.ptr B.A 0,.ptr B.P 0,.ptr B.N 0,.ptr B.V 0] ⟨H,T⟩ (EnQ B s rv i a n H):=by
 intro k
 induction k with
 | zero=>
  intro i a n hik hal hn H T ok;refine okzA func54 rfl rfl ?_;obtain⟨hsp,bA,bP,bN,bV,hr,hne,ho⟩:=id ok;have hln:=hr.ln;have hd:s.p.vars.drop i=[]:=qBS (by omega);rw[hd]at hn;have hn:n+1<=2^24:=by simpa[jM] using hn
  have hl:=hq.vars;have hfr:∀H',KpL [] H H'->Leq (frz H' 8 rv) (.sl 1 (a.map qh) .none):=fun H' hk=>by
   have:=(qg5.frz (b:=B.AL) (H:=H') (v:=rv) (a:=a) (hr.imp id fun⟨h1,h2,h3⟩=>⟨h1,h2,hk.2 _ _ h3 (by simp)⟩) 7).2.1;exact this
  have hso:=qfG hq hsp hRl (r:=rv) (a:=a) (by unfold Fits;omega) hr.ac hfr hx T;have fin:EnQ B s rv i a n H=fun r U'=>KpL [B.N,B.AL] H U'.H/\∃a',a'.length=a.length/\a'.take i=a.take i/\EnOk B s rv a' (n+if okE s a then 1 else 0) U'.H:=by
   funext r U';unfold EnQ;rw[show qgT (okE s) (s.p.vars.drop i) (a.take i)=if okE s a then 1 else 0 by rw[hd,qoU,qBh (by omega)]]
  rw[fin];change qj _ _ _ _ _ (fun v U'=>v=.bool (okE s a)/\_) at hso;generalize okE s a=res at *;simp[-YT,bA,bP,hln,show(i:Int)=a.length by omega];refine qFC hso ?_;rintro r ⟨H1,T1⟩ ⟨rfl,hk1⟩;have ok1:=ok.keep hk1;have bN1:=ok1.fn;have lN1:=(qBa.1 bN1).1;have hw:=wr (n:=(n:Int)+1) (by omega) (by omega)
  cases res with
  | false=>
   simp;exact⟨hk1.sub (by simp),a,rfl,rfl,ok1⟩
  | true=>
   simp[bN1,hw];exact⟨(hk1.sub (by simp)).trans (qF8 (by simp)),a,rfl,rfl,by have:=ok1.setN (n+1);simpa using this⟩
 | succ k ih=>
  intro i a n hik hal hn H T ok;refine okzA func54 rfl rfl ?_;obtain⟨hsp,bA,bP,bN,bV,hr,hne,ho⟩:=id ok;have hia:i<a.length:=by omega
  have ha0:a≠[]:=fun e=>by rw[e]at hia;simp at hia
  obtain⟨v,hvi⟩:∃v,s.p.vars[i]?=some v:=⟨_,qBc (by omega)⟩;have hvw:=hv v (qBb hvi);have hdr:s.p.vars.drop i=v::s.p.vars.drop (i+1):=by
   obtain⟨h1,h2⟩:=qBa.1 hvi;rw[qBx h1,h2]
  have hl:=hq.vars;rcases hr with⟨h0,-⟩|⟨-,hrv,bAL⟩
  . exact absurd h0 ha0
  subst hrv;have hS:=hsp.c;simp only[spE,qu,qBB,qBy]at hS;have kA:=qd bA;have kP:=qd bP;have kL:=qd bAL;have hni:¬(i:Int)=a.length:=by omega
  have hia':(i:Int)<a.length:=by omega
  have hil':(i:Int)<s.p.vars.length:=by omega
  have hla:i+1<=a.length:=hia;have hset:∀(a:List Int) x,(zd a).set i (.int .i64 x)=zd (a.set i x):=fun a x=>by simp[zd,qD7]
  have hwi:=wr (n:=(i:Int)+1) (by omega) (by omega);have htk:∀(a':List Int) x,a'.length=a.length->a'.take i=a.take i->(a'.set i x).take (i+1)=a.take i++[x]:=fun a' x h1 h2=>by
   rw[qBG,qBg (by omega),List.take_set_of_le (qBl _),h2];rfl
  by_cases hm:v.mode=0
  . have hcs:=qte (okE s) hm (s.p.vars.drop (i+1)) (a.take i);rw[hdr,qfk hm]at hn;have ok1:=(ok.keep (H':=H++[.cells (qG v)]) qF7).setA ha0 i v.value;have hih:=ih (i+1) (a.set i v.value) n (by omega) (by simpa using hal) hn _ T ok1;have bV1:=ok1.fv;simp only[qG,hm]at hih bV1;rw[show(((i+1:Nat)):Int)=(i:Int)+1 by omega]at hih;simp[kA,kL,bA,bP,hS,hvi,hia',hni,hm,hset,hla,qQ,bV1,hwi];refine qFC hih ?_;rintro r ⟨H1,T1⟩ ⟨hk1,a',l1,l2,ok2⟩;simp;refine⟨qF6 (qF6 qF7 (qF8 (by simp))) hk1,a',by simpa using l1,?_,?_⟩
    . have:=congrArg (List.take i) l2;rw[htk a v.value rfl rfl]at this;simpa[qFi,qCw (by omega:i<=i+1),qCw (by omega:i<=a.length)] using this
    rw[hdr,hcs]
    rwa[htk a v.value rfl rfl]at ok2
  have hcs:=qtf (okE s) hm (s.p.vars.drop (i+1)) (a.take i);have hcl:=fun k=>qlw (okE s) (s.p.vars.drop (i+1)) (a.take i) k
  have hsu:=fun k=>qdr (okE s) (s.p.vars.drop (i+1)) (a.take i) k
  rw[hdr,qfl hm]at hn;have hs1:=wN hvw.1 (by omega);have hNb:2^v.width.toNat<=2^20:=qBL (by omega) (by omega);have fin:EnQ B s (.ms B.AL 0 a.length 1) i a n H=fun r U'=>KpL [B.N,B.AL] H U'.H/\∃a',a'.length=a.length/\a'.take i=a.take i/\EnOk B s (.ms B.AL 0 a.length 1) a' (n+qoS (okE s) (s.p.vars.drop (i+1)) (a.take i) (2^v.width.toNat)) U'.H:=by
   funext r U';unfold EnQ;rw[hdr,hcs]
  rw[fin];generalize 2^v.width.toNat=W at *;simp[kA,kL,bA,bP,hS,hvi,hia',hni,hm,show ¬v.width<0 by omega,hs1,IntKind.bits];refine yU W (fun k ev U=>ev 0=.int .i64 i/\ev 1=.ptr B.A 0/\ev 2=.ptr B.P 0/\ev 3=.ptr B.N 0/\ev 4=.ptr B.V 0/\ev 39=.int .i64 W/\ev 40=.int .i64 k/\KpL [B.N,B.AL] H U.H/\∃a',a'.length=a.length/\a'.take i=a.take i/\EnOk B s (.ms B.AL 0 a.length 1) a' (n+qoS (okE s) (s.p.vars.drop (i+1)) (a.take i) k) U.H) ?_ ?_ ?_
  . exact⟨by simp,by simp,by simp,by simp,by simp,by simp,by simp,qF7,a,rfl,rfl,ok.keep qF7⟩
  . rintro k ev ⟨H1,T1⟩ R hR hkW ⟨e0,e1,e2,e3,e4,e39,e40,hk1,a',l1,l2,ok1⟩;have hwk:=wr (n:=(k:Int)+1) (by omega) (by omega);have hmul:(k+1)*(jM (s.p.vars.drop (i+1))).length<=W*(jM (s.p.vars.drop (i+1))).length:=qCh _ hkW;rw[qDB]at hmul;have hck:=hcl k;have ha0':a'≠[]:=fun e=>by rw[e]at l1;simp at l1;omega
    obtain⟨hsp1,bA1,bP1,bN1,bV1,hr1,-,-⟩:=id ok1;rcases hr1 with⟨h0,-⟩|⟨-,hrv1,bAL1⟩
    . exact absurd h0 ha0'
    have ok2:=ok1.setA ha0' i (k:Int);have bV2:=ok2.fv;have hih:=ih (i+1) (a'.set i (k:Int)) _ (by omega) (by simp;omega) (qB6 (Nat.add_le_add_right (Nat.add_le_add_left hck n) _) (by omega)) _ T1 ok2;rw[show(((i+1:Nat)):Int)=(i:Int)+1 by omega]at hih;simp[e0,e1,e4,e39,e40,show(k:Int)<W by omega,bA1,bAL1,hia',hset,show i+1<=a'.length by omega,qQ,bV2,hwi];refine qFC hih ?_;rintro r ⟨H2,T2⟩ ⟨hk2,a2,m1,m2,ok3⟩;rw[htk a' k l1 l2]at m2 ok3;simp[e40,hwk];refine hR _ _ ⟨by simp[e0],by simp[e1],by simp[e2],by simp[e3],by simp[e4],by simp[e39],by simp,hk1.trans (qF6 (qF8 (by simp)) hk2),a2,by rw[m1,qCD,l1],?_,?_⟩
    . have:=congrArg (List.take i) m2;simpa[qFi,qCw (by omega:i<=i+1),qCw (by omega:i<=a.length)] using this
    rwa[hsu,<- qDb]
  rintro ev ⟨H1,T1⟩ ⟨e0,e1,e2,e3,e4,e39,e40,hk1,a',l1,l2,ok1⟩;simp[e39,e40];exact⟨hk1,a',l1,l2,ok1⟩
noncomputable def qw1(s:Spc):Nat:=(jM s.p.vars).countP (okE s)
def SpOk.lt{s H}(h:SpOk s H):s.S<H.length/\s.L<H.length/\s.LL<H.length:=by
 refine⟨(qBa.1 h.c).1,?_,h.b⟩;obtain⟨c,hc,_⟩:=h.w;exact(qBa.1 hc).1
def KpL.fresh{H H1 H2 bs}(h:KpL [] H H1)(h2:KpL bs H1 H2)(hB:∀b∈bs,H.length<=b):KpL [] H H2:=⟨qB6 h.1 h2.1,fun k x hk _=>h2.2 k x (h.2 k x hk (by simp)) (fun hb=>by have:=(qBa.1 hk).1;have:=hB k hb;omega)⟩
def qvY{s}(hq:VQ s.p)(hv:∀v∈s.p.vars,0<=v.width/\v.width<=20)(hRl:s.R.length<=50000)(hx:∀e∈s.R,Wen e/\hgt e<=1000/\(pre e).length<=100000)(hn:(jM s.p.vars).length<=2^24){H}(hs:SpOk s H)(T):
 qj prog GG 27 [.ptr s.S 0] ⟨H,T⟩ (fun r U'=>r=.int .i64 (qw1 s:Nat)/\KpL [] H U'.H):=by
 refine qj.k qX func27 rfl (by kernel_rfl) ?_;have hl:=hq.vars;obtain⟨g1,g2,g3⟩:=hs.lt;have hS:=hs.c;simp only[spE,qu,qBB,qBy]at hS;have kS:=qd hS;have hcn:qgT (okE s) s.p.vars []=qw1 s:=by unfold qgT qw1;simp
 by_cases h0:s.p.vars=[]
 . have lk:∀(a b c d:Blk),(H++[a,b,c,d])[H.length]?=some a/\(H++[a,b,c,d])[H.length+1]?=some b/\(H++[a,b,c,d])[H.length+2]?=some c/\(H++[a,b,c,d])[H.length+3]?=some d:=by
    intros
    refine⟨?_,?_,?_,?_⟩<;>simp[]
   obtain⟨a0,a1,a2,a3⟩:=lk (.cells [.ptr s.S 0]) (.cells [.sl 1 [] (.chain T.length 0)]) (.cells [.int .i64 0]) (.cells [.fn 54 [] [.ptr (H.length+1) 0,.ptr H.length 0,.ptr (H.length+2) 0,.ptr (H.length+3) 0]]);have ok:EnOk ⟨H.length+1,H.length,H.length+2,H.length+3,H.length+100⟩ s (.sl 1 [] (.chain T.length 0)) [] 0 (H++[.cells [.ptr s.S 0],.cells [.sl 1 [] (.chain T.length 0)],.cells [.int .i64 0],.cells [.fn 54 [] [.ptr (H.length+1) 0,.ptr H.length 0,.ptr (H.length+2) 0,.ptr (H.length+3) 0]]]) :=
    ⟨hs.keep qF7 (bs:=[]) (by simp) (by simp) (by simp),a1,a0,a2,a3,.inl ⟨rfl,1,_,rfl⟩,by dsimp only;omega,by simp;omega⟩
   have he:=qlf hq hv hRl hx _ s.p.vars.length 0 [] 0 (by omega) (by rw[h0];rfl) (by simpa using hn) _ (T++[some 0]) ok;simp[kS,h0,qD];refine qFC he ?_;rintro r ⟨H1,T1⟩ ⟨hk1,a',l1,l2,ok2⟩;have bN:=ok2.fn;simp only[qCq,List.take_nil,hcn,qCH]at bN;simp[bN];exact KpL.fresh qF7 hk1 (by simp)
 have hpos:=qBv.2 h0;have hne:¬(s.p.vars.length:Int)=0:=by omega
 have lk:∀(a b c d e:Blk),(H++[a,b,c,d,e])[H.length]?=some a/\(H++[a,b,c,d,e])[H.length+1]?=some b/\(H++[a,b,c,d,e])[H.length+2]?=some c/\(H++[a,b,c,d,e])[H.length+3]?=some d/\(H++[a,b,c,d,e])[H.length+4]?=some e:=by
  intros
  refine⟨?_,?_,?_,?_,?_⟩<;>simp[]
 obtain⟨a0,a1,a2,a3,a4⟩:=lk (.cells [.ptr s.S 0]) (.cells (List.replicate s.p.vars.length (.int .i64 0))) (.cells [.ms (H.length+1) 0 s.p.vars.length 1]) (.cells [.int .i64 0]) (.cells [.fn 54 [] [.ptr (H.length+2) 0,.ptr H.length 0,.ptr (H.length+3) 0,.ptr (H.length+4) 0]]);have ok:EnOk ⟨H.length+2,H.length,H.length+3,H.length+4,H.length+1⟩ s (.ms (H.length+1) 0 s.p.vars.length 1) (List.replicate s.p.vars.length 0) 0 (H++[.cells [.ptr s.S 0],.cells (List.replicate s.p.vars.length (.int .i64 0)),.cells [.ms (H.length+1) 0 s.p.vars.length 1],.cells [.int .i64 0],.cells [.fn 54 [] [.ptr (H.length+2) 0,.ptr H.length 0,.ptr (H.length+3) 0,.ptr (H.length+4) 0]]]) :=
  ⟨hs.keep qF7 (bs:=[]) (by simp) (by simp) (by simp),a2,a0,a3,a4,.inr ⟨by simpa using h0,by simp,by rw[show ∀n,zd (List.replicate n 0)=List.replicate n (.int .i64 0) from fun n=>by simp[zd]];exact a1⟩,by dsimp only;omega,by simp;omega⟩
 have he:=qlf hq hv hRl hx _ s.p.vars.length 0 (List.replicate s.p.vars.length 0) 0 (by omega) (by simp) (by simpa using hn) _ T ok;simp[kS,h0,qD,show(s.p.vars.length:Int)<=549755813888 by omega];refine qFC he ?_;rintro r ⟨H1,T1⟩ ⟨hk1,a',l1,l2,ok2⟩;have bN:=ok2.fn;simp only[qCq,qEy,hcn,qCH]at bN;simp[bN];exact KpL.fresh qF7 hk1 (by simp)
end Go.Proofs.YtafbccendejkeaaGreatDoor
namespace Go.Abs
def qmm(b:Nat->Bool)(L:Nat)(v:Bool):Nat->Bool:=fun l=>if l=L then v else b l
def YZ{d}(h:DagOk d){i L}(hi:i<d.length)(hL:L<lvD d i)(b v):evD d (qmm b L v) i=evD d b i :=
 WA h hi fun l hl=>if_neg (by omega)
def V8{d}(h:DagOk d){i n}(h2:2<=i)(hn:d[i]?=some n)(b):evD d (qmm b n.1 false) i=evD d b n.2.1:=by
 obtain⟨g1,g2,g3,g4,g5,g6⟩:=h.node i n h2 hn;have hi:=(List.getElem?_eq_some_iff.1 hn).1;rw[QV h _ h2 hn];have:qmm b n.1 false n.1=false:=by simp[qmm]
 rw[this];exact YZ h (by omega) g5 b false
def V9{d}(h:DagOk d){i n}(h2:2<=i)(hn:d[i]?=some n)(b):evD d (qmm b n.1 true) i=evD d b n.2.2:=by
 obtain⟨g1,g2,g3,g4,g5,g6⟩:=h.node i n h2 hn;have hi:=(List.getElem?_eq_some_iff.1 hn).1;rw[QV h _ h2 hn];have:qmm b n.1 true n.1=true:=by simp[qmm]
 rw[this];exact YZ h (by omega) g6 b true
def qlq{d}(h:DagOk d):∀(m i j),i<=m->j<=m->i<d.length->j<d.length->(∀b,evD d b i=evD d b j)->i=j:=by
 intro m
 induction m with
 |zero=>intro i j hm hm' _ _ _;omega
 | succ m ih=>
  intro i j hm hm' hi hj he
  -- a node above another one
  have above:∀(i j:Nat),i<=m+1->j<=m+1->i<d.length->j<d.length->(∀b,evD d b i=evD d b j)->lvD d i<lvD d j->False:=by
   intro i j hm hm' hi hj he hl;have h2:2<=i:=by
    apply Classical.byContradiction;intro hc;have:i=0\/i=1:=by omega
    have h1:=qgl h j;rcases this with rfl|rfl
    . rw[qh8 h]at hl;omega
    rw[qh7 h]at hl;omega
   obtain⟨n,hn⟩:∃n,d[i]?=some n:=⟨_,List.getElem?_eq_getElem hi⟩;obtain⟨g1,g2,g3,g4,g5,g6⟩:=h.node i n h2 hn;rw[zQ hn]at hl;refine g4 (ih _ _ (by omega) (by omega) (by omega) (by omega) fun b=>?_);rw[<- V8 h h2 hn b,<- V9 h h2 hn b,he,he,YZ h hj hl,YZ h hj hl]
  by_cases h1:lvD d i<lvD d j
  . exact(above i j hm hm' hi hj he h1).elim
  by_cases h2:lvD d j<lvD d i
  . exact(above j i hm' hm hj hi (fun b=>(he b).symm) h2).elim
  have hll:lvD d i=lvD d j:=by omega
  by_cases hi2:2<=i
  . have hl20:=qkw h hi2 hi;have hj2:2<=j:=by
     apply Classical.byContradiction;intro hc;have:j=0\/j=1:=by omega
     rcases this with rfl|rfl
     . rw[qh8 h]at hll;omega
     rw[qh7 h]at hll;omega
    obtain⟨n,hn⟩:∃n,d[i]?=some n:=⟨_,List.getElem?_eq_getElem hi⟩;obtain⟨k,hk⟩:∃k,d[j]?=some k:=⟨_,List.getElem?_eq_getElem hj⟩;obtain⟨g1,g2,g3,g4,g5,g6⟩:=h.node i n hi2 hn;obtain⟨k1,k2,k3,k4,k5,k6⟩:=h.node j k hj2 hk;rw[zQ hn,zQ hk]at hll;have e1:n.2.1=k.2.1:=ih _ _ (by omega) (by omega) (by omega) (by omega) fun b=>by
     rw[<- V8 h hi2 hn b,<- V8 h hj2 hk b,he,hll]
    have e2:n.2.2=k.2.2:=ih _ _ (by omega) (by omega) (by omega) (by omega) fun b=>by
     rw[<- V9 h hi2 hn b,<- V9 h hj2 hk b,he,hll]
    have e:=Prod.ext hll (Prod.ext e1 e2);subst e;exact(List.getElem?_inj hi h.nodup).1 (hn.trans hk.symm)
  by_cases hj2:2<=j
  . have hl20:=qkw h hj2 hj;have:i=0\/i=1:=by omega
    rcases this with rfl|rfl
    . rw[qh8 h]at hll;omega
    rw[qh7 h]at hll;omega
  have e:=he fun _=>false
  rw[JR h _ (by omega),JR h _ (by omega)]at e;have a:i=0\/i=1:=by omega
  have b:j=0\/j=1:=by omega
  rcases a with rfl|rfl<;>rcases b with rfl|rfl<;>simp_all
def Va(d:List Nd)(e0 e1:Int)(comb:Nd->Int->Int->Int):Nat->Nat->Int
 |0,k=>if k=0 then e0 else e1
 | m+1,k=>if k=0 then e0 else if k=1 then e1 else match d[k]? with
  |some n=>comb n (Va d e0 e1 comb m n.2.1) (Va d e0 e1 comb m n.2.2)
  |none=>0
def qa7(d:List Nd)(e0 e1:Int)(comb:Nd->Int->Int->Int)(k:Nat):Int:=Va d e0 e1 comb (k+1) k
def YV{d}(h:DagOk d){e0 e1 comb}:∀(m m' k),k<m->k<m'->Va d e0 e1 comb m k=Va d e0 e1 comb m' k
 |0,_,k,hk,_=>by omega
 |m+1,0,k,_,hk=>by omega
 | m+1,m'+1,k,h1,h2=>by
  by_cases hk2:2<=k
  . unfold Va;rw[if_neg (by omega),if_neg (by omega),if_neg (by omega),if_neg (by omega)]
    cases hn:d[k]? with
    |none=>rfl
    | some n=>
     obtain⟨g1,g2,g3,-⟩:=h.node k n hk2 hn;dsimp only;rw[YV h m m' _ (by omega) (by omega),YV h m m' n.2.2 (by omega) (by omega)]
  have:k=0\/k=1:=by omega
  rcases this with rfl|rfl<;>simp[Va]
def qk1{d e0 e1 comb}:qa7 d e0 e1 comb 0=e0:=by simp[qa7,Va]
def qk0{d e0 e1 comb}:qa7 d e0 e1 comb 1=e1:=by simp[qa7,Va]
def w9{d}(h:DagOk d){e0 e1 comb k n}(h2:2<=k)(hn:d[k]?=some n):qa7 d e0 e1 comb k=comb n (qa7 d e0 e1 comb n.2.1) (qa7 d e0 e1 comb n.2.2):=by
 obtain⟨g1,g2,g3,-⟩:=h.node k n h2 hn;unfold qa7;rw[Va,if_neg (by omega),if_neg (by omega),hn];dsimp only;rw[YV h k (n.2.1+1) _ (by omega) (by omega),YV h k (n.2.2+1) n.2.2 (by omega) (by omega)]
def Jk(n:Nd)(lo hi:Int):Int:=max (max (n.1:Int) lo) hi
def yO(d:List Nd)(k:Nat):Int:=qa7 d (-1) (-1) Jk k
def qs8{d}(h:DagOk d)(N):∀(m k),k<m->k<d.length->(∀b c:Nat->Bool,(∀l,l<N->b l=c l)->evD d b k=evD d c k)->yO d k<N:=by
 intro m
 induction m with
 |zero=>intro k hk;omega
 | succ m ih=>
  intro k hkm hk hb;by_cases h2:2<=k
  . obtain⟨n,hn⟩:∃n,d[k]?=some n:=⟨_,List.getElem?_eq_getElem hk⟩;obtain⟨g1,g2,g3,g4,g5,g6⟩:=h.node k n h2 hn;have hlv:n.1<N:=by
     apply Classical.byContradiction;intro hc;refine g4 (qlq h (n.2.1+n.2.2) _ _ (by omega) (by omega) (by omega) (by omega) fun b=>?_);rw[<- V8 h h2 hn b,<- V9 h h2 hn b];refine hb _ _ fun l hl=>?_
     unfold qmm;rw[if_neg (by omega),if_neg (by omega)]
    have l1:=ih n.2.1 (by omega) (by omega) fun b c hbc=>by
     rw[<- V8 h h2 hn b,<- V8 h h2 hn c];refine hb _ _ fun l hl=>?_
     unfold qmm;split
     . rfl
     exact hbc l hl
    have l2:=ih n.2.2 (by omega) (by omega) fun b c hbc=>by
     rw[<- V9 h h2 hn b,<- V9 h h2 hn c];refine hb _ _ fun l hl=>?_
     unfold qmm;split
     . rfl
     exact hbc l hl
    unfold yO at *;rw[w9 h h2 hn];unfold Jk at *;omega
  unfold yO;have:k=0\/k=1:=by omega
  rcases this with rfl|rfl
  . rw[qk1];omega
  rw[qk0];omega
def qac(d:List Nd):Nat->Nat->Nat->Nat
 |_,0,k=>if k=1 then 1 else 0
 |l,m+1,k=>qac d (l+1) m (ym d k l false)+qac d (l+1) m (ym d k l true)
def VY{d k l}(h:l<lvD d k)(v):ym d k l v=k:=by
 unfold ym;unfold lvD at h
 cases hn:d[k]? with
 |none=>rfl
 | some n=>
  rw[hn]at h;dsimp only at h⊢;rw[if_neg (by omega)]
def qdt{d k}:∀(j l m),l+j<=lvD d k->j<=m->qac d l m k=qac d (l+j) (m-j) k*2^j
 |0,l,m,_,_=>by simp
 |j+1,l,0,_,h=>by omega
 | j+1,l,m+1,h,hj=>by
  rw[qac,VY (by omega),VY (by omega),qdt j (l+1) m (by omega) (by omega),show l+1+j=l+(j+1) by omega,show m+1-(j+1)=m-j by omega,Nat.pow_succ];generalize qac d (l+(j+1)) (m-j) k=x;rw[<- Nat.mul_assoc,Nat.mul_two]
def qbl(d):∀(m l k),qac d l m k<=2^m
 |0,l,k=>by unfold qac;split<;>simp
 | m+1,l,k=>by
  have h1:=qbl d m (l+1) (ym d k l false);have h2:=qbl d m (l+1) (ym d k l true);rw[qac,Nat.pow_succ];omega
def qdI:Nat->List (List Bool)
 |0=>[[]]
 |n+1=>(qdI n).map (false::·)++(qdI n).map (true::·)
def Y6:∀{n:Nat}{l:List Bool},l∈qdI n↔l.length=n
 |0,l=>by simp[qdI]
 |n+1,[]=>by simp[qdI]
 | n+1,b::l=>by
  cases b<;>simp[qdI,Y6]
def qah:∀n,(qdI n).Nodup
 |0=>by simp[qdI]
 | n+1=>by
  have h:=qah n;rw[qdI,List.nodup_append];refine⟨?_,?_,?_⟩
  . exact List.Pairwise.map _ (fun a b hab e=>hab (List.cons.inj e).2) h
  . exact List.Pairwise.map _ (fun a b hab e=>hab (List.cons.inj e).2) h
  intro a ha b hb e;obtain⟨x,-,rfl⟩:=List.mem_map.1 ha;obtain⟨y,-,rfl⟩:=List.mem_map.1 hb;cases e
def qqv(l:List Bool):Nat->Bool:=fun i=>l.getD i false
def qlp{d:List Nd}(h:DagOk d){k N l:Nat}(hk:k<d.length)(hd:yO d k<N)(v:Bool):yO d (ym d k l v)<N:=by
 unfold ym;have hn:=List.getElem?_eq_getElem hk;rw[hn];dsimp only;split
 . rename_i hl;by_cases h2:2<=k
   . unfold yO at *;rw[w9 h h2 hn]at hd;unfold Jk at *;split<;>omega
   have:k=0\/k=1:=by omega
   rcases this with rfl|rfl
   . have e:=h.n0;rw[hn]at e;rw[Option.some.inj e];simp only[ite_self];exact hd
   have e:=h.n1;rw[hn]at e;rw[Option.some.inj e];simp only[ite_self];exact hd
 exact hd
def qlo{d:List Nd}(h:DagOk d){k N:Nat}(h2:2<=k)(hk:k<d.length)(hd:yO d k<N):lvD d k<N:=by
 have hn:=List.getElem?_eq_getElem hk;unfold yO at hd;rw[w9 h h2 hn]at hd;rw[zQ hn];unfold Jk at hd;omega
def qds{d}(h:DagOk d):∀(m l k) (pre),pre.length=l->l+m<=20->k<d.length->l<=lvD d k->yO d k<(l+m:Nat)->qac d l m k=(qdI m).countP fun s=>evD d (qqv (pre++s)) k
 | 0,l,k,pre,hp,hlm,hk,hl,hd=>by
  have hk2:¬2<=k:=fun h2=>by have:=qlo h h2 hk hd;omega
  unfold qac;simp only[qdI,List.countP_singleton,List.append_nil];rw[JR h _ (by omega)];by_cases h1:k=1
  . simp[h1]
  simp[h1]
 | m+1,l,k,pre,hp,hlm,hk,hl,hd=>by
  have half:∀v:Bool,qac d (l+1) m (ym d k l v)=((qdI m).map (v::·)).countP fun s=>evD d (qqv (pre++s)) k:=fun v=>by
   obtain⟨a1,a2,a3⟩:=kq h hk (by omega:l<20) hl v;rw[qds h m (l+1) (ym d k l v) (pre++[v]) (by simp[hp]) (by omega) a1 (by omega) (by have:=qlp h hk hd (l:=l) v;omega),List.countP_map];congr 1;funext s;simp only[Function.comp_apply];rw[List.append_assoc,List.singleton_append];exact(a3 _ (by unfold qqv;rw[List.getD_eq_getElem?_getD,List.getElem?_append_right (by omega),hp,Nat.sub_self];rfl)).symm
  rw[qac,half,half,qdI,List.countP_append]
def qoT{d}(h:DagOk d){n k:Nat}(hn:n<=20)(hk:k<d.length)(hd:yO d k<n):qac d 0 n k=(qdI n).countP fun s=>evD d (qqv s) k:=by
 have:=qds h n 0 k [] rfl (by omega) hk (Nat.zero_le _) (by omega);simpa using this
def vn(d:List Nd)(n k:Nat):Nat:=min (lvD d k) n
def Y2(d:List Nd)(n k:Nat):Nat:=qac d (vn d n k) (n-vn d n k) k
def qv5{d}(h:DagOk d){n}(hn:n<=20):Y2 d n 0=0:=by
 have:vn d n 0=n:=by unfold vn;rw[qh8 h];omega
 unfold Y2;rw[this,Nat.sub_self];rfl
def qv4{d}(h:DagOk d){n}(hn:n<=20):Y2 d n 1=1:=by
 have:vn d n 1=n:=by unfold vn;rw[qh7 h];omega
 unfold Y2;rw[this,Nat.sub_self];rfl
def WI{d n k l}(hl:l<=vn d n k):qac d l (n-l) k=Y2 d n k*2^(vn d n k-l):=by
 unfold Y2;have h1:vn d n k<=lvD d k:=Nat.min_le_left _ _;have h2:vn d n k<=n:=Nat.min_le_right _ _;rw[qdt (vn d n k-l) l (n-l) (by omega) (by omega),show l+(vn d n k-l)=vn d n k by omega,show n-l-(vn d n k-l)=n-vn d n k by omega]
def qdq{d}(h:DagOk d){n k:Nat}{x}(hn:n<=20)(h2:2<=k)(hx:d[k]?=some x)(hd:yO d k<n):
 x.1<n/\x.1+1<=vn d n x.2.1/\x.1+1<=vn d n x.2.2/\yO d x.2.1<n/\yO d x.2.2<n/\Y2 d n k=Y2 d n x.2.1*2^(vn d n x.2.1-(x.1+1))+Y2 d n x.2.2*2^(vn d n x.2.2-(x.1+1)):=by
 have hk:=(List.getElem?_eq_some_iff.1 hx).1;obtain⟨g1,g2,g3,g4,g5,g6⟩:=h.node k x h2 hx;have hl:=qlo h h2 hk hd;rw[zQ hx]at hl;have e1:x.1+1<=vn d n x.2.1:=by unfold vn;omega
 have e2:x.1+1<=vn d n x.2.2:=by unfold vn;omega
 have hd':=hd;unfold yO at hd';rw[w9 h h2 hx]at hd';unfold Jk at hd';refine⟨hl,e1,e2,by unfold yO Jk;omega,by unfold yO Jk;omega,?_⟩;rw[<- WI e1,<- WI e2];unfold Y2;rw[show vn d n k=x.1 by unfold vn;rw[zQ hx];omega,show n-x.1=(n-(x.1+1))+1 by omega,qac];rw[show ym d k x.1 false=x.2.1 by unfold ym;rw[hx];simp,show ym d k x.1 true=x.2.2 by unfold ym;rw[hx];simp]
def qlv(d n k):Y2 d n k<=2^(n-vn d n k):=qbl d _ _ _
end Go.Abs
namespace Go.Proofs.YtafbccendejkeaaGreatDoor
open Go Go.Abs Proofs.Tryz Go.RowKit
def qai:∀vs:List Var,(jM vs).Nodup
 |[]=>by simp[jM]
 | v::vs=>by
  have ih:=qai vs;have hc:∀x:Int,((jM vs).map (x::·)).Nodup:=fun x=>qEh.2 (ih.imp fun h e=>h (List.cons.inj e).2)
  by_cases h:v.mode=0
  . rw[WR h];exact hc _
  rw[WS h];refine List.pairwise_flatMap.2 ⟨fun n _=>hc _,(List.nodup_range (n:=zP v)).imp fun {a b} hab x hx y hy e=>?_⟩;obtain⟨x',-,rfl⟩:=qBA.1 hx;obtain⟨y',-,rfl⟩:=qBA.1 hy;have:=(List.cons.inj e).1;exact hab (by omega)
def qwt{p}:∀(l) (x),x<LW p l->∃k i,l[k]?=some i/\LW p (l.take k)<=x/\x<LW p (l.take k)+ji p i
 |[],x,h=>by simp[LW]at h
 | i::l,x,h=>by
  by_cases hx:x<ji p i
  . exact⟨0,i,rfl,by simp[LW],by simpa[LW] using hx⟩
  have h2:LW p (i::l)=ji p i+LW p l:=by simp[LW]
  obtain⟨k,j,h3,h4,h5⟩:=qwt (p:=p) l (x-ji p i) (by omega);refine⟨k+1,j,by simpa using h3,?_,?_⟩
  . rw[qC0,show LW p (i::l.take k)=ji p i+LW p (l.take k) by simp[LW]];omega
  rw[qC0,show LW p (i::l.take k)=ji p i+LW p (l.take k) by simp[LW]];omega
def qtA{p l k i}(h:l[k]?=some i):LW p (l.take k)+ji p i<=LW p l:=by
 have e:l=l.take k++i::l.drop (k+1):=by
  obtain⟨h1,h2⟩:=qBa.1 h;have:=qBX k l;rw[qBx h1,h2]at this;exact this.symm
 have:=congrArg (LW p) e;rw[qg7,show LW p (i::l.drop (k+1))=ji p i+LW p (l.drop (k+1)) by simp[LW]]at this;omega
def qag{p}(hv:qg p=0){b c}(h:∀l,l<LW p (NG p).flatten->b l=c l):QY p.vars (qN p) b=QY p.vars (qN p) c:=by
 have hl:=fun b=>(yV.1 (qbt hv b)).len
 apply qCb;intro i;by_cases hi:i<p.vars.length
 . obtain⟨v,hvi⟩:∃v,p.vars[i]?=some v:=⟨_,qBc hi⟩;by_cases hm:v.mode=0
   . rw[qbs b hvi hm,qbs c hvi hm]
   rw[vM hv b hvi hm,vM hv c hvi hm];obtain⟨k,hk⟩:=qBT (YQ hv hvi hm);have e:YI p b i=YI p c i:=Vm fun j hj=>h _ (by
    rw[qcP hv hk];have:=qtA (p:=p) hk;omega)
   rw[e]
 rw[qBI (by rw[hl];omega),qBI (by rw[hl];omega)]
def qpd{p}(hv:qg p=0){b c}(h:QY p.vars (qN p) b=QY p.vars (qN p) c):∀l,l<LW p (NG p).flatten->b l=c l:=by
 intro l hl;obtain⟨k,i,hk,h1,h2⟩:=qwt _ l hl;obtain⟨v,hvi,hm⟩:=yg hv (qBb hk);have e1:=vM hv b hvi hm;rw[h,vM hv c hvi hm]at e1;have e2:YI p b i=YI p c i:=by
  have:=Option.some.inj e1;omega
 have hl:=qcP hv hk;have f1:=Kj e2 (j:=l-JH (qN p) i) (by omega);have f2:=Kj (rfl:YI p c i=YI p c i) (j:=l-JH (qN p) i) (by omega);rw[show JH (qN p) i+(l-JH (qN p) i)=l by omega]at f1 f2;rw[f1,f2]
def qo5(n b){l}(hl:l<n):qqv ((List.range n).map b) l=b l:=by
 unfold qqv;rw[qBi,qBD,qDW hl];rfl
def qbr{p}(hv:qg p=0):((qdI (LW p (NG p).flatten)).map fun s=>QY p.vars (qN p) (qqv s)).Perm (jM p.vars):=by
 refine(List.perm_ext_iff_of_nodup ?_ (qai _)).2 fun a=>?_
 . refine qEh.2 (List.Pairwise.imp_of_mem (fun {s t} hs ht hst e=>hst ?_) (qah _));have ls:=Y6.1 hs;have lt:=Y6.1 ht;apply qCb;intro i;by_cases hi:i<LW p (NG p).flatten
   . have:=qpd hv e i hi;unfold qqv at this;rw[qBi,qBi]at this;rw[qBc (by omega),qBc (by omega)]at this⊢;exact congrArg some (by simpa using this)
   rw[qBI (by omega),qBI (by omega)]
 constructor
 . intro h;obtain⟨s,-,rfl⟩:=qBA.1 h;exact qbt hv _
 intro h;obtain⟨b,hb,-⟩:=qdC hv h;refine qBA.2 ⟨(List.range (LW p (NG p).flatten)).map b,Y6.2 (by simp),?_⟩;rw[<- hb];exact qag hv fun l hl=>qo5 _ b hl
noncomputable def qtJ(p:Problem)(R:List Ex):Nat:=(jM p.vars).countP (ku p.vars R)
def qoR{p}(hv:qg p=0){R d}(hd:DagOk d){root}(hr:root<d.length)(hroot:∀b,evD d b root=ku p.vars R (QY p.vars (qN p) b)):
 yO d root<LW p (NG p).flatten/\qac d 0 (LW p (NG p).flatten) root=qtJ p R:=by
 have h1:yO d root<LW p (NG p).flatten:=qs8 hd _ (root+1) root (by omega) hr fun b c hbc=>by rw[hroot,hroot,qag hv hbc]
 refine⟨h1,?_⟩;rw[qoT hd (qmi hv) hr h1];unfold qtJ;rw[<- (qbr hv).countP_eq,qEq];congr 1;funext s;simp[hroot]
def qrl{s}(hv:qg s.p=0){a}(ha:a∈jM s.p.vars):okE s a=ku s.p.vars s.R a:=by
 unfold okE ku;have has:=qfj hv ha;rw[qB7,qBk,qBk];refine⟨fun h e he=>?_,fun h e he=>qgP hv (by simpa using h e he) has⟩;have:=h e he;unfold ko at this;simp at this;simpa using this.2
def qkp{s}(hv:qg s.p=0):qw1 s=qtJ s.p s.R:=List.countP_congr fun a ha=>by rw[qrl hv ha]
def qbA:∀n,(qdI n).length=2^n
 |0=>rfl
 |n+1=>by rw[qdI,qBe,qBM,qBM,qbA n,qDC];omega
def qfp{p}(hv:qg p=0)(hl:p.vars.length<=1000):(LW p (NG p).flatten:Int)=kw p.vars (qJ p):=by
 obtain⟨h1,h2⟩:=Y5 hv hl;have h3:=(qbr hv).length_eq;rw[qBM,qbA,h2]at h3;have:LW p (NG p).flatten=(p.vars.map qlQ).sum:=by
  rcases Nat.lt_trichotomy (LW p (NG p).flatten) (p.vars.map qlQ).sum with h|h|h
  . have:=Nat.pow_lt_pow_right (by decide:1<2) h;omega
  . exact h
  have:=Nat.pow_lt_pow_right (by decide:1<2) h;omega
 rw[h1,this]
def qsN(n a b H T):qj prog GG 94 [.agg (qI n),.int .i64 a,.int .i64 b] ⟨H,T⟩ (fun r U'=>r=.int .i64 (Jk n a b)/\KpL [] H U'.H):=by
 refine⟨by kernel_rfl,fun w0 ro0 K w vs hw hvs=>?_⟩;simp only[qi,qf,qI]at hvs;obtain⟨v0,vr,e0,⟨cs,rfl,c0,cr,e1,rfl,c1,cr1,rfl,rfl,c2,cr2,rfl,rfl,rfl⟩,v1,vr1,rfl,rfl,v2,vr2,rfl,rfl,rfl⟩:=hvs;have ecs:cs = #[.int .i64 n.1,.int .i64 n.2.1,.int .i64 n.2.2]:=by apply Array.ext';simpa using e1
 subst ecs;have evs:vs = #[.agg #[.int .i64 n.1,.int .i64 n.2.1,.int .i64 n.2.2],.int .i64 a,.int .i64 b]:=by apply Array.ext';simpa using e0
 subst evs
 go_enter func94,Tryz.ntmps94
 go_wp2
 have hmax:∀W:World,Sem.run prog (Builtin.max_ #[3,3,3] 3 #[.int .i64 n.1,.int .i64 a,.int .i64 b]) W=.ok (.int .i64 (Jk n a b)) W:=fun W=>by
  have e:(if b > (if a > (n.1:Int) then a else(n.1:Int)) then b else(if a > (n.1:Int) then a else(n.1:Int)))=Jk n a b:=by
   unfold Jk;split<;>split<;>omega
  rw[<- e];simp[Builtin.max_,Builtin.max2]
 rw[hmax];simp only[Result.andThen];rw[Oper.upon_value]
 go_wp2
 have hw3:=hw.push (b:=.cells [.int .i64 n.1,.int .i64 n.2.1,.int .i64 n.2.2]) (o:=.cells #[.int .i64 n.1,.int .i64 n.2.1,.int .i64 n.2.2] 150) ⟨_,150,rfl,by simp,by simp,fun i a e=>by
  match i,e with
  |0,e=>simp at e;subst e;exact⟨_,rfl,by simp[qf]⟩
  |1,e=>simp at e;subst e;exact⟨_,rfl,by simp[qf]⟩
  |2,e=>simp at e;subst e;exact⟨_,rfl,by simp[qf]⟩
  |i+3,e=>simp at e⟩
 simp only[bodyPost];refine⟨trivial,.int .i64 (Jk n a b),by simp[results,Tryz.results94,go_sem],.inl ⟨_,.int .i64 (Jk n a b),_,_,rfl,qFM hw w.heap.size _,hw3,by simp[qf],rfl,qF7⟩⟩
def qcU{n i w}:∀{l:List Dist},(ja n l)[i]?=some (some w)->∃d∈l,d.var.toNat=i/\d.weights=w:=by
 intro l
 induction hn:l.length generalizing l with
 | zero=>
  have:=qBo hn;subst this;intro h;simp[ja]at h;have:=List.eq_of_mem_replicate (qBb h);cases this
 | succ k ih=>
  obtain⟨d,x,rfl⟩:∃d x,l=d++[x]:=⟨l.dropLast,l.getLast (by rintro rfl;simp at hn),(qCr _).symm⟩;intro h;rw[K8]at h;by_cases hi:x.var.toNat=i
  . have hl:x.var.toNat<(ja n d).length:=by
     have:=(qBa.1 h).1;rw[qCD]at this;omega
    subst hi;rw[qBg hl]at h;simp at h;exact⟨x,by simp,rfl,h⟩
  rw[qBd hi]at h;obtain⟨y,hy,h1,h2⟩:=ih (by simpa using hn) h;exact⟨y,by simp[hy],h1,h2⟩
def JA:∀(l) (s),(zK l s).2=0->∃m:Nat,(zK l s).1=m/\s∣m/\∀w∈l,w.each≠true->wsz w∣m
 |[],s,_=>⟨s,rfl,Nat.dvd_refl _,by simp⟩
 | w::r,s,h=>by
  unfold zK at h⊢;by_cases he:w.each=true
  . rw[if_pos he]at h⊢;obtain⟨m,h1,h2,h3⟩:=JA r s h;refine⟨m,h1,h2,fun x hx hne=>?_⟩;rcases qBz.1 hx with rfl|hx
    . exact absurd he hne
    exact h3 x hx hne
  rw[if_neg he]at h⊢;by_cases hl:Nat.lcm s (wsz w)<9223372036854775808
  . rw[if_pos hl]at h⊢;obtain⟨m,h1,h2,h3⟩:=JA r _ h;refine⟨m,h1,Nat.dvd_trans (Nat.dvd_lcm_left _ _) h2,fun x hx hne=>?_⟩;rcases qBz.1 hx with rfl|hx
    . exact Nat.dvd_trans (Nat.dvd_lcm_right _ _) h2
    exact h3 x hx hne
  rw[if_neg hl]at h;cases h
def qdV{l v}(hp:vT l v=true)(h:(zR l v).2=0):1<=(zR l v).1:=by
 unfold zR at h⊢;split at h
 . exact absurd h (by assumption)
 rename_i h1;split at h
 . exact absurd h (by assumption)
 rename_i h2;rw[if_neg h1,if_neg h2];obtain⟨hw,_,_⟩:=v8 (qB2.1 h1);have hs:=kj l 1 hw (by omega) (by omega);obtain⟨m,m1,_,m3⟩:=JA l 1 (qB2.1 h2);have hm0:0<m:=by
  rcases hs with⟨_,h3,_⟩|h3
  . rw[m1]at h3;omega
  rw[h3]at h2;exact absurd (show((3:Int))≠0 by decide) h2
 rw[m1]at h⊢;rw[show((m:Int)).toNat=m by omega]at h⊢;unfold vV at h⊢;have ho:Yc l v=l.find? (inW v):=rfl;unfold vT at hp;rw[<- ho]at hp
 cases hO:Yc l v with
 |none=>rw[hO]at hp;cases hp
 | some w=>
  rw[hO]at hp h;dsimp only at hp h⊢;have hwp:=of_decide_eq_true hp;have hwm:=qES hO;have hwl:=hw w hwm;by_cases he:w.each=true
  . rw[if_pos he]at h⊢;unfold Yg at h⊢;split at h
    . rename_i hlt;rw[if_pos hlt];have:0<w.weight.toNat*m:=qEk (by omega) hm0;dsimp only;omega
    cases h
  rw[if_neg he]at h⊢;unfold Yg at h⊢;split at h
  . rename_i hlt;rw[if_pos hlt];have hd:=qEj (qDw hm0 (m3 w hwm he)) (Y8 hwl.2.1);have:0<w.weight.toNat*(m/wsz w):=qEk (by omega) hd;dsimp only;omega
  cases h
def qqM{l v}(hp:vT l v=true):0<wtO (some l) v:=by
 unfold wtO;dsimp only;split
 . unfold lim;omega
 rename_i h;have:=qdV hp (qB2.1 h);exact qDr fun e=>by
  rw[Zp]at e;omega
def qui{p}(hv:qg p=0){b}(hb:b∈jM p.vars)(hs:∀e∈zw p,jB (yp p.vars b) e≠0){i}(hi:i∈(NG p).flatten):0<wtP p i (aN b i)/\aN b i<2^ji p i/\b[i]?=some (aN b i:Int):=by
 obtain⟨v,hv',hm⟩:=yg hv hi;obtain⟨x,hx,hc⟩:=kK (yV.1 hb) hv';rw[if_neg hm]at hc;have hax:aN b i=x.toNat:=by unfold aN;rw[qBi,hx];rfl
 have hxx:((aN b i:Nat):Int)=x:=by rw[hax];omega
 refine⟨?_,?_,by rw[hxx];exact hx⟩
 . unfold wtP;obtain⟨o,ho⟩:∃o,(ja p.vars.length p.dists)[i]?=some o:=⟨_,qBc (by rw[ye];exact(qBa.1 hv').1)⟩;rw[qBi,ho]
   cases o with
   |none=>exact Nat.one_pos
   | some w=>
    obtain⟨d,hd,hdv,hdw⟩:=qcU ho;have hsup:vQ p.vars d∈zw p:=by
     unfold zw jJ wu;rw[if_pos hv];exact qCE _ (qBA.2 ⟨d,hd,rfl⟩)
    have hev:=(qbb (hs _ hsup)).2;have hse:vQ p.vars d=kh v.name (QL (ZJ v w)):=by
     unfold vQ;rw[hdv,hv',hdw]
    rw[hse]at hev;have hmem:=(qhs _ _ _).1 hev;rcases qsQ hv hb hv' hx with⟨hf,_⟩|h0
    . rw[hf]at hmem;have:=(qCm.1 hmem).2;rw[hxx];exact qqM this
    exact absurd h0 hm
 have:=(qpz hv hv').1;rw[this,hax];unfold zP at hc;omega
def qfA{p R val}:∀(g) (c),(∀i∈g,val i<2^ji p i)->zZ p val g*(if okC p R (c++g.map fun i=>(i,val i))=true then 1 else 0)<=jc p R (fun _=>none) g c
 | [],c,_=>by
  unfold jc zZ;simp
 | i::r,c,h=>by
  have ih:=qfA (p:=p) (R:=R) r (c++[(i,val i)]) fun k hk=>h k (by simp[hk])
  unfold jc zZ;rw[qBQ]at ih;have hm:val i∈List.range (2^ji p i):=qB5.2 (h i (by simp));have:=qaB (f:=fun v=>wtP p i v*jc p R (fun _=>none) r (c++[(i,v)])) hm;refine qB6 ?_ this;rw[qDU];exact Nat.mul_le_mul_left _ ih
def YR{p val}:∀{g:List Nat},(∀i∈g,0<wtP p i (val i))->0<zZ p val g
 |[],_=>Nat.one_pos
 |i::r,h=>qEk (h i (by simp)) (YR fun k hk=>h k (by simp[hk]))
