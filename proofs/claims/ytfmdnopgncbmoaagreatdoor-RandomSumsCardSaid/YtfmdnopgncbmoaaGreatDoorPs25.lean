import Derived.Test.YtfmdnopgncbmoaaGreatDoorPs23
import Derived.Test.YtfmdnopgncbmoaaGreatDoorPs24
import Derived.Tactics
import Derived.Tactics2
import Derived.WalkKit
import Derived.WalkSmall
import Derived.RowKit3
set_option maxRecDepth 100000
set_option maxHeartbeats 16000000
set_option linter.all false
set_option linter.defProp false
namespace Go.Proofs.YtfmdnopgncbmoaaGreatDoor
open Go Go.Abs Go.RowKit Tryz
def yF{P G o env U ks Q}(n)(J:Nat->Env->St->Prop){c}(h0:J 0 env U)
 (hs:∀i env U (R:Env->St->Prop),(∀env U,J (i+1) env U->R env U)->i<n->J i env U->kC P G o c env U (.loop R::ks) Q)
 (he:∀env U,J n env U->kC P G o c env U (.loop (fun _ _=>False)::ks) Q) (hp:jS c=true:=by rfl):qQ P G o c env U ks Q :=
 qQ.count n J h0 (fun i env U h1 hJ=>hs i env U _ (fun _ _ h=>h) h1 hJ) he hp
structure Bc where
 B:Nat
 M:Nat
 rest:List AV
 mp:Blk
 H0:List Blk
abbrev XG(c:Bc):Glo:=⟨GG,fun cs τ=>cs=[{v:=.iface 231 (.agg #[.int .i64 2]),recovered:=false}]/\KpL [c.B] c.H0 τ.H⟩
structure BX(c:Bc)(E:List Blk)(d:List Nd)(H:List Blk):Prop where
 b:∃tok,H[c.B]?=some (.cells (.sl 3 (d.map qw) tok::c.rest))
 m:H[c.M]?=some c.mp
 ok:DagOk d
 kp0:KpL [c.B] c.H0 H
 kp:KpL [c.B] E H
 ne:c.M≠c.B
 b0:c.B<E.length
 m0:c.M<E.length
 h0:c.H0.length<=E.length
section
variable {c:Bc}{E H H':List Blk}{d d':List Nd}{U U':St}{T T':List (Option Nat)}
def BX.app(h:BX c E d H)(u):BX c E d (H++u):=by
 obtain⟨tok,hb⟩:=h.b;exact⟨⟨tok,qa hb _⟩,qa h.m _,h.ok,h.kp0.trans qDj,h.kp.trans qDj,h.ne,h.b0,h.m0,h.h0⟩
def BX.set(h:BX c E d H){k}(hk:E.length<=k)(y):BX c E d (H.set k y):=by
 obtain⟨tok,hb⟩:=h.b;have:=h.b0;have:=h.m0;have:=h.h0;exact⟨⟨tok,by rw[qyI (by omega)];exact hb⟩,by rw[qyI (by omega)];exact h.m,h.ok,h.kp0.setF (by omega),h.kp.setF hk,h.ne,h.b0,h.m0,h.h0⟩
def BX.self(h:BX c E d H):BX c H d H:=⟨h.b,h.m,h.ok,h.kp0,qDh,h.ne,qyV h.b0 h.kp.1,qyV h.m0 h.kp.1,qzs h.h0 h.kp.1⟩
def BX.same(h:BX c E d H)(hk:KpL [] H H'):BX c E d H':=by
 obtain⟨tok,hb⟩:=h.b;exact⟨⟨tok,hk.2 _ _ hb (by simp)⟩,hk.2 _ _ h.m (by simp),h.ok,h.kp0.trans (hk.sub (by simp)),h.kp.trans (hk.sub (by simp)),h.ne,h.b0,h.m0,h.h0⟩
def BX.call(h:BX c E d H)(h':BX c H d' H'):BX c E d' H':=⟨h'.b,h'.m,h'.ok,h'.kp0,h.kp.trans h'.kp,h.ne,h.b0,h.m0,h.h0⟩
def BX.at(h:BX c E d H){k}(hk:E.length<=k):k≠c.B/\k≠c.M:=by have:=h.b0;have:=h.m0;omega
def BX.loc(h:BX c H d H'){k x}(hx:H[k]?=some x)(hk:k≠c.B):H'[k]?=some x:=h.kp.2 _ _ hx (by simpa using hk)
end
def wz(c){H T Q}(hk:KpL [c.B] c.H0 H)(b n):
 qf prog (XG c) 244 [.ptr b 0,.agg [.sl 0 [] .nil],.int .i64 n,.int .i64 2] ⟨H,T⟩ Q:=by
 refine⟨by kernel_rfl,fun w0 ro0 K w vs hw hvs=>?_⟩;simp only[qh,qg]at hvs;obtain⟨v1,r1,e1,⟨B,hB,rfl⟩,v2,r2,rfl,⟨cs,rfl,v3,r3,e3,hsl,rfl⟩,v4,r4,rfl,rfl,v5,r5,rfl,rfl,rfl⟩:=hvs;have hv3:qg K (.sl 0 [] .nil) v3:=by simp only[qg];exact hsl
 clear hsl;have evs:vs = #[.pointer (some ⟨B,0,none⟩),.agg cs,.int .i64 n,.int .i64 2]:=by apply Array.ext';simpa using e1
 have ecs:cs = #[v3]:=by apply Array.ext';simpa using e3
 subst evs ecs
 go_enter func244,Tryz.ntmps244
 go_wp2
 simp only[bodyPost];have hw3:=hw.push (b:=.cells [.sl 0 [] .nil]) (o:=.cells #[v3] 54) ⟨#[v3],54,rfl,by simp,by simp,fun i a e=>by
  cases i with
  |zero=>simp at e;subst e;exact⟨_,rfl,hv3.mono (qCZ hw w.heap.size (jI (.cells #[v3] 54)))⟩
  |succ i=>simp at e⟩
 refine⟨trivial,.inr ⟨_,rfl,_,_,qCZ hw w.heap.size (jI (.cells #[v3] 54)),hw3,rfl,?_⟩⟩;exact hk.trans qDj
def ZF(c:Bc){E H:List Blk}{T:List (Option Nat)}{d d':List Nd}(h:BX c E d H)(hd:DagOk d')(i:Nat)(tok:Tok):
 qf prog (XG c) 244 [.ptr c.B 0,.agg [.sl 3 (d'.map qw) tok],.int .i64 i,.int .i64 0] ⟨H,T⟩ (fun r U'=>r=.int .i64 i/\BX c E d' U'.H):=by
 refine qCN qe func244 rfl (by kernel_rfl) ?_;obtain⟨t0,hb⟩:=h.b;have hbl:=(qyF.1 hb).1;simp[qa hb,yO hb];have:=h.b0;have:=h.h0;have:=h.ne;exact⟨⟨tok,qa (qyL hbl) _⟩,qa (by rw[qyI (Ne.symm h.ne)];exact h.m) _,hd,(h.kp0.trans (qDk (by simp))).trans qDj,(h.kp.trans (qDk (by simp))).trans qDj,h.ne,h.b0,h.m0,h.h0⟩
def NQ(c:Bc)(d:List Nd)(H:List Blk)(v:(Nat->Bool)->Bool)(r:AV)(U':St):Prop :=
 ∃d' i,r=.int .i64 (i:Nat)/\BX c H d' U'.H/\qU d d'/\i<d'.length/\∀b,evD d' b i=v b
def Qp(c){d H T}(h:BX c H d H){f}(hf:f<d.length):
 qf prog (XG c) 182 [.ptr c.B 0,.int .i64 f] ⟨H,T⟩ (NQ c d H fun b=>!evD d b f):=by
 refine qCN qe func182 rfl (by kernel_rfl) ?_;obtain⟨t0,hb⟩:=h.b;simp[hb];refine qCQ ((qsv d h.ok f hf _ _).leq (args:=[.agg [.sl 3 (d.map qw) t0],.int .i64 f]) (by simp[zq,Leq,qCV])).glo ?_;rintro v ⟨H2,T2⟩ ⟨hk,rfl|⟨d2,i2,t2,rfl,g2,hd2,hi2,hm2,hs2⟩⟩
 . simp;exact qCQ (wz c (Q:=fun _ _=>False) (h.same hk).kp0 _ _) fun _ _ h=>h.elim
 simp;refine qCQ (ZF c (h.same hk) hd2 i2 _) ?_;rintro v ⟨H3,T3⟩ ⟨rfl,hx⟩;simp;exact⟨d2,i2,rfl,hx,g2,hi2,fun b=>by rw[hs2 b];rfl⟩
def Qs(c){d H T}(h:BX c H d H){f g}(hf:f<d.length)(hg:g<d.length):
 qf prog (XG c) 250 [.ptr c.B 0,.int .i64 f,.int .i64 g] ⟨H,T⟩ (NQ c d H fun b=>evD d b f&&evD d b g):=by
 refine qCN qe func250 rfl (by kernel_rfl) ?_;obtain⟨t0,hb⟩:=h.b;simp[hb];refine qCQ ((qof d h.ok f g hf hg _ _).leq (args:=[.agg [.sl 3 (d.map qw) t0],.int .i64 f,.int .i64 g]) (by simp[zq,Leq,qCV])).glo ?_;rintro v ⟨H2,T2⟩ ⟨hk,rfl|⟨d2,i2,t2,rfl,g2,hd2,hi2,hm2,hs2⟩⟩
 . simp;exact qCQ (wz c (Q:=fun _ _=>False) (h.same hk).kp0 _ _) fun _ _ h=>h.elim
 simp;refine qCQ (ZF c (h.same hk) hd2 i2 _) ?_;rintro v ⟨H3,T3⟩ ⟨rfl,hx⟩;simp;exact⟨d2,i2,rfl,hx,g2,hi2,fun b=>by rw[hs2 b];rfl⟩
def qa4(c){d H T}(h:BX c H d H){f g}(hf:f<d.length)(hg:g<d.length):
 qf prog (XG c) 178 [.ptr c.B 0,.int .i64 f,.int .i64 g] ⟨H,T⟩ (NQ c d H fun b=>evD d b f||evD d b g):=by
 refine qCN qe func178 rfl (by kernel_rfl) ?_;obtain⟨t0,hb⟩:=h.b;simp[hb];refine qCQ ((qvT d h.ok f g hf hg _ _).leq (args:=[.agg [.sl 3 (d.map qw) t0],.int .i64 f,.int .i64 g]) (by simp[zq,Leq,qCV])).glo ?_;rintro v ⟨H2,T2⟩ ⟨hk,rfl|⟨d2,i2,t2,rfl,g2,hd2,hi2,hm2,hs2⟩⟩
 . simp;exact qCQ (wz c (Q:=fun _ _=>False) (h.same hk).kp0 _ _) fun _ _ h=>h.elim
 simp;refine qCQ (ZF c (h.same hk) hd2 i2 _) ?_;rintro v ⟨H3,T3⟩ ⟨rfl,hx⟩;simp;exact⟨d2,i2,rfl,hx,g2,hi2,fun b=>by rw[hs2 b];rfl⟩
def qae(c){d H T}(h:BX c H d H){f g}(hf:f<d.length)(hg:g<d.length):
 qf prog (XG c) 253 [.ptr c.B 0,.int .i64 f,.int .i64 g] ⟨H,T⟩ (NQ c d H fun b=>evD d b f ^^ evD d b g):=by
 refine qCN qe func253 rfl (by kernel_rfl) ?_;obtain⟨t0,hb⟩:=h.b;simp[hb];refine qCQ ((qrE d h.ok f g hf hg _ _).leq (args:=[.agg [.sl 3 (d.map qw) t0],.int .i64 f,.int .i64 g]) (by simp[zq,Leq,qCV])).glo ?_;rintro v ⟨H2,T2⟩ ⟨hk,rfl|⟨d2,i2,t2,rfl,g2,hd2,hi2,hm2,hs2⟩⟩
 . simp;exact qCQ (wz c (Q:=fun _ _=>False) (h.same hk).kp0 _ _) fun _ _ h=>h.elim
 simp;refine qCQ (ZF c (h.same hk) hd2 i2 _) ?_;rintro v ⟨H3,T3⟩ ⟨rfl,hx⟩;simp;exact⟨d2,i2,rfl,hx,g2,hi2,fun b=>by rw[hs2 b];rfl⟩
def qjw(c){d H T}(h:BX c H d H){f g e}(hf:f<d.length)(hg:g<d.length)(he:e<d.length):
 qf prog (XG c) 189 [.ptr c.B 0,.int .i64 f,.int .i64 g,.int .i64 e] ⟨H,T⟩ (NQ c d H fun b=>evD d b f&&evD d b g||!evD d b f&&evD d b e):=by
 refine qCN qe func189 rfl (by kernel_rfl) ?_;obtain⟨t0,hb⟩:=h.b;simp[hb];refine qCQ ((qjv d h.ok f g e hf hg he _ _).leq (args:=[.agg [.sl 3 (d.map qw) t0],.int .i64 f,.int .i64 g,.int .i64 e]) (by simp[zq,Leq,qCV])).glo ?_;rintro v ⟨H2,T2⟩ ⟨hk,rfl|⟨d2,i2,t2,rfl,g2,hd2,hi2,hm2,hs2⟩⟩
 . simp;exact qCQ (wz c (Q:=fun _ _=>False) (h.same hk).kp0 _ _) fun _ _ h=>h.elim
 simp;refine qCQ (ZF c (h.same hk) hd2 i2 _) ?_;rintro v ⟨H3,T3⟩ ⟨rfl,hx⟩;simp;exact⟨d2,i2,rfl,hx,g2,hi2,fun b=>by rw[hs2 b];rfl⟩
section
variable {k:IntKind}{a b:Int}
def YA:qu .add k a b=some (.int k (k.wrap (a+b))):=rfl
def Jh:qu .sub k a b=some (.int k (k.wrap (a-b))):=rfl
def qsr:qu .mul k a b=some (.int k (k.wrap (a*b))):=rfl
def Wi:qu .lss k a b=some (.bool (decide (a<b))):=rfl
def qnE:qu .gtr k a b=some (.bool (decide (a > b))):=rfl
def Wj:qu .eql k a b=some (.bool (a==b)):=rfl
def qhU:qu .neq k a b=some (.bool (a != b)):=rfl
end
def qr(w:List Nat):List AV:=w.map fun(n:Nat)=>.int .i64 (n:Int)
@[simp]def jq(w):(qr w).length=w.length:=by simp[qr]
@[simp]def qtg(w):(qr w).all AV.atom=true:=by simp[qr]
@[simp]def qqo:∀(w),qx (qr w)=true
 |[]=>rfl
 |a::r=>by simp only[qr,qyR,qx,zb,qzN];exact qqo r
@[simp]def qtf(H w):(qr w).map (kZ H)=qr w:=by simp[qr]
def yR(w)(i n:Nat):(qr w).set i (.int .i64 (n:Int))=qr (w.set i n):=by simp[qr,qBQ]
def zO{w:List Nat}{i x:Nat}(h:w[i]?=some x):(qr w).drop i=.int .i64 (x:Int)::(qr w).drop (i+1):=by
 have hl:i<(qr w).length:=by rw[jq];exact(qyF.1 h).1
 rw[qy1 hl];congr 1;obtain⟨_,h2⟩:=qyF.1 h;simp[qr,h2]
def qn{w}(h:w.length=16):(qr w).take 16=qr w:=qyN (by simp[h])
def qpe:∀(new Z),Z.length=new.length->zj Z 0 new=new:=fun new Z h=>by
 have:=wK new Z [] h;simpa using this
def zd{w}(h:w.length=16){Z}(hZ:Z.length=16):zj Z 0 (qr w)=qr w:=qpe _ _ (by simp[h,hZ])
section
variable {α:Type}{H t:List α}{p q r s u v:α}
def lk0:(H++p::t)[H.length]?=some p:=by rw[qyO (qyQ _),qzU];rfl
def lk1:(H++p::q::t)[H.length+1]?=some q:=by rw[qyO (by omega),qzF];rfl
def lk2:(H++p::q::r::t)[H.length+2]?=some r:=by rw[qyO (by omega),qzF];rfl
def lk3:(H++p::q::r::s::t)[H.length+3]?=some s:=by rw[qyO (by omega),qzF];rfl
def lk4:(H++p::q::r::s::u::t)[H.length+4]?=some u:=by rw[qyO (by omega),qzF];rfl
end
def qZ:List Nat:=List.replicate 16 0
def qN:qZ.length=16:=rfl
def kz{d}(h:DagOk d):qT d qZ:=⟨rfl,fun i hi=>by rw[qZ,qAx]at hi;rw[hi.2];have:=h.two;omega⟩
def js:[AV.int .i64 0,.int .i64 0,.int .i64 0,.int .i64 0,.int .i64 0,.int .i64 0,.int .i64 0,.int .i64 0,.int .i64 0,.int .i64 0,.int .i64 0,.int .i64 0,.int .i64 0,.int .i64 0,.int .i64 0,.int .i64 0]=qr qZ:=rfl
def yT{d}(h:DagOk d)(b k):qo d b qZ k=false:=by
 unfold qo;have:qZ.getD k 0=0:=by
  simp only[qZ,qyS,qBH];split<;>rfl
 rw[this,JB h]
def WQ(c:Bc)(d:List Nd)(H:List Blk)(v:(Nat->Bool)->Int)(r:AV)(U':St):Prop :=
 ∃d' W,r=.agg (qr W)/\BX c H d' U'.H/\qU d d'/\qT d' W/\∀b,zP d' b W=v b
def BQ(c:Bc)(d:List Nd)(H:List Blk)(v:(Nat->Bool)->Nat->Bool)(r:AV)(U':St):Prop :=
 ∃d' W,r=.agg (qr W)/\BX c H d' U'.H/\qU d d'/\qT d' W/\∀b k,k<16->qo d' b W k=v b k
def qT.get{d w}(h:qT d w){k}(hk:k<16):∃x,w[k]?=some x/\x<d.length/\w.getD k 0=x/\∀b,qo d b w k=evD d b x:=by
 have hl:k<w.length:=by rwa[h.1]
 refine⟨w[k],qyH hl,h.2 _ (qAV hl),by simp[List.getD,hl],fun b=>by simp[qo,List.getD,hl]⟩
def qT.set{d w}(h:qT d w){k x}(hx:x<d.length):qT d (w.set k x):=⟨by simp[h.1],fun i hi=>by
 rcases qAL hi with hi|rfl
 . exact h.2 i hi
 exact hx⟩
def wD{d w k x j b}(hk:k<w.length):qo d b (w.set k x) j=if j=k then evD d b x else qo d b w j:=by
 unfold qo;by_cases h:j=k
 . subst h;simp[List.getD,hk]
 simp[List.getD,qyI (Ne.symm h),h]
section
variable {c:Bc}{d:List Nd}{H:List Blk}{T:List (Option Nat)}
def Zl(h:BX c H d H){X}(hX:qT d X):
 qf prog (XG c) 183 [.ptr c.B 0,.agg (qr X)] ⟨H,T⟩ (BQ c d H fun b k=>!qo d b X k):=by
 refine qCN qe func183 rfl (by kernel_rfl) ?_;simp;refine yF 16 (fun i ev U=>ev 0=.ptr c.B 0/\ev 3=.ptr H.length 0/\ev 4=.ptr (H.length+1) 0/\ev 6=.int .i64 (i:Int) /\
  ∃d' W,BX c H d' U.H/\qU d d'/\qT d' W/\U.H[H.length]?=some (.cells (qr W))/\(∃Z,Z.length=16/\U.H[H.length+1]?=some (.cells Z))/\∀b k,k<16->qo d' b W k=if k<i then !qo d b X k else qo d b X k) ?_ ?_ ?_
 . refine⟨by simp,by simp,by simp,by simp,d,X,(h.app _),qDg d,hX,by simp,⟨_,rfl,by simp;rfl⟩,fun b k hk=>by simp⟩
 . rintro i ev ⟨H1,T1⟩ R hR hi ⟨e0,e3,e4,e6,d1,W,hx,hg,hW,hH,⟨Z,hZ,hH2⟩,hb⟩;obtain⟨x,hx1,hx2,hx3,hx4⟩:=hW.get hi;simp only at hx hH hH2;have hWl:=hW.1;have hi':(i:Int)<16:=(by omega);have hi1:i+1<=16:=hi;have hdr:=zO hx1;have hw:=wr (n:=(i:Int)+1) (by omega) (by omega);simp[e0,e3,e6,hi',hi1,hH,hWl,hdr];refine qCQ (Qp c hx.self hx2) ?_;rintro v ⟨H2,T2⟩ ⟨d2,y,rfl,hxx,hg2,hy,hv⟩;dsimp only at hv;have hx2':=hx.call hxx;have hH2':=hxx.loc hH (h.at (qyQ _)).1;have hHl:=(qyF.1 hH2').1;have hZ2:=hxx.loc hH2 (h.at (by omega)).1;simp[e3,e6,hi',hi1,hH2',hWl,yR,hw];refine hR _ _ ⟨by simp[e0],by simp[e3],by simp[e4],by simp,d2,W.set i y,hx2'.set (qyQ _) _,hg.trans hg2,(hW.grown hg2).set hy,by simp[hHl],⟨Z,hZ,by rw[qyI (by omega)];exact hZ2⟩,fun b k hk=>?_⟩;rw[wD (by omega)];by_cases hki:k=i
   . subst hki;have:=hb b k hk;rw[hx4,if_neg (by omega)]at this;rw[if_pos rfl,if_pos (by omega),hv,this]
   rw[if_neg hki,zC hx.ok hg2 hW b hk,hb b k hk];by_cases hk2:k<i
   . rw[if_pos hk2,if_pos (by omega)]
   rw[if_neg hk2,if_neg (by omega)]
 rintro ev ⟨H1,T1⟩ ⟨e0,e3,e4,e6,d1,W,hx,hg,hW,hH,⟨Z,hZ,hH2⟩,hb⟩;simp only at hx hH hH2;have hWl:=hW.1;have hHl:=(qyF.1 hH2).1;simp[-getElem?_pos,e3,e4,e6,hH,hH2,hWl,qn hWl,zd hWl hZ,hZ,hHl];refine⟨d1,W,rfl,hx.set (by omega) _,hg,hW,fun b k hk=>by rw[hb b k hk,if_pos hk]⟩
end
section
variable {c:Bc}{d:List Nd}{H:List Blk}{T:List (Option Nat)}
def qT.getG{d d' w}(h:qT d w)(hd:DagOk d)(hg:qU d d'){k}(hk:k<16):∃x,w[k]?=some x/\x<d'.length/\∀b,evD d' b x=qo d b w k:=by
 obtain⟨x,h1,h2,h3,h4⟩:=h.get hk;exact⟨x,h1,qyV h2 hg.len,fun b=>by rw[hg.ev hd b h2,h4 b]⟩
def vU(h:BX c H d H){X}(hX:qT d X):
 qf prog (XG c) 126 [.ptr c.B 0,.agg (qr X)] ⟨H,T⟩ (NQ c d H fun b=>Zq (qo d b X) 16):=by
 refine qCN qe func126 rfl (by kernel_rfl) ?_;have hXl:=hX.1;simp[hXl,qn hXl];refine yF 16 (fun i ev U=>ev 0=.ptr c.B 0/\ev 8=.agg (qr X)/\ev 9=.int .i64 (i:Int) /\
  ∃d' t,ev 5=.int .i64 (t:Nat)/\BX c H d' U.H/\qU d d'/\t<d'.length/\∀b,evD d' b t=Zq (qo d b X) i) ?_ ?_ ?_
 . exact⟨by simp,by simp,by simp,d,0,by simp,h.app _,qDg d,by have:=h.ok.two;omega,fun b=>JB h.ok b⟩
 . rintro i ev ⟨H1,T1⟩ R hR hi ⟨e0,e8,e9,d1,t,e5,hx,hg,ht,hv⟩;obtain⟨x,hx1,hx2,hx3⟩:=hX.getG h.ok hg hi;have hi1:i+1<=16:=hi;have hw:=wr (n:=(i:Int)+1) (by omega) (by omega);simp[e0,e5,e8,e9,show(i:Int)<16 by omega,hi1,hXl,zO hx1];refine qCQ (qa4 c hx.self ht hx2) ?_;rintro v ⟨H2,T2⟩ ⟨d2,y,rfl,hxx,hg2,hy,hv2⟩;dsimp only at hv2;simp[e9,hw];exact hR _ _ ⟨by simp[e0],by simp[e8],by simp,d2,y,by simp,hx.call hxx,hg.trans hg2,hy,fun b=>by rw[hv2,hv,hx3];rfl⟩
 rintro ev ⟨H1,T1⟩ ⟨e0,e8,e9,d1,t,e5,hx,hg,ht,hv⟩;simp[e5,e9];exact⟨d1,t,rfl,hx,hg,ht,hv⟩
def qjX(n i:Nat)(hn:n<2^63):qu .and .i64 ((n:Int).fdiv (2^i)) 1=some (.int .i64 ((if n.testBit i=true then 1 else 0:Nat):Int)):=by
 have h1:((n:Int).fdiv (2^i))=((n/2^i:Nat):Int):=by rw[qz7 _ (Int.pow_nonneg (by omega))];simp
 have h2:n/2^i<2^64:=by have:=qzI n (2^i);omega
 have h3:n/2^i%2=if n.testBit i=true then 1 else 0:=by
  rw[Nat.testBit_eq_decide_div_mod_eq];have:=Nat.mod_two_eq_zero_or_one (n/2^i);rcases this with h|h<;>simp[h]
 rw[h1];generalize n/2^i=m at *;have h4:(BitVec.ofInt 64 (m:Int) &&& BitVec.ofInt 64 1).toNat=m%2:=by
  rw[BitVec.ofInt_natCast,show BitVec.ofInt 64 1=1#64 from rfl,BitVec.toNat_and,BitVec.toNat_ofNat,BitVec.toNat_ofNat,qAw h2];exact Nat.and_one_is_mod _
 show some (AV.int .i64 (IntKind.i64.wrap ((BitVec.ofInt 64 (m:Int) &&& BitVec.ofInt 64 1).toNat:Int)))=_;rw[h4,h3];split<;>rfl
def jX(n:Nat)(hn:n<65536):Pure prog GG 179 [.int .i64 (n:Int)] (.agg (qr ((List.range 16).map fun k=>if n.testBit k=true then 1 else 0))):=by
 refine qCL qe func179 rfl (by kernel_rfl) ?_;simp;refine yF 16 (fun i ev U=>ev 0=.int .i64 (n:Int)/\ev 2=.ptr 0 0/\ev 3=.ptr 1 0/\ev 5=.int .i64 (i:Int) /\
  ∃W Z,W.length=16/\U=⟨[.cells Z,.cells (qr W)],[]⟩/\Z.length=16/\∀k,k<i->W[k]?=some (if n.testBit k=true then 1 else 0)) ?_ ?_ ?_
 . exact⟨by simp,by simp,by simp,by simp,List.replicate 16 0,_,by simp,rfl,rfl,fun k hk=>absurd hk (by omega)⟩
 . rintro i ev U R hR hi ⟨e0,e2,e3,e5,W,Z,hW,rfl,hZ,hb⟩;have hi1:i+1<=16:=hi;have hw:=wr (n:=(i:Int)+1) (by omega) (by omega);have hmin:min i 64=i:=(by omega);have hneg:¬(i:Int)<0:=(by omega);have hand:=qjX n i (by omega);obtain⟨v,hv⟩:∃v:Nat,v=if n.testBit i=true then 1 else 0:=⟨_,rfl⟩
   rw[<- hv]at hand;simp[-qu,Wi,YA,e0,e3,e5,show(i:Int)<16 by omega,hi1,hW,hmin,IntKind.bits,hand,hneg];refine hR _ _ ⟨by simp[e0],by simp[e2],by simp[e3],by simp[hw],W.set i v,Z,by simp[hW],by simp[yR],hZ,fun k hk=>?_⟩;by_cases hki:k=i
   . subst hki;rw[qyL (by omega),hv]
   rw[qyI (Ne.symm hki)];exact hb k (by omega)
 rintro ev U ⟨e0,e2,e3,e5,W,Z,hW,rfl,hZ,hb⟩;have:W=(List.range 16).map fun k=>if n.testBit k=true then 1 else 0:=by
  apply qzC;intro k;by_cases hk:k<16
  . rw[hb k hk];simp[hk]
  rw[qy6 (by omega),qy6 (by simp;omega)]
 rw[<- this];simp[e2,e3,e5,hW,qn hW,zd hW hZ,hZ]
end
section
variable {c:Bc}{d:List Nd}{H:List Blk}{T:List (Option Nat)}
def qnl(x y:Nat->Bool)(c:Bool)(k:Nat):Bool:=(x k ^^ y k) ^^ qac x y c k
def qk7:List (Nat×Sch×List Nat):=[(5,.step 0 [8,7] (.step 1 [8,7,3,2] (.step 2 [8,7,3] (.step 3 [8,7] (.step 4 [8,7,6,5] (.step 5 [8,7,6] (.step 6 [8,7] (.step 7 [8] (.step 8 [] (.done))))))))),[7]),(8,.step 0 [8,7] (.step 1 [8,7,3,2] (.step 2 [8,7,3] (.step 3 [8,7] (.step 4 [8,7,6,5] (.step 5 [8,7,6] (.step 6 [8,7] (.step 7 [8] (.step 8 [] (.done))))))))),[7])]
def qdN(h:BX c H d H){X Y}(hX:qT d X)(hY:qT d Y){cn}(hc:cn<d.length):
 qf prog (XG c) 248 [.ptr c.B 0,.agg (qr X),.agg (qr Y),.int .i64 (cn:Int)] ⟨H,T⟩ (BQ c d H fun b=>qnl (qo d b X) (qo d b Y) (evD d b cn)):=by
 refine qCM ⟨false,qk7,[],[]⟩ qe func248 rfl (by kernel_rfl) ?_;have hXl:=hX.1;have hYl:=hY.1;simp;refine yF 16 (fun i ev U=>ev 0=.ptr c.B 0/\ev 5=.ptr H.length 0/\ev 6=.ptr (H.length+1) 0/\ev 8=.ptr (H.length+2) 0/\ev 9=.ptr (H.length+3) 0/\ev 14=.int .i64 (i:Int) /\
  ∃ d' W cn',ev 3=.int .i64 (cn':Nat)/\BX c H d' U.H/\qU d d'/\qT d' W/\cn'<d'.length/\U.H[H.length]?=some (.cells (qr X))/\U.H[H.length+1]?=some (.cells (qr Y))/\(∃Z,Z.length=16/\U.H[H.length+2]?=some (.cells Z))/\U.H[H.length+3]?=some (.cells (qr W)) /\
   (i<=15->∀b,evD d' b cn'=qac (qo d b X) (qo d b Y) (evD d b cn) i) /\
   ∀b k,k<i->qo d' b W k=qnl (qo d b X) (qo d b Y) (evD d b cn) k) ?_ ?_ ?_
 . refine⟨by simp,by simp,by simp,by simp,by simp,by simp,d,qZ,cn,by simp,h.app _,qDg d,kz h.ok,hc,lk0,lk1,⟨_,qN,lk2⟩,lk3,fun _ b=>rfl,fun b k hk=>absurd hk (by omega)⟩
 . rintro i ev ⟨H1,T1⟩ R hR hi ⟨e0,e5,e6,e8,e9,e14,d1,W,cn1,e3,hx,hg,hW,hc1,hHX,hHY,⟨Z,hZ,hHZ⟩,hHW,hcar,hb⟩;obtain⟨x,hx1,hx2,hx3⟩:=hX.getG h.ok hg hi;obtain⟨y,hy1,hy2,hy3⟩:=hY.getG h.ok hg hi;simp only at hx hHX hHY hHZ hHW;have hWl:=hW.1;have hi':(i:Int)<16:=(by omega);have hi1:i+1<=16:=hi;have hdx:=zO hx1;have hdy:=zO hy1;have hw:=wr (n:=(i:Int)+1) (by omega) (by omega);simp[e14,hi',hi1];rw[qJ rfl];simp[qX,e0,e5,e6,hi',hi1,hHX,hHY,hXl,hYl,hdx,hdy];refine qCQ (qae c hx.self hx2 hy2) ?_;rintro v ⟨H2,T2⟩ ⟨d2,z,rfl,hxx,hg2,hz,hv2⟩;dsimp only at hv2;have hk:∀j,H.length+j≠c.B:=fun j=>(h.at (by omega)).1
   have hX2:=hxx.loc hHX (hk 0);have hY2:=hxx.loc hHY (hk 1);have hZ2:=hxx.loc hHZ (hk 2);have hW2:=hxx.loc hHW (hk 3);have hx2':=hx.call hxx;have hc2:=qyV hc1 hg2.len;simp[e0,e3,hi1];refine qCQ (qae c hx2'.self hz hc2) ?_;rintro v ⟨H3,T3⟩ ⟨d3,o,rfl,hxx3,hg3,ho,hv3⟩;dsimp only at hv3;have hX3:=hxx3.loc hX2 (hk 0);have hY3:=hxx3.loc hY2 (hk 1);have hZ3:=hxx3.loc hZ2 (hk 2);have hW3:=hxx3.loc hW2 (hk 3);have hx3':=hx2'.call hxx3;have hl3:=(qyF.1 hW3).1;have hx4:=hx3'.set (k:=H.length+3) (by omega) (.cells (qr (W.set i o)));have hX4:(H3.set (H.length+3) (.cells (qr (W.set i o))))[H.length]?=some (.cells (qr X)):=(by rw[qyI (by omega)];exact hX3);have hY4:(H3.set (H.length+3) (.cells (qr (W.set i o))))[H.length+1]?=some (.cells (qr Y)):=(by rw[qyI (by omega)];exact hY3);have hZ4:(H3.set (H.length+3) (.cells (qr (W.set i o))))[H.length+2]?=some (.cells Z):=(by rw[qyI (by omega)];exact hZ3);have hW4:(H3.set (H.length+3) (.cells (qr (W.set i o))))[H.length+3]?=some (.cells (qr (W.set i o))):=qyL hl3;have hg3':=hg.trans (hg2.trans hg3);have hWok:=(hW.grown (hg2.trans hg3)).set (k:=i) ho;have hcar1:=hcar (by omega);have hhv:∀b,evD d2 b z=(qo d b X i ^^ qo d b Y i):=fun b=>by rw[hv2,hx3,hy3]
   have hov:∀b,evD d3 b o=qnl (qo d b X) (qo d b Y) (evD d b cn) i:=fun b=>by
    rw[hv3,hhv,hg2.ev hx.ok b hc1,hcar1];rfl
   have hbits:∀b k,k<i+1->qo d3 b (W.set i o) k=qnl (qo d b X) (qo d b Y) (evD d b cn) k:=fun b k hk=>by
    rw[wD (by omega)];by_cases hki:k=i
    . subst hki;rw[if_pos rfl,hov]
    rw[if_neg hki,zC hx.ok (hg2.trans hg3) hW b (by omega),hb b k (by omega)]
   by_cases h15:i<15
   . have h15':(i:Int)<15:=(by omega);simp[e9,hi',hi1,hW3,hWl,yR,h15'];generalize H3.set (H.length+3) (.cells (qr (W.set i o)))=H4 at *;rw[qJ rfl];simp[qX,e0,e5,e6,hi',hi1,hX4,hY4,hXl,hYl,hdx,hdy];refine qCQ (Qs c hx4.self (qyV hx2 (hg2.trans hg3).len) (qyV hy2 (hg2.trans hg3).len)) ?_;rintro v ⟨H5,T5⟩ ⟨d5,g,rfl,hxx5,hg5,hgl,hv5⟩;dsimp only at hv5;have hx5:=hx4.call hxx5;simp[e0,e3,e14];refine qCQ (Qs c hx5.self (f:=z) (g:=cn1) (qyV hz (hg3.trans hg5).len) (qyV hc2 (hg3.trans hg5).len)) ?_;rintro v ⟨H6,T6⟩ ⟨d6,hh,rfl,hxx6,hg6,hhl,hv6⟩;dsimp only at hv6;have hx6:=hx5.call hxx6;simp[e0,e14];refine qCQ (qa4 c hx6.self (f:=g) (g:=hh) (qyV hgl hg6.len) hhl) ?_;rintro v ⟨H7,T7⟩ ⟨d7,c7,rfl,hxx7,hg7,hc7,hv7⟩;dsimp only at hv7;have hx7:=hx6.call hxx7;simp[e14,hw];have hgg:=hg5.trans (hg6.trans hg7);have up:∀{k:Nat} {x:Blk},H4[H.length+k]?=some x->H7[H.length+k]?=some x:=fun {k x} hq=>hxx7.loc (hxx6.loc (hxx5.loc hq (hk k)) (hk k)) (hk k)
     refine hR _ _ ⟨by simp[e0],by simp[e5],by simp[e6],by simp[e8],by simp[e9],by simp,d7,W.set i o,c7,by simp,hx7,hg3'.trans hgg,hWok.grown hgg,hc7,up (k:=0) hX4,up hY4,⟨Z,hZ,up hZ4⟩,up hW4,fun _ b=>?_,fun b k hk=>?_⟩
     . rw[hv7,hg6.ev hx5.ok b hgl,hv5,hv6,(hg3.trans hg5).ev hx2'.ok b hz,(hg3.trans hg5).ev hx2'.ok b hc2,hhv,(hg2.trans hg3).ev hx.ok b hx2,(hg2.trans hg3).ev hx.ok b hy2,hx3,hy3,hg2.ev hx.ok b hc1,hcar1];rfl
     rw[zC hx4.ok hgg hWok b (by omega),hbits b k hk]
   have h15':¬(i:Int)<15:=(by omega);simp[e9,e14,hi',hi1,hW3,hWl,yR,h15',hw];generalize H3.set (H.length+3) (.cells (qr (W.set i o)))=H4 at *;refine hR _ _ ⟨by simp[e0],by simp[e5],by simp[e6],by simp[e8],by simp[e9],by simp,d3,W.set i o,cn1,by simp[e3],hx4,hg3',hWok,qyV hc2 hg3.len,hX4,hY4,⟨Z,hZ,hZ4⟩,hW4,fun hi=>absurd hi (by omega),hbits⟩
 rintro ev ⟨H1,T1⟩ ⟨e0,e5,e6,e8,e9,e14,d1,W,cn1,e3,hx,hg,hW,hc1,hHX,hHY,⟨Z,hZ,hHZ⟩,hHW,hcar,hb⟩;simp only at hx hHX hHY hHZ hHW;have hWl:=hW.1;have hHl:=(qyF.1 hHZ).1;simp[-getElem?_pos,e8,e9,e14,hHW,hHZ,hWl,qn hWl,zd hWl hZ,hZ,hHl];exact⟨d1,W,rfl,hx.set (by omega) _,hg,hW,fun b k hk=>hb b k hk⟩
end
def ZY{x x' y y' c}:∀{k:Nat},(∀j,j<k->x j=x' j)->(∀j,j<k->y j=y' j)->qac x y c k=qac x' y' c k
 |0,_,_=>rfl
 | k+1,hx,hy=>by
  unfold qac;rw[hx k (by omega),hy k (by omega),ZY (k:=k) (fun j hj=>hx j (by omega)) (fun j hj=>hy j (by omega))]
section
variable {c:Bc}{d:List Nd}{H:List Blk}{T:List (Option Nat)}
def z9(n:Nat):Pure prog GG 181 [.int .i64 (n:Int)] (.agg (qr (n::List.replicate 15 0))):=by
 refine qCL qe func181 rfl (by kernel_rfl) ?_;simp[zp,zS];exact qCU _
def qk3:List (Nat×Sch×List Nat):=[(5,.step 0 [13,12] (.step 1 [13,12] (.step 2 [13,12,11] (.step 3 [13,12,11,10] (.step 4 [13,12,11,10,6,5] (.step 5 [13,12,11,10,6] (.step 6 [13,12,11,10] (.step 7 [13,12,11,10,9,8] (.step 8 [13,12,11,10,9] (.step 9 [13,12,11,10] (.step 10 [13,12,11] (.step 11 [13,12] (.step 12 [13] (.step 13 [] (.done)))))))))))))),[10,11,12])]
def VA(h:BX c H d H){X Y}(hX:qT d X)(hY:qT d Y):
 qf prog (XG c) 303 [.ptr c.B 0,.agg (qr X),.agg (qr Y)] ⟨H,T⟩ (NQ c d H fun b=>eqT (qo d b X) (qo d b Y) 16):=by
 refine qCM ⟨false,qk3,[],[]⟩ qe func303 rfl (by kernel_rfl) ?_;have hXl:=hX.1;have hYl:=hY.1;have hk:∀j,H.length+j≠c.B:=fun j=>(h.at (by omega)).1
 simp;refine yF 16 (fun i ev U=>ev 0=.ptr c.B 0/\ev 4=.ptr H.length 0/\ev 5=.ptr (H.length+1) 0/\ev 9=.int .i64 (i:Int) /\
  ∃ d' t,ev 7=.int .i64 (t:Nat)/\BX c H d' U.H/\qU d d'/\t<d'.length/\U.H[H.length]?=some (.cells (qr X))/\U.H[H.length+1]?=some (.cells (qr Y)) /\
   ∀b,evD d' b t=eqT (qo d b X) (qo d b Y) i) ?_ ?_ ?_
 . exact⟨by simp,by simp,by simp,by simp,d,1,by simp,h.app _,qDg d,by have:=h.ok.two;omega,lk0,lk1,fun b=>qda h.ok b⟩
 . rintro i ev ⟨H1,T1⟩ R hR hi ⟨e0,e4,e5,e9,d1,t,e7,hx,hg,ht,hHX,hHY,hv⟩;obtain⟨x,hx1,hx2,hx3⟩:=hX.getG h.ok hg hi;obtain⟨y,hy1,hy2,hy3⟩:=hY.getG h.ok hg hi;simp only at hx hHX hHY;have hi':(i:Int)<16:=(by omega);have hi1:i+1<=16:=hi;have hdx:=zO hx1;have hdy:=zO hy1;have hw:=wr (n:=(i:Int)+1) (by omega) (by omega);simp[e9,hi'];rw[qJ rfl];simp[qX,e0,e4,e5,e7,hi',hi1,hHX,hHY,hXl,hYl,hdx,hdy];refine qCQ (qae c hx.self hx2 hy2) ?_;rintro v ⟨H2,T2⟩ ⟨d2,z,rfl,hxx2,hg2,hz,hv2⟩;dsimp only at hv2;have hx2':=hx.call hxx2;simp[qX];refine qCQ (Qp c hx2'.self hz) ?_;rintro v ⟨H3,T3⟩ ⟨d3,u,rfl,hxx3,hg3,hu,hv3⟩;dsimp only at hv3;have hx3':=hx2'.call hxx3;simp[qX];have hg23:=hg2.trans hg3;refine qCQ (Qs c hx3'.self (f:=t) (g:=u) (qyV ht hg23.len) hu) ?_;rintro v ⟨H4,T4⟩ ⟨d4,w,rfl,hxx4,hg4,hw4,hv4⟩;dsimp only at hv4;have hx4':=hx3'.call hxx4;have up:∀{k:Nat} {x:Blk},H1[H.length+k]?=some x->H4[H.length+k]?=some x:=fun {k x} hq=>hxx4.loc (hxx3.loc (hxx2.loc hq (hk k)) (hk k)) (hk k)
   simp[qX,e9,hw];refine hR _ _ ⟨by simp[e0],by simp[e4],by simp[e5],by simp,d4,w,by simp,hx4',hg.trans (hg23.trans hg4),hw4,up (k:=0) hHX,up hHY,fun b=>?_⟩;rw[hv4,hg23.ev hx.ok b ht,hv3,hv2,hv,hx3,hy3];rfl
 rintro ev ⟨H1,T1⟩ ⟨e0,e4,e5,e9,d1,t,e7,hx,hg,ht,hHX,hHY,hv⟩;simp[e7,e9];exact⟨d1,t,rfl,hx,hg,ht,hv⟩
def qk6:List (Nat×Sch×List Nat):=[(5,.step 0 [10,9] (.step 1 [10,9,5] (.step 2 [10,9,5,4,3] (.step 3 [10,9,5,4] (.step 4 [10,9,5] (.step 6 [10,9,8,7] (.step 7 [10,9,8] (.fork (.cons 5 (.step 8 [10,9] (.step 9 [10] (.step 10 [] (.done)))) (.cons 8 (.step 5 [10,9] (.step 9 [10] (.step 10 [] (.done)))) (.nil)))))))))),[5,9]),(6,.step 0 [13,12] (.step 1 [13,12,10] (.step 2 [13,12,10,9] (.step 3 [13,12,10,9,5,4] (.step 4 [13,12,10,9,5] (.step 5 [13,12,10,9] (.step 6 [13,12,10,9,8,7] (.step 7 [13,12,10,9,8] (.step 8 [13,12,10,9] (.step 11 [13,12] (.step 9 [13,12,10] (.step 10 [13,12] (.step 12 [13] (.step 13 [] (.done)))))))))))))),[9,10,12])]
def Vn(h:BX c H d H){X Y}(hX:qT d X)(hY:qT d Y):
 qf prog (XG c) 249 [.ptr c.B 0,.agg (qr X),.agg (qr Y)] ⟨H,T⟩ (NQ c d H fun b=>qcT (qo d b X) (qo d b Y) 16):=by
 refine qCM ⟨false,qk6,[],[]⟩ qe func249 rfl (by kernel_rfl) ?_;have hXl:=hX.1;have hYl:=hY.1;have hk:∀j,H.length+j≠c.B:=fun j=>(h.at (by omega)).1
 simp;refine yF 16 (fun i ev U=>ev 0=.ptr c.B 0/\ev 4=.ptr H.length 0/\ev 5=.ptr (H.length+1) 0/\ev 11=.int .i64 (i:Int) /\
  ∃ d' t,ev 7=.int .i64 (t:Nat)/\BX c H d' U.H/\qU d d'/\t<d'.length/\U.H[H.length]?=some (.cells (qr X))/\U.H[H.length+1]?=some (.cells (qr Y)) /\
   ∀b,evD d' b t=qcT (qo d b X) (qo d b Y) i) ?_ ?_ ?_
 . exact⟨by simp,by simp,by simp,by simp,d,0,by simp,h.app _,qDg d,by have:=h.ok.two;omega,lk0,lk1,fun b=>JB h.ok b⟩
 . rintro i ev ⟨H1,T1⟩ R hR hi ⟨e0,e4,e5,e11,d1,t,e7,hx,hg,ht,hHX,hHY,hv⟩;obtain⟨x,hx1,hx2,hx3⟩:=hX.getG h.ok hg hi;obtain⟨y,hy1,hy2,hy3⟩:=hY.getG h.ok hg hi;simp only at hx hHX hHY;have hi':(i:Int)<16:=(by omega);have hi1:i+1<=16:=hi;have hdx:=zO hx1;have hdy:=zO hy1;have hw:=wr (n:=(i:Int)+1) (by omega) (by omega);simp[e11,hi'];rw[qJ rfl];simp[qX,e0,e4,e5,hi',hi1,hHX,hHY,hXl,hYl,hdx,hdy];have key:=Qp c hx.self hx2 (T:=T1);refine⟨qCQ key ?_,qCQ key ?_⟩
   all_goals
    rintro v ⟨H2,T2⟩ ⟨d2,z,rfl,hxx2,hg2,hz,hv2⟩;dsimp only at hv2;have hx2':=hx.call hxx2;have hX2:=hxx2.loc hHX (hk 0);have hY2:=hxx2.loc hHY (hk 1);dsimp only at hX2 hY2;simp[qX,hi1,hY2,hYl,hdy];refine qCQ (Qs c hx2'.self (f:=z) (g:=y) hz (qyV hy2 hg2.len)) ?_;rintro v ⟨H3,T3⟩ ⟨d3,u,rfl,hxx3,hg3,hu,hv3⟩;dsimp only at hv3;have hx3':=hx2'.call hxx3;have hX3:=hxx3.loc hX2 (hk 0);have hY3:=hxx3.loc hY2 (hk 1);have hg23:=hg2.trans hg3;simp;rw[qJ rfl];simp[qX,e0,e4,e5,e7,hi',hi1,hX3,hY3,hXl,hYl,hdx,hdy];refine qCQ (qae c hx3'.self (f:=x) (g:=y) (qyV hx2 hg23.len) (qyV hy2 hg23.len)) ?_;rintro v ⟨H4,T4⟩ ⟨d4,q,rfl,hxx4,hg4,hq,hv4⟩;dsimp only at hv4;have hx4':=hx3'.call hxx4;simp[qX];refine qCQ (Qp c hx4'.self hq) ?_;rintro v ⟨H5,T5⟩ ⟨d5,nq,rfl,hxx5,hg5,hnq,hv5⟩;dsimp only at hv5;have hx5':=hx4'.call hxx5;simp[qX];have hg35:=hg4.trans hg5;have hg15:=hg23.trans hg35;refine qCQ (Qs c hx5'.self (f:=nq) (g:=t) hnq (qyV ht hg15.len)) ?_;rintro v ⟨H6,T6⟩ ⟨d6,a6,rfl,hxx6,hg6,ha6,hv6⟩;dsimp only at hv6;have hx6':=hx5'.call hxx6;simp[qX,e0];have hg36:=hg35.trans hg6;refine qCQ (qa4 c hx6'.self (f:=u) (g:=a6) (qyV hu hg36.len) ha6) ?_;rintro v ⟨H7,T7⟩ ⟨d7,a7,rfl,hxx7,hg7,ha7,hv7⟩;dsimp only at hv7;have hx7':=hx6'.call hxx7;have up:∀{k:Nat} {x:Blk},H3[H.length+k]?=some x->H7[H.length+k]?=some x:=fun {k x} hq=>hxx7.loc (hxx6.loc (hxx5.loc (hxx4.loc hq (hk k)) (hk k)) (hk k)) (hk k)
    simp[e11,hw];refine hR _ _ ⟨by simp[e0],by simp[e4],by simp[e5],by simp,d7,a7,by simp,hx7',hg.trans (hg15.trans (hg6.trans hg7)),ha7,up (k:=0) hX3,up hY3,fun b=>?_⟩;rw[hv7,hg36.ev hx3'.ok b hu,hv3,hv2,hg2.ev hx.ok b hy2,hv6,hv5,hv4,hg23.ev hx.ok b hx2,hg23.ev hx.ok b hy2,hg15.ev hx.ok b ht,hv,hx3,hy3];rfl
 rintro ev ⟨H1,T1⟩ ⟨e0,e4,e5,e11,d1,t,e7,hx,hg,ht,hHX,hHY,hv⟩;simp[e7,e11];exact⟨d1,t,rfl,hx,hg,ht,hv⟩
def qld:List (Nat×Sch×List Nat):=[(1,.step 0 [6,5] (.step 2 [6,5,4] (.step 3 [6,5,4] (.fork (.cons 1 (.step 4 [6,5] (.step 5 [6] (.step 6 [] (.done)))) (.cons 4 (.step 1 [6,5] (.step 5 [6] (.step 6 [] (.done)))) (.nil)))))),[4,5])]
def Zh(h:BX c H d H){X Y}(hX:qT d X)(hY:qT d Y):
 qf prog (XG c) 184 [.ptr c.B 0,.agg (qr X),.agg (qr Y)] ⟨H,T⟩ (BQ c d H fun b=>qnl (qo d b X) (fun k=>!qo d b Y k) true):=by
 refine qCM ⟨false,qld,[],[]⟩ qe func184 rfl (by kernel_rfl) ?_;have hXl:=hX.1;have hYl:=hY.1;have hk:∀j,H.length+j≠c.B:=fun j=>(h.at (by omega)).1
 simp;rw[qJ rfl,js];have hx1:=h.app [.cells (qr X),.cells (qr Y),.cells (qr qZ)];have hHX:(H++[Blk.cells (qr X),.cells (qr Y),.cells (qr qZ)])[H.length]?=some (.cells (qr X)):=lk0;have hHY:(H++[Blk.cells (qr X),.cells (qr Y),.cells (qr qZ)])[H.length+1]?=some (.cells (qr Y)):=lk1;have hHZ:(H++[Blk.cells (qr X),.cells (qr Y),.cells (qr qZ)])[H.length+2]?=some (.cells (qr qZ)):=lk2;generalize H++[Blk.cells (qr X),.cells (qr Y),.cells (qr qZ)]=H1 at *;simp[qX,hHX,hHY,hXl,hYl,qn hXl,qn hYl];have key:=Zl hx1.self hY (T:=T);refine⟨qCQ key ?_,qCQ key ?_⟩
 all_goals
  rintro v ⟨H2,T2⟩ ⟨d2,W,rfl,hxx2,hg2,hW,hv2⟩;have hx2':=hx1.call hxx2;have hX2:=hxx2.loc hHX (hk 0);have hZ2:=hxx2.loc hHZ (hk 2);simp[qX,hX2,hXl,qn hXl];have ht:=hx2'.ok.two;refine qCQ (qdN hx2'.self (hX.grown hg2) hW (cn:=1) (by omega)) ?_;rintro v ⟨H3,T3⟩ ⟨d3,V,rfl,hxx3,hg3,hV,hv3⟩;dsimp only at hv3;have hx3':=hx2'.call hxx3;have hZ3:=hxx3.loc hZ2 (hk 2);dsimp only at hZ3;have hVl:=hV.1;have hl3:=(qyF.1 hZ3).1;simp[-getElem?_pos,qX,hZ3,hVl,qn hVl,zd hVl (show(qr qZ).length=16 from rfl),qN,hl3];refine⟨d3,V,rfl,hx3'.set (by omega) _,hg2.trans hg3,hV,fun b k hk=>?_⟩;rw[hv3 b k hk];unfold qnl;rw[hv2 b k hk,zC h.ok hg2 hX b hk,qda hx2'.ok];congr 1;exact ZY (fun j hj=>zC h.ok hg2 hX b (by omega)) (fun j hj=>hv2 b j (by omega))
end
def UQ(c:Bc)(d:List Nd)(H:List Blk)(v:(Nat->Bool)->Nat)(r:AV)(U':St):Prop :=
 ∃d' W,r=.agg (qr W)/\BX c H d' U'.H/\qU d d'/\qT d' W/\∀b,zf (qo d' b W) 16=v b
def qeQ:((List.range 16).map fun k=>if Nat.testBit 0 k=true then 1 else 0)=qZ:=by decide
def wm{d d'}(hd:DagOk d)(hg:qU d d'){w}(h:qT d w)(b):zf (qo d' b w) 16=zf (qo d b w) 16:=zg fun k hk=>zC hd hg h b hk
section
variable {c:Bc}{d:List Nd}{H:List Blk}{T:List (Option Nat)}
def qk5:List (Nat×Sch×List Nat):=[(9,.step 0 [12,11] (.step 1 [12,11,10] (.step 2 [12,11,10,6,5,4] (.step 3 [12,11,10,6,5,4] (.step 4 [12,11,10,6,5] (.step 5 [12,11,10,6] (.step 6 [12,11,10] (.step 7 [12,11,10,9,8] (.step 8 [12,11,10,9] (.step 9 [12,11,10] (.step 10 [12,11] (.step 11 [12] (.step 12 [] (.done))))))))))))),[10])]
def qfI(h:BX c H d H){X Y}(hX:qT d X)(hY:qT d Y):
 qf prog (XG c) 252 [.ptr c.B 0,.agg (qr X),.agg (qr Y)] ⟨H,T⟩ (UQ c d H fun b=>qpM (zf (qo d b X) 16) (qo d b Y) 16 16):=by
 refine qCM ⟨false,qk5,[],[]⟩ qe func252 rfl (by kernel_rfl) ?_;have hXl:=hX.1;have hYl:=hY.1;have hk:∀j,H.length<=j->j≠c.B:=fun j hj=>(h.at hj).1
 have hc0:=jX 0 (by omega);rw[qeQ]at hc0;simp only[qz1]at hc0;simp;refine qCO hc0 rfl ?_;simp[js,zd (w:=qZ) rfl (show(qr qZ).length=16 from rfl),qN];refine yF 16 (fun i ev U=>ev 0=.ptr c.B 0/\ev 4=.ptr H.length 0/\ev 5=.ptr (H.length+1) 0/\ev 6=.ptr (H.length+2) 0/\ev 7=.ptr (H.length+3) 0/\ev 12=.int .i64 (i:Int) /\
  ∃ d' S,BX c H d' U.H/\qU d d'/\qT d' S/\U.H[H.length]?=some (.cells (qr X))/\U.H[H.length+1]?=some (.cells (qr Y))/\U.H[H.length+2]?=some (.cells (qr qZ))/\U.H[H.length+3]?=some (.cells (qr S)) /\
   ∀b,zf (qo d' b S) 16=qpM (zf (qo d b X) 16) (qo d b Y) 16 i) ?_ ?_ ?_
 . refine⟨by simp,by simp,by simp,by simp,by simp,by simp,d,qZ,h.app _,qDg d,kz h.ok,lk0,lk1,lk2,lk3,fun b=>?_⟩
   . rw[yZ fun k _=>yT h.ok b k];rfl
 . rintro i ev ⟨H1,T1⟩ R hR hi ⟨e0,e4,e5,e6,e7,e12,d1,S,hx,hg,hS,hHX,hHY,hHZ,hHS,hv⟩;obtain⟨y,hy1,hy2,hy3⟩:=hY.getG h.ok hg hi;have hi':(i:Int)<16:=(by omega);have hi1:i+1<=16:=hi;have hdy:=zO hy1;have hw:=wr (n:=(i:Int)+1) (by omega) (by omega);have hHl:=hx.kp.1;simp[e12,hi',js];have hx0:=hx.app [.cells (qr qZ)];have aHX:=qa hHX [.cells (qr qZ)];have aHY:=qa hHY [.cells (qr qZ)];have aHZ:=qa hHZ [.cells (qr qZ)];have aHS:=qa hHS [.cells (qr qZ)];have aHP:(H1++[Blk.cells (qr qZ)])[H1.length]?=some (.cells (qr qZ)):=lk0;have hSl:=(qyF.1 hHS).1;generalize H1.length=N at *;generalize H1++[Blk.cells (qr qZ)]=H1' at *;refine qCR (fun n ev U=>ev 0=.ptr c.B 0/\ev 4=.ptr H.length 0/\ev 5=.ptr (H.length+1) 0/\ev 6=.ptr (H.length+2) 0/\ev 7=.ptr (H.length+3) 0/\ev 8=.int .i64 (i:Int)/\ev 9=.ptr N 0/\ev 12=.int .i64 (i:Int) /\
    ∃j d' P,n=16-j/\i<=j/\j<=16/\ev 10=.int .i64 (j:Int)/\BX c H d' U.H/\qU d1 d'/\qT d' P/\U.H[H.length]?=some (.cells (qr X))/\U.H[H.length+1]?=some (.cells (qr Y))/\U.H[H.length+2]?=some (.cells (qr qZ))/\U.H[H.length+3]?=some (.cells (qr S))/\U.H[N]?=some (.cells (qr P)) /\
    ∀b k,k<16->qo d' b P k=(decide (k<j)&&(qo d b Y i&&(decide (i<=k)&&qo d b X (k-i))))) (16-i) ?_ ?_
   . refine⟨by simp[e0],by simp[e4],by simp[e5],by simp[e6],by simp[e7],by simp,by simp,by simp[e12],i,d1,qZ,rfl,qyQ _,by omega,by simp,hx0,qDg d1,kz hx.ok,aHX,aHY,aHZ,aHS,aHP,fun b k hk=>?_⟩;rw[yT hx.ok];by_cases h1:k<i
     . have:¬i<=k:=by omega
       simp[this]
     simp[h1]
   rintro n ev ⟨H2,T2⟩ R2 hR2 ⟨e0,e4,e5,e6,e7,e8,e9,e12,j,d2,P,rfl,hij,hj16,e10,hx2,hg2,hP,bX,bY,bZ,bS,bP,hb⟩;have hPl:=hP.1;have hSl2:=hS.1;have hg02:=hg.trans hg2;by_cases hj:j<16
   . have hj':(j:Int)<16:=(by omega);have hj1:j+1<=16:=hj;have hwj:=wr (n:=(j:Int)+1) (by omega) (by omega);have hwd:=wr (n:=(j:Int)-i) (by omega) (by omega);have hsub:(j:Int)-i=((j-i:Nat):Int):=(by omega);rw[hsub]at hwd;have hjl:j-i<16:=(by omega);have hjl1:j-i+1<=16:=(by omega);have hjl2:((j-i:Nat):Int)<16:=(by omega);obtain⟨x,hx1,hx2',hx3⟩:=hX.getG h.ok hg02 hjl;have hdx:=zO hx1;have hyl:y<d2.length:=qyV hy2 hg2.len;generalize hm:j-i=m at *;simp[e10,hj'];rw[qJ rfl];simp[qX,e0,e4,e5,e8,e10,hi',hi1,hsub,hwd,hjl1,hjl2,bX,bY,hXl,hYl,hdx,hdy];refine qCQ (Qs c hx2.self hx2' hyl) ?_;rintro v ⟨H3,T3⟩ ⟨d3,z,rfl,hxx3,hg3,hz,hv3⟩;dsimp only at hv3;have hx3':=hx2.call hxx3;have up:∀{k:Nat} {x:Blk},H.length<=k->H2[k]?=some x->H3[k]?=some x:=fun {k x} hl hq=>hxx3.loc hq (hk k hl)
     have cP:=up (by omega) bP;have hPl3:=(qyF.1 cP).1;simp[qX,e9,e10,hj',hj1,cP,hPl,yR,hwj];refine hR2 (16-(j+1)) _ _ (by omega) ⟨by simp[e0],by simp[e4],by simp[e5],by simp[e6],by simp[e7],by simp[e8],by simp[e9],by simp[e12],j+1,d3,P.set j z,rfl,by omega,by omega,by simp,hx3'.set (by omega) _,hg2.trans hg3,(hP.grown hg3).set hz,?_,?_,?_,?_,qyL hPl3,fun b k hk=>?_⟩
     . rw[qyI (by omega)];exact up (by omega) bX
     . rw[qyI (by omega)];exact up (by omega) bY
     . rw[qyI (by omega)];exact up (by omega) bZ
     . rw[qyI (by omega)];exact up (by omega) bS
     rw[wD (by omega)];by_cases hkj:k=j
     . subst hkj;rw[if_pos rfl,hv3,hx3,hg2.ev hx.ok b hy2,hy3,hm];simp[hij,Bool.and_comm]
     rw[if_neg hkj,zC hx2.ok hg3 hP b hk,hb b k hk];by_cases h1:k<j
     . have h2:k<j+1:=(by omega);simp[h1,h2]
     have h2:¬k<j+1:=(by omega);simp[h1,h2]
   have hj0:j=16:=(by omega);subst hj0;simp[e0,e7,e9,e10,bS,bP,hSl2,hPl,qn hSl2,qn hPl];have ht:=hx2.ok.two;have hSS:=hS.grown hg2;refine qCQ (qdN hx2.self hSS hP (cn:=0) (by omega)) ?_;rintro v ⟨H3,T3⟩ ⟨d3,V,rfl,hxx3,hg3,hV,hv3⟩;dsimp only at hv3;have hx3':=hx2.call hxx3;have up:∀{k:Nat} {x:Blk},H.length<=k->H2[k]?=some x->H3[k]?=some x:=fun {k x} hl hq=>hxx3.loc hq (hk k hl)
   have cS:=up (by omega) bS;have hSl3:=(qyF.1 cS).1;have hVl:=hV.1;simp[e7,e12,cS,hVl,hSl2,zd hVl (show(qr S).length=16 by rw[jq,hSl2]),hw];refine hR _ _ ⟨by simp[e0],by simp[e4],by simp[e5],by simp[e6],by simp[e7],by simp,d3,V,hx3'.set (by omega) _,hg02.trans hg3,hV,?_,?_,?_,qyL hSl3,fun b=>?_⟩
   . rw[qyI (by omega)];exact up (by omega) bX
   . rw[qyI (by omega)];exact up (by omega) bY
   . rw[qyI (by omega)];exact up (by omega) bZ
   have hs:zf (qo d3 b V) 16=zf (fun k=>(qo d2 b S k ^^ qo d2 b P k) ^^ qac (qo d2 b S) (qo d2 b P) false k) 16:=zg fun k hk=>by rw[hv3 b k hk,JB hx2.ok];rfl
   have hp:zf (qo d2 b P) 16=cond (qo d b Y i) ((zf (qo d b X) 16*2^i)%2^16) 0:=by
    cases hy:qo d b Y i with
    | true=>
     rw[cond_true,<- qg4];exact zg fun k hk=>by rw[hb b k hk,hy];simp[hk]
    | false=>
     rw[cond_false];exact yZ fun k hk=>by rw[hb b k hk,hy];simp
   rw[hs,kE,hp,wm hx.ok hg2 hS b,hv b];simp[qpM,b2n]
 rintro ev ⟨H1,T1⟩ ⟨e0,e4,e5,e6,e7,e12,d1,S,hx,hg,hS,hHX,hHY,hHZ,hHS,hv⟩;have hSl:=hS.1;have hHl:=(qyF.1 hHZ).1;simp[-getElem?_pos,e6,e7,e12,hHS,hHZ,hSl,qn hSl,zd hSl (show(qr qZ).length=16 from rfl),qN,hHl];exact⟨d1,S,rfl,hx.set (by omega) _,hg,hS,hv⟩
end
section
variable {c:Bc}{d:List Nd}{H:List Blk}{T:List (Option Nat)}
def qla:List (Nat×Sch×List Nat):=[(4,.step 0 [10,9] (.step 1 [10,9,8] (.step 2 [10,9,8,4,3] (.step 3 [10,9,8,4] (.step 4 [10,9,8] (.step 5 [10,9,8,7,6] (.step 6 [10,9,8,7] (.step 7 [10,9,8] (.step 8 [10,9] (.step 9 [10] (.step 10 [] (.done))))))))))),[8])]
def JM(h:BX c H d H){X Y:List Nat}(hX:qT d X)(hY:qT d Y){g:Nat}{first cap:List AV}{F:(Nat->Bool)->Bool->Bool->Bool}
 (hF:∀d1 H1 T1 (x y:Nat),BX c H d1 H1->qU d d1->x<d1.length->y<d1.length->qf prog (XG c) g (yB first [.int .i64 x,.int .i64 y] cap) ⟨H1,T1⟩ (NQ c d1 H1 fun b=>F b (evD d1 b x) (evD d1 b y))):
 qf prog (XG c) 187 [.agg (qr X),.agg (qr Y),.fn g first cap] ⟨H,T⟩ (BQ c d H fun b k=>F b (qo d b X k) (qo d b Y k)):=by
 refine qCM ⟨false,qla,[],[]⟩ qe func187 rfl (by kernel_rfl) ?_;have hYl:=hY.1;have hk:∀j,H.length<=j->j≠c.B:=fun j hj=>(h.at hj).1
 simp[js];refine yF 16 (fun i ev U=>ev 2=.fn g first cap/\ev 3=.ptr H.length 0/\ev 4=.ptr (H.length+1) 0/\ev 6=.ptr (H.length+2) 0/\ev 8=.int .i64 (i:Int) /\
  ∃ d' W,BX c H d' U.H/\qU d d'/\qT d' W/\U.H[H.length]?=some (.cells (qr W))/\U.H[H.length+1]?=some (.cells (qr Y))/\U.H[H.length+2]?=some (.cells (qr qZ)) /\
   ∀b k,k<16->qo d' b W k=if k<i then F b (qo d b X k) (qo d b Y k) else qo d b X k) ?_ ?_ ?_
 . exact⟨by simp,by simp,by simp,by simp,by simp,d,X,h.app _,qDg d,hX,lk0,lk1,lk2,fun b k hk=>by simp⟩
 . rintro i ev ⟨H1,T1⟩ R hR hi ⟨e2,e3,e4,e6,e8,d1,W,hx,hg,hW,hHX,hHY,hHZ,hb⟩;obtain⟨x,hx1,hx2,_,hx3⟩:=hW.get hi;obtain⟨y,hy1,hy2,hy3⟩:=hY.getG h.ok hg hi;have hWl:=hW.1;have hi':(i:Int)<16:=(by omega);have hi1:i+1<=16:=hi;have hdx:=zO hx1;have hdy:=zO hy1;have hw:=wr (n:=(i:Int)+1) (by omega) (by omega);simp[e8,hi',hi1];rw[qJ rfl];simp[-yB,qX,e2,e3,e4,hi',hi1,hHX,hHY,hWl,hYl,hdx,hdy];refine qCQ (hF d1 H1 T1 x y hx hg hx2 hy2) ?_;rintro v ⟨H2,T2⟩ ⟨d2,z,rfl,hxx2,hg2,hz,hv2⟩;dsimp only at hv2;have hx2':=hx.call hxx2;have up:∀{k:Nat} {x:Blk},H.length<=k->H1[k]?=some x->H2[k]?=some x:=fun {k x} hl hq=>hxx2.loc hq (hk k hl)
   have cX:=up (by omega) hHX;have hl2:=(qyF.1 cX).1;simp[qX,e3,e8,hi',hi1,cX,hWl,yR,hw];refine hR _ _ ⟨by simp[e2],by simp[e3],by simp[e4],by simp[e6],by simp,d2,W.set i z,hx2'.set (by omega) _,hg.trans hg2,(hW.grown hg2).set hz,qyL hl2,?_,?_,fun b k hk=>?_⟩
   . rw[qyI (by omega)];exact up (by omega) hHY
   . rw[qyI (by omega)];exact up (by omega) hHZ
   rw[wD (by omega)];by_cases hki:k=i
   . subst hki;have hbk:=hb b k hk;rw[if_neg (by omega)]at hbk;rw[if_pos rfl,if_pos (by omega),hv2,hy3,<- hx3,hbk]
   rw[if_neg hki,zC hx.ok hg2 hW b hk,hb b k hk];by_cases h1:k<i
   . rw[if_pos h1,if_pos (by omega)]
   rw[if_neg h1,if_neg (by omega)]
 rintro ev ⟨H1,T1⟩ ⟨e2,e3,e4,e6,e8,d1,W,hx,hg,hW,hHX,hHY,hHZ,hb⟩;have hWl:=hW.1;have hHl:=(qyF.1 hHZ).1;simp[-getElem?_pos,e3,e6,e8,hHX,hHZ,hWl,qn hWl,zd hWl (show(qr qZ).length=16 from rfl),qN,hHl];exact⟨d1,W,rfl,hx.set (by omega) _,hg,hW,fun b k hk=>by rw[hb b k hk,if_pos hk]⟩
def qlc:List (Nat×Sch×List Nat):=[(5,.step 0 [5,4] (.step 1 [5,4] (.step 2 [5,4,3] (.step 3 [5,4] (.step 4 [5] (.step 5 [] (.done)))))),[4])]
def qa5{d}(h:DagOk d){n}(hn:n<d.length):qT d (n::List.replicate 15 0):=⟨rfl,fun i hi=>by
 rcases qy9.1 hi with rfl|hi
 . exact hn
 rw[qAx]at hi;rw[hi.2];have:=h.two;omega⟩
def qee{d}(h:DagOk d)(b n k):qo d b (n::List.replicate 15 0) k=(decide (k=0)&&evD d b n):=by
 unfold qo
 cases k with
 |zero=>simp
 | succ k=>
  have:(n::List.replicate 15 0).getD (k+1) 0=0:=by
   simp only[qyS,qBd,qBH];split<;>rfl
  rw[this,JB h];simp
def qpw(h:BX c H d H){X}(hX:qT d X):
 qf prog (XG c) 185 [.ptr c.B 0,.agg (qr X)] ⟨H,T⟩ (UQ c d H fun b=>Vb (qo d b X) 16):=by
 refine qCM ⟨false,qlc,[],[]⟩ qe func185 rfl (by kernel_rfl) ?_;have hXl:=hX.1;have hk:∀j,H.length<=j->j≠c.B:=fun j hj=>(h.at hj).1
 have hc0:=jX 0 (by omega);rw[qeQ]at hc0;simp only[qz1]at hc0;simp;refine qCO hc0 rfl ?_;simp[hXl,qn hXl,js,zd (w:=qZ) rfl (show(qr qZ).length=16 from rfl),qN];refine yF 16 (fun i ev U=>ev 0=.ptr c.B 0/\ev 4=.ptr (H.length+1) 0/\ev 5=.ptr (H.length+2) 0/\ev 9=.agg (qr X)/\ev 10=.int .i64 (i:Int) /\
  ∃ d' S,BX c H d' U.H/\qU d d'/\qT d' S/\U.H[H.length+1]?=some (.cells (qr qZ))/\U.H[H.length+2]?=some (.cells (qr S)) /\
   ∀b,zf (qo d' b S) 16=Vb (qo d b X) i) ?_ ?_ ?_
 . exact⟨by simp,by simp,by simp,by simp,by simp,d,qZ,h.app _,qDg d,kz h.ok,lk1,lk2,fun b=>by rw[yZ fun k _=>yT h.ok b k];rfl⟩
 . rintro i ev ⟨H1,T1⟩ R hR hi ⟨e0,e4,e5,e9,e10,d1,S,hx,hg,hS,hHZ,hHS,hv⟩;obtain⟨x,hx1,hx2,hx3⟩:=hX.getG h.ok hg hi;have hSl:=hS.1;have hi1:i+1<=16:=hi;have hdx:=zO hx1;have hw:=wr (n:=(i:Int)+1) (by omega) (by omega);simp[e9,e10,show(i:Int)<16 by omega,hi1,hXl,hdx];rw[qJ rfl];simp[qX,e0,e5,hHS,hSl,qn hSl];refine qCO (z9 x) rfl ?_;simp[qX,e10];have h1:=qa5 hx.ok hx2;have hs:=qdN hx.self hS h1 (cn:=0) (T:=T1) (by omega);simp only[List.reduceReplicate,qz1]at hs;refine qCQ hs ?_;rintro v ⟨H2,T2⟩ ⟨d2,V,rfl,hxx2,hg2,hV,hv2⟩;dsimp only at hv2;have hx2':=hx.call hxx2;have up:∀{k:Nat} {x:Blk},H.length<=k->H1[k]?=some x->H2[k]?=some x:=fun {k x} hl hq=>hxx2.loc hq (hk k hl)
   have cS:=up (by omega) hHS;have hl2:=(qyF.1 cS).1;have hVl:=hV.1;simp[qX,e5,e10,cS,hVl,hSl,zd hVl (show(qr S).length=16 by rw[jq,hSl]),hw];refine hR _ _ ⟨by simp[e0],by simp[e4],by simp[e5],by simp[e9],by simp,d2,V,hx2'.set (by omega) _,hg.trans hg2,hV,?_,qyL hl2,fun b=>?_⟩
   . rw[qyI (by omega)];exact up (by omega) hHZ
   have e1:zf (qo d2 b V) 16=zf (fun k=>(qo d1 b S k ^^ (decide (k=0)&&evD d1 b x)) ^^ qac (qo d1 b S) (fun k=>decide (k=0)&&evD d1 b x) false k) 16:=zg fun k hk=>by
    rw[hv2 b k hk,JB hx.ok];have:=qee hx.ok b x;simp only[List.reduceReplicate]at this;unfold qnl;rw[this k,ZY (x':=qo d1 b S) (y':=fun k=>decide (k=0)&&evD d1 b x) (fun j _=>rfl) (fun j _=>this j)]
   rw[e1,kE,WS _ 15,hv b,hx3];have:=qeb (qo d b X) i;have h2:b2n (qo d b X i)<=1:=(by cases qo d b X i<;>simp[b2n]);show(Vb _ i+b2n _+0)%2^16=Vb _ i+b2n _;rw[qz8];exact qAw (by omega)
 rintro ev ⟨H1,T1⟩ ⟨e0,e4,e5,e9,e10,d1,S,hx,hg,hS,hHZ,hHS,hv⟩;have hSl:=hS.1;have hHl:=(qyF.1 hHZ).1;simp[-getElem?_pos,e4,e5,e10,hHS,hHZ,hSl,qn hSl,zd hSl (show(qr qZ).length=16 from rfl),qN,hHl];exact⟨d1,S,rfl,hx.set (by omega) _,hg,hS,hv⟩
end
def shB(up:Bool)(x:Nat->Bool)(s k:Nat):Bool:=if up=true then decide (s<=k)&&x (k-s) else decide (k+s<16)&&x (k+s)
def qeP(up:Bool):Int:=if up=true then 1 else -1
def JA(up:Bool)(s k:Nat):Int:=(k:Int)-qeP up*s
def qp5{up s k}(hs:s<16)(hk:k<16)(h:0<=JA up s k/\JA up s k<16):∃m:Nat,JA up s k=m/\m<16/\∀x,shB up x s k=x m:=by
 unfold JA qeP shB at *
 cases up with
 | true=>
  simp at h⊢;exact⟨k-s,by omega,by omega,fun x=>by
   have:s<=k:=by omega
   simp[this]⟩
 | false=>
  simp at h⊢;exact⟨k+s,by omega,by omega,fun x=>by
   have:k+s<16:=by omega
   simp[this]⟩
def qp6{up s k}(hs:s<16)(hk:k<16)(h:¬(0<=JA up s k/\JA up s k<16)):∀x,shB up x s k=false:=by
 unfold JA qeP shB at *;intro x
 cases up with
 | true=>
  simp at h⊢;intro h1;omega
 | false=>
  simp at h⊢;intro h1;omega
def Kf{d}(h:DagOk d)(n:Nat):qT d ((List.range 16).map fun k=>if n.testBit k=true then 1 else 0):=⟨by simp,fun i hi=>by
 obtain⟨k,_,rfl⟩:=qza.1 hi;have:=h.two;split<;>omega⟩
def qde{d}(h:DagOk d)(b)(n:Nat){k}(hk:k<16):qo d b ((List.range 16).map fun k=>if n.testBit k=true then 1 else 0) k=n.testBit k:=by
 unfold qo;have:((List.range 16).map fun k=>if n.testBit k=true then 1 else 0).getD k 0=if n.testBit k=true then 1 else 0:=by
  rw[qyS,qy7,qBr hk];rfl
 rw[this]
 cases n.testBit k with
 |true=>simpa using qda h b
 |false=>simpa using JB h b
def ZU{d}(h:DagOk d)(b){n}(hn:n<65536):zf (qo d b ((List.range 16).map fun k=>if n.testBit k=true then 1 else 0)) 16=n:=by
 rw[zg fun k hk=>qde h b n hk,Ja];exact qAw hn
section
variable {c:Bc}{d:List Nd}{H:List Blk}{T:List (Option Nat)}
def qk4:List (Nat×Sch×List Nat):=[(5,.step 0 [5,4] (.step 1 [5,4] (.step 2 [5,4,3] (.step 3 [5,4] (.step 4 [5] (.step 5 [] (.done)))))),[4]),(11,.step 0 [13,12] (.step 1 [13,12,11] (.step 2 [13,12,11,4,3] (.step 3 [13,12,11,4] (.step 5 [13,12,11,10] (.step 6 [13,12,11,10] (.step 7 [13,12,11,10,9,8] (.step 8 [13,12,11,10,9] (.step 9 [13,12,11,10] (.fork (.cons 4 (.step 10 [13,12,11] (.step 11 [13,12] (.step 12 [13] (.step 13 [] (.done))))) (.cons 10 (.step 4 [13,12,11] (.step 11 [13,12] (.step 12 [13] (.step 13 [] (.done))))) (.nil)))))))))))),[10,11])]
def qdU(h:BX c H d H){X Y}(hX:qT d X)(hY:qT d Y)(up):
 qf prog (XG c) 254 [.ptr c.B 0,.agg (qr X),.agg (qr Y),.int .i64 (qeP up)] ⟨H,T⟩ (BQ c d H fun b k=>decide (zf (qo d b Y) 16<16)&&shB up (qo d b X) (zf (qo d b Y) 16) k):=by
 refine qCM ⟨false,qk4,[],[]⟩ qe func254 rfl (by kernel_rfl) ?_;have hXl:=hX.1;have hYl:=hY.1;have hk:∀j,H.length<=j->j≠c.B:=fun j hj=>(h.at hj).1
 have hc0:=jX 0 (by omega);rw[qeQ]at hc0;simp only[qz1]at hc0;simp;refine qCO hc0 rfl ?_;simp[js,zd (w:=qZ) rfl (show(qr qZ).length=16 from rfl),qN];refine yF 16 (fun s ev U=>ev 0=.ptr c.B 0/\ev 3=.int .i64 (qeP up)/\ev 5=.ptr H.length 0/\ev 6=.ptr (H.length+1) 0/\ev 8=.ptr (H.length+2) 0/\ev 9=.ptr (H.length+3) 0/\ev 15=.int .i64 (s:Int) /\
  ∃ d' S,BX c H d' U.H/\qU d d'/\qT d' S/\U.H[H.length]?=some (.cells (qr X))/\U.H[H.length+1]?=some (.cells (qr Y))/\U.H[H.length+2]?=some (.cells (qr qZ))/\U.H[H.length+3]?=some (.cells (qr S)) /\
   ∀b k,k<16->qo d' b S k=(decide (zf (qo d b Y) 16<s)&&shB up (qo d b X) (zf (qo d b Y) 16) k)) ?_ ?_ ?_
 . exact⟨by simp,by simp,by simp,by simp,by simp,by simp,by simp,d,qZ,h.app _,qDg d,kz h.ok,lk0,lk1,lk2,lk3,fun b k hk=>by rw[yT h.ok];simp⟩
 . rintro s ev ⟨H1,T1⟩ R hR hs ⟨e0,e3,e5,e6,e8,e9,e15,d1,S,hx,hg,hS,hHX,hHY,hHZ,hHS,hb⟩;have hSl:=hS.1;have hw:=wr (n:=(s:Int)+1) (by omega) (by omega);simp[e15,show(s:Int)<16 by omega];rw[qJ rfl];simp[qX,e0,e6,hHY,hYl,qn hYl];refine qCO (jX s (by omega)) rfl ?_;simp[qX];refine qCQ (VA hx.self (hY.grown hg) (Kf hx.ok s)) ?_;rintro v ⟨H2,T2⟩ ⟨d2,t,rfl,hxx2,hg2,ht,hv2⟩;dsimp only at hv2;have hx2':=hx.call hxx2;have up2:∀{k:Nat} {x:Blk},H.length<=k->H1[k]?=some x->H2[k]?=some x:=fun {k x} hl hq=>hxx2.loc hq (hk k hl)
   have htv:∀b,evD d2 b t=decide (zf (qo d b Y) 16=s):=fun b=>by
    rw[hv2,VB,ZU hx.ok b (by omega),wm h.ok hg hY b]
   simp[qX];refine yF 16 (fun i ev U=>ev 0=.ptr c.B 0/\ev 3=.int .i64 (qeP up)/\ev 5=.ptr H.length 0/\ev 6=.ptr (H.length+1) 0/\ev 8=.ptr (H.length+2) 0/\ev 9=.ptr (H.length+3) 0/\ev 10=.int .i64 (s:Int)/\ev 11=.int .i64 (t:Int)/\ev 15=.int .i64 (s:Int)/\ev 23=.int .i64 (i:Int) /\
    ∃ d' P,BX c H d' U.H/\qU d2 d'/\qT d' P/\U.H[H.length]?=some (.cells (qr X))/\U.H[H.length+1]?=some (.cells (qr Y))/\U.H[H.length+2]?=some (.cells (qr qZ))/\U.H[H.length+3]?=some (.cells (qr P)) /\
     ∀b k,k<16->qo d' b P k=(qo d1 b S k||(decide (k<i)&&(evD d2 b t&&shB up (qo d b X) s k)))) ?_ ?_ ?_
   . exact⟨by simp[e0],by simp[e3],by simp[e5],by simp[e6],by simp[e8],by simp[e9],by simp,by simp,by simp[e15],by simp,d2,S,hx2',qDg d2,hS.grown hg2,up2 (by omega) hHX,up2 (by omega) hHY,up2 (by omega) hHZ,up2 (by omega) hHS,fun b k hk=>by rw[zC hx.ok hg2 hS b hk];simp⟩
   . rintro i ev ⟨H3,T3⟩ R2 hR2 hi ⟨e0,e3,e5,e6,e8,e9,e10,e11,e15,e23,d3,P,hx3,hg3,hP,bX,bY,bZ,bS,hpb⟩;have hPl:=hP.1;have hg03:=hg.trans (hg2.trans hg3);have hi':(i:Int)<16:=(by omega);have hi1:i+1<=16:=hi;have hwi:=wr (n:=(i:Int)+1) (by omega) (by omega);have hdm:-16<qeP up*(s:Int)/\qeP up*(s:Int)<16:=(by unfold qeP;cases up<;>simp<;>omega);have hwm:=wr (n:=qeP up*(s:Int)) (by omega) (by omega);have hwf:=wr (n:=(i:Int)-qeP up*s) (by omega) (by omega);have hff:(i:Int)-qeP up*s=JA up s i:=rfl;rw[hff]at hwf;by_cases hrg:0<=JA up s i/\JA up s i<16
     . obtain⟨m,hm,hm16,hmx⟩:=qp5 hs hi hrg;obtain⟨hrg1,hrg2⟩:=hrg;obtain⟨x,hx1,hx2,hx3'⟩:=hX.getG h.ok hg03 hm16;obtain⟨p,hp1,hp2,_,hp4⟩:=hP.get hi;have hdx:=zO hx1;have hdp:=zO hp1;have htl:t<d3.length:=qyV ht hg3.len;have hm1:m+1<=16:=hm16;have hm2:(m:Int)<16:=(by omega);rw[hm]at hwf hrg1 hrg2;rw[hm]at hff;simp[e3,e10,e23,hi',hwm,hff,hwf,hm2];rw[qJ rfl];simp[qX,e0,e5,e9,e11,hi',hi1,hm2,hm1,bX,bS,hXl,hPl,hdx,hdp];have key:=Qs c hx3.self (f:=t) (g:=x) htl hx2 (T:=T3);refine⟨qCQ key ?_,qCQ key ?_⟩
       all_goals
        rintro v ⟨H4,T4⟩ ⟨d4,z,rfl,hxx4,hg4,hz,hv4⟩;dsimp only at hv4;have hx4':=hx3.call hxx4;have up4:∀{k:Nat} {x:Blk},H.length<=k->H3[k]?=some x->H4[k]?=some x:=fun {k x} hl hq=>hxx4.loc hq (hk k hl)
        have cS:=up4 (by omega) bS;simp[qX,hi1,cS,hPl,hdp];refine qCQ (qa4 c hx4'.self (f:=p) (g:=z) (qyV hp2 hg4.len) hz) ?_;rintro v ⟨H5,T5⟩ ⟨d5,y,rfl,hxx5,hg5,hy,hv5⟩;dsimp only at hv5;have hx5':=hx4'.call hxx5;have up5:∀{k:Nat} {x:Blk},H.length<=k->H3[k]?=some x->H5[k]?=some x:=fun {k x} hl hq=>hxx5.loc (up4 hl hq) (hk k hl)
        have cS5:=up5 (by omega) bS;have hl5:=(qyF.1 cS5).1;simp[qX,e9,e23,hi',hi1,cS5,hPl,yR,hwi];refine hR2 _ _ ⟨by simp[e0],by simp[e3],by simp[e5],by simp[e6],by simp[e8],by simp[e9],by simp[e10],by simp[e11],by simp[e15],by simp,d5,P.set i y,hx5'.set (by omega) _,hg3.trans (hg4.trans hg5),(hP.grown (hg4.trans hg5)).set hy,?_,?_,?_,qyL hl5,fun b k hk=>?_⟩
        . rw[qyI (by omega)];exact up5 (by omega) bX
        . rw[qyI (by omega)];exact up5 (by omega) bY
        . rw[qyI (by omega)];exact up5 (by omega) bZ
        rw[wD (by omega)];by_cases hki:k=i
        . subst hki;rw[if_pos rfl,hv5,hg4.ev hx3.ok b hp2,hv4,<- hp4,hpb b k hk,hg3.ev hx2'.ok b ht,hx3',hmx];simp
        rw[if_neg hki,zC hx3.ok (hg4.trans hg5) hP b hk,hpb b k hk];by_cases h1:k<i
        . have h2:k<i+1:=(by omega);simp[h1,h2]
        have h2:¬k<i+1:=(by omega);simp[h1,h2]
     have hno:=qp6 hs hi hrg;have fin:∀ev',ev' 0=.ptr c.B 0->ev' 3=.int .i64 (qeP up)->ev' 5=.ptr H.length 0->ev' 6=.ptr (H.length+1) 0->ev' 8=.ptr (H.length+2) 0->ev' 9=.ptr (H.length+3) 0->ev' 10=.int .i64 (s:Int)->ev' 11=.int .i64 (t:Int)->ev' 15=.int .i64 (s:Int)->ev' 23=.int .i64 (((i+1:Nat)):Int)->R2 ev' ⟨H3,T3⟩:=fun ev' a0 a3 a5 a6 a8 a9 a10 a11 a15 a23=>
      hR2 _ _ ⟨a0,a3,a5,a6,a8,a9,a10,a11,a15,a23,d3,P,hx3,hg3,hP,bX,bY,bZ,bS,fun b k hk=>by
       rw[hpb b k hk];by_cases hki:k=i
       . subst hki;rw[hno];simp
       by_cases h1:k<i
       . have h2:k<i+1:=(by omega);simp[h1,h2]
       have h2:¬k<i+1:=(by omega);simp[h1,h2]⟩
     by_cases h0:0<=JA up s i
     . have h16:¬JA up s i<16:=fun h=>hrg ⟨h0,h⟩
       simp[e3,e10,e23,hi',hwm,hff,hwf,h0,h16,hwi];exact fin _ (by simp[e0]) (by simp[e3]) (by simp[e5]) (by simp[e6]) (by simp[e8]) (by simp[e9]) (by simp[e10]) (by simp[e11]) (by simp[e15]) (by simp)
     simp[e3,e10,e23,hi',hwm,hff,hwf,h0,hwi];exact fin _ (by simp[e0]) (by simp[e3]) (by simp[e5]) (by simp[e6]) (by simp[e8]) (by simp[e9]) (by simp[e10]) (by simp[e11]) (by simp[e15]) (by simp)
   rintro ev ⟨H3,T3⟩ ⟨e0,e3,e5,e6,e8,e9,e10,e11,e15,e23,d3,P,hx3,hg3,hP,bX,bY,bZ,bS,hpb⟩;simp[e15,e23,hw];refine hR _ _ ⟨by simp[e0],by simp[e3],by simp[e5],by simp[e6],by simp[e8],by simp[e9],by simp,d3,P,hx3,hg.trans (hg2.trans hg3),hP,bX,bY,bZ,bS,fun b k hk=>?_⟩;rw[hpb b k hk,hb b k hk,htv b];by_cases h1:zf (qo d b Y) 16=s
   . rw[h1];simp[hk]
   by_cases h2:zf (qo d b Y) 16<s
   . have h3:zf (qo d b Y) 16<s+1:=(by omega);simp[h1,h2,h3]
   have h3:¬zf (qo d b Y) 16<s+1:=(by omega);simp[h1,h2,h3]
 rintro ev ⟨H1,T1⟩ ⟨e0,e3,e5,e6,e8,e9,e15,d1,S,hx,hg,hS,hHX,hHY,hHZ,hHS,hb⟩;have hSl:=hS.1;have hHl:=(qyF.1 hHZ).1;simp[-getElem?_pos,e8,e9,e15,hHS,hHZ,hSl,qn hSl,zd hSl (show(qr qZ).length=16 from rfl),qN,hHl];exact⟨d1,S,rfl,hx.set (by omega) _,hg,hS,hb⟩
end
def qnT(x:Nat):List Nat->Bool
 |a::b::r=>(decide (a<=x)&&decide (x<=b))||qnT x r
 |_=>false
def Y0{Ws:List (List Nat)}(h:∀w∈Ws,w.length=16):(Ws.flatMap qr).length=Ws.length*16:=by
 induction Ws with
 |nil=>rfl
 |cons a r ih=>rw[qy5,qyK,jq,h a (by simp),ih fun w hw=>h w (by simp[hw]),qyY];omega
def qbG:∀{Ws:List (List Nat)}{i:Nat}{w:List Nat},(∀w∈Ws,w.length=16)->Ws[i]?=some w->((Ws.flatMap qr).drop (i*16)).take 16=qr w
 |[],i,w,_,hw=>by simp at hw
 | a::r,0,w,h,hw=>by
  simp at hw;subst hw;have ha:=h a (by simp);rw[qy5,qAl,qzX,qzL (by rw[jq,ha];exact qyQ _),qn ha]
 | a::r,i+1,w,h,hw=>by
  have ha:=h a (by simp);have hal:(qr a).length=16:=by rw[jq,ha]
  have ih:=qbG (Ws:=r) (i:=i) (w:=w) (fun w hw=>h w (by simp[hw])) (by simpa using hw);have e:(i+1)*16=16+i*16:=by omega
  rw[qy5,e,qAy,qzf (by omega),hal,qy2,qzF,ih]
section
variable {c:Bc}{d:List Nd}{H:List Blk}{T:List (Option Nat)}
def qlb:List (Nat×Sch×List Nat):=[(5,.step 0 [9,8] (.step 1 [9,8,7] (.step 2 [9,8,7] (.step 3 [9,8,7,6,5] (.step 4 [9,8,7,6,5] (.step 5 [9,8,7,6] (.step 6 [9,8,7] (.step 7 [9,8] (.step 8 [9] (.step 9 [] (.done)))))))))),[7,8]),(6,.step 0 [10,9] (.step 1 [10,9,8] (.step 2 [10,9,8,6,5] (.step 3 [10,9,8,6,5,4] (.step 4 [10,9,8,6,5] (.step 5 [10,9,8,6] (.step 6 [10,9,8] (.step 7 [10,9,8] (.step 8 [10,9] (.step 9 [10] (.step 10 [] (.done))))))))))),[8,9])]
def qiu(h:BX c H d H){X}(hX:qT d X){A V}{Ws:List (List Nat)}(hV:V.length=16)(hWs:∀w∈Ws,qT d w)(hA:H[A]?=some (.cells (qr V++Ws.flatMap qr)))(hAB:A≠c.B)(hn:Ws.length<=1000):
 qf prog (XG c) 186 [.ptr c.B 0,.agg (qr X),.ms A 16 Ws.length 16] ⟨H,T⟩ (NQ c d H fun b=>qnT (zf (qo d b X) 16) (Ws.map fun w=>zf (qo d b w) 16)):=by
 refine qCM ⟨false,qlb,[],[]⟩ qe func186 rfl (by kernel_rfl) ?_;have hXl:=hX.1;have hk:∀j,H.length<=j->j≠c.B:=fun j hj=>(h.at hj).1
 have hW16:∀w∈Ws,w.length=16:=fun w hw=>(hWs w hw).1
 have hCl:(qr V++Ws.flatMap qr).length=16+Ws.length*16:=by rw[qyK,jq,hV,Y0 hW16]
 have hcut:∀{i:Nat} {w:List Nat},Ws[i]?=some w->((qr V++Ws.flatMap qr).drop (16+i*16)).take 16=qr w:=fun {i w} hw=>by
  have hv:(qr V).length=16:=by rw[jq,hV]
  rw[qAy,qzf (by omega),qy2,hv,qzF];exact qbG hW16 hw
 have hVal:∀{d':List Nd} {w:List Nat},qU d d'->w∈Ws->∀b,zf (qo d' b w) 16=zf (qo d b w) 16:=fun {d' w} hg hw b=>wm h.ok hg (hWs w hw) b
 generalize hC:qr V++Ws.flatMap qr=C at *;simp;refine qCR (fun n ev U=>ev 0=.ptr c.B 0/\ev 2=.ms A 16 Ws.length 16/\ev 4=.ptr H.length 0 /\
  ∃ i d' t,n=Ws.length+1-i/\i<=Ws.length/\ev 8=.int .i64 (i:Int)/\ev 7=.int .i64 (t:Nat)/\BX c H d' U.H/\qU d d'/\t<d'.length/\U.H[H.length]?=some (.cells (qr X))/\U.H[A]?=some (.cells C) /\
   ∀b,(evD d' b t||qnT (zf (qo d b X) 16) ((Ws.drop i).map fun w=>zf (qo d b w) 16))=qnT (zf (qo d b X) 16) (Ws.map fun w=>zf (qo d b w) 16)) (Ws.length+1) ?_ ?_
 . exact⟨by simp,by simp,by simp,0,d,0,rfl,by omega,by simp,by simp,h.app _,qDg d,by have:=h.ok.two;omega,lk0,qa hA _,fun b=>by rw[JB h.ok];simp⟩
 rintro n ev ⟨H1,T1⟩ R hR ⟨e0,e2,e4,i,d1,t,rfl,hi,e8,e7,hx,hg,ht,bX,bA,hv⟩;have hw1:=wr (n:=(i:Int)+1) (by omega) (by omega);have hw2:=wr (n:=(i:Int)+2) (by omega) (by omega);by_cases hlt:i+1<Ws.length
 . have hlt':(i:Int)+1<Ws.length:=(by omega);have hi1:i<Ws.length:=(by omega);obtain⟨w0,hw0⟩:∃w,Ws[i]?=some w:=⟨_,qyH hi1⟩;obtain⟨w1,hw1'⟩:∃w,Ws[i+1]?=some w:=⟨_,qyH hlt⟩;have m0:=qyG hw0;have m1:=qyG hw1';have c0:=hcut hw0;have c1:=hcut hw1';have b0:16+i*16+16<=C.length:=(by rw[hCl];omega);have b1:16+(i+1)*16+16<=C.length:=(by rw[hCl];omega);rw[hCl]at b0 b1;have hdrop:Ws.drop i=w0::w1::Ws.drop (i+2):=by
    rw[qy1 hi1,qy1 hlt];obtain⟨_,q0⟩:=qyF.1 hw0;obtain⟨_,q1⟩:=qyF.1 hw1';rw[q0,q1]
   simp[e2,e8,hw1,hlt'];rw[qJ rfl];simp[qX,e0,e2,e4,e8,show(i:Int)<Ws.length by omega,bX,bA,hXl,qn hXl,hCl,b0,c0];refine qCQ (Vn hx.self (hX.grown hg) ((hWs w0 m0).grown hg)) ?_;rintro v ⟨H2,T2⟩ ⟨d2,y2,rfl,hxx2,hg2,hy2,hv2⟩;dsimp only at hv2;have hx2:=hx.call hxx2;simp[qX,e8];refine qCQ (Qp c hx2.self hy2) ?_;rintro v ⟨H3,T3⟩ ⟨d3,y3,rfl,hxx3,hg3,hy3,hv3⟩;dsimp only at hv3;have hx3:=hx2.call hxx3;have cX:=hxx3.loc (hxx2.loc bX (hk _ (qyQ _))) (hk _ (qyQ _));have cA:=hxx3.loc (hxx2.loc bA hAB) hAB;have hg23:=hg2.trans hg3;have hg03:=hg.trans hg23;simp[e8];rw[qJ rfl];simp[qX,e0,e2,e4,e8,hw1,hlt',show(0:Int)<=(i:Int)+1 by omega,show((i:Int)+1).toNat=i+1 by omega,cX,cA,hXl,qn hXl,hCl,b1,c1];refine qCQ (Vn hx3.self ((hWs w1 m1).grown hg03) (hX.grown hg03)) ?_;rintro v ⟨H4,T4⟩ ⟨d4,y4,rfl,hxx4,hg4,hy4,hv4⟩;dsimp only at hv4;have hx4:=hx3.call hxx4;simp[qX,e8];refine qCQ (Qp c hx4.self hy4) ?_;rintro v ⟨H5,T5⟩ ⟨d5,y5,rfl,hxx5,hg5,hy5,hv5⟩;dsimp only at hv5;have hx5:=hx4.call hxx5;simp[qX,e0,e7];have hg35:=hg4.trans hg5;refine qCQ (Qs c hx5.self (f:=y3) (g:=y5) (qyV hy3 hg35.len) hy5) ?_;rintro v ⟨H6,T6⟩ ⟨d6,y6,rfl,hxx6,hg6,hy6,hv6⟩;dsimp only at hv6;have hx6:=hx5.call hxx6;simp[e8];have hg16:=hg23.trans (hg35.trans hg6);refine qCQ (qa4 c hx6.self (f:=t) (g:=y6) (qyV ht hg16.len) hy6) ?_;rintro v ⟨H7,T7⟩ ⟨d7,y7,rfl,hxx7,hg7,hy7,hv7⟩;dsimp only at hv7;have hx7:=hx6.call hxx7;have up:∀{k:Nat} {x:Blk},k≠c.B->H3[k]?=some x->H7[k]?=some x:=fun {k x} hl hq=>hxx7.loc (hxx6.loc (hxx5.loc (hxx4.loc hq hl) hl) hl) hl
   simp[e8,hw2];refine hR (Ws.length+1-(i+2)) _ _ (by omega) ⟨by simp[e0],by simp[e2],by simp[e4],i+2,d7,y7,rfl,by omega,by simp,by simp,hx7,hg.trans (hg16.trans hg7),hy7,up (hk _ (qyQ _)) cX,up hAB cA,fun b=>?_⟩;rw[<- hv b,hdrop];simp only[qyR,qnT];have hXv:∀{d'},qU d d'->zf (qo d' b X) 16=zf (qo d b X) 16:=fun hg'=>wm h.ok hg' hX b
   rw[hv7,hg16.ev hx.ok b ht,hv6,hg35.ev hx3.ok b hy3,hv3,hv2,vZ,hXv hg,hVal hg m0 b,hv5,hv4,vZ,hXv hg03,hVal hg03 m1 b];generalize zf (qo d b X) 16=vx;generalize zf (qo d b w0) 16=v0;generalize zf (qo d b w1) 16=v1;rw[show(!decide (vx<v0))=decide (v0<=vx) by rw[qzz];simp,show(!decide (v1<vx))=decide (vx<=v1) by rw[qzz];simp,Bool.or_assoc]
 have hlt':¬(i:Int)+1<Ws.length:=by omega
 simp[e2,e7,e8,hw1,hlt'];refine⟨d1,t,rfl,hx,hg,ht,fun b=>?_⟩;refine Eq.trans ?_ (hv b);have:qnT (zf (qo d b X) 16) ((Ws.drop i).map fun w=>zf (qo d b w) 16)=false:=by
  have hl:((Ws.drop i).map fun w=>zf (qo d b w) 16).length<=1:=by simp;omega
  generalize ((Ws.drop i).map fun w=>zf (qo d b w) 16)=l at hl
  match l,hl with
  |[],_=>rfl
  |[_],_=>rfl
 rw[this,Bool.or_false]
end
def Vc{d}(h:DagOk d)(b n):zP d b (n::List.replicate 15 0)=b2i (evD d b n):=by
 unfold zP;rw[zg fun k _=>qee h b n k,qhZ]
section
variable {c:Bc}{d:List Nd}{H:List Blk}{T:List (Option Nat)}
def qlL(h:BX c H d H){X Y}(hX:qT d X)(hY:qT d Y)(op):
 qf prog (XG c) 255 [.ptr c.B 0,.int .i64 op,.agg (qr X),.agg (qr Y)] ⟨H,T⟩ (WQ c d H fun b=>b2i (if op=19 then Zq (qo d b X) 16&&Zq (qo d b Y) 16 else if op=20 then Zq (qo d b X) 16||Zq (qo d b Y) 16 else !Zq (qo d b X) 16||Zq (qo d b Y) 16)):=by
 refine qCN qe func255 rfl (by kernel_rfl) ?_;have hXl:=hX.1;have hYl:=hY.1;have hk:∀j,H.length<=j->j≠c.B:=fun j hj=>(h.at hj).1
 simp[js];have hx1:=h.app [.cells (qr X),.cells (qr Y),.cells (qr qZ)];have bY:(H++[Blk.cells (qr X),.cells (qr Y),.cells (qr qZ)])[H.length+1]?=some (.cells (qr Y)):=lk1;have bZ:(H++[Blk.cells (qr X),.cells (qr Y),.cells (qr qZ)])[H.length+2]?=some (.cells (qr qZ)):=lk2;generalize H++[Blk.cells (qr X),.cells (qr Y),.cells (qr qZ)]=H1 at *;simp[hXl,qn hXl];refine qCQ (vU hx1.self hX) ?_;rintro v ⟨H2,T2⟩ ⟨d2,s,rfl,hxx2,hg2,hs,hv2⟩;have hx2:=hx1.call hxx2;have cY:=hxx2.loc bY (hk _ (by omega));have cZ:=hxx2.loc bZ (hk _ (by omega));simp[cY,hYl,qn hYl];refine qCQ (vU hx2.self (hY.grown hg2)) ?_;rintro v ⟨H3,T3⟩ ⟨d3,t,rfl,hxx3,hg3,ht,hv3⟩;dsimp only at hv3;have hx3:=hx2.call hxx3;have eZ:=hxx3.loc cZ (hk _ (by omega));dsimp only at eZ;have hs3:s<d3.length:=qyV hs hg3.len;have hs3v:∀b,evD d3 b s=Zq (qo d b X) 16:=fun b=>by rw[hg3.ev hx2.ok b hs,hv2]
 have ht3v:∀b,evD d3 b t=Zq (qo d b Y) 16:=fun b=>by
  rw[hv3,Zp,Zp,wm h.ok hg2 hY b]
 have hg03:=hg2.trans hg3;have fin:∀{H4:List Blk} {d4:List Nd} {u:Nat} {τ:St} {v:(Nat->Bool)->Bool},τ.H=H4.set (H.length+2) (.cells (qr (u::List.replicate 15 0)))->BX c H d4 H4->qU d3 d4->u<d4.length->(∀b,evD d4 b u=v b)->WQ c d H (fun b=>b2i (v b)) (.agg (qr (u::List.replicate 15 0))) τ:=fun {H4 d4 u τ v} hτ hx4 hg4 hu hv=>by
  refine⟨d4,_,rfl,?_,hg03.trans hg4,qa5 hx4.ok hu,fun b=>by rw[Vc hx4.ok,hv]⟩;rw[hτ];exact hx4.set (by omega) _
 have cut1:∀(u:Nat),(qr (u::List.replicate 15 0)).take 16=qr (u::List.replicate 15 0):=fun u=>qn rfl
 have put1:∀(u:Nat),zj (qr qZ) 0 (qr (u::List.replicate 15 0))=qr (u::List.replicate 15 0):=fun u=>zd rfl rfl
 simp only[List.reduceReplicate]at fin cut1 put1;by_cases h19:op=19
 . simp[h19];refine qCQ (Qs c hx3.self (f:=s) (g:=t) hs3 ht) ?_;rintro v ⟨H4,T4⟩ ⟨d4,u,rfl,hxx4,hg4,hu,hv4⟩;dsimp only at hv4;have gZ:=hxx4.loc eZ (hk _ (by omega));have hl:=(qyF.1 gZ).1;dsimp only at gZ hl;simp;refine qCO (z9 u) rfl ?_;simp[-getElem?_pos,gZ,qN,put1,hl,cut1];exact fin rfl (hx3.call hxx4) hg4 hu fun b=>by rw[hv4,hs3v,ht3v]
 by_cases h20:op=20
 . simp[h20];refine qCQ (qa4 c hx3.self (f:=s) (g:=t) hs3 ht) ?_;rintro v ⟨H4,T4⟩ ⟨d4,u,rfl,hxx4,hg4,hu,hv4⟩;dsimp only at hv4;have gZ:=hxx4.loc eZ (hk _ (by omega));have hl:=(qyF.1 gZ).1;dsimp only at gZ hl;simp;refine qCO (z9 u) rfl ?_;simp[-getElem?_pos,gZ,qN,put1,hl,cut1];exact fin rfl (hx3.call hxx4) hg4 hu fun b=>by rw[hv4,hs3v,ht3v]
 simp[h19,h20];refine qCQ (Qp c hx3.self hs3) ?_;rintro v ⟨H4,T4⟩ ⟨d4,q,rfl,hxx4,hg4,hq,hv4⟩;dsimp only at hv4;have hx4:=hx3.call hxx4;simp;refine qCQ (qa4 c hx4.self (f:=q) (g:=t) hq (qyV ht hg4.len)) ?_;rintro v ⟨H5,T5⟩ ⟨d5,u,rfl,hxx5,hg5,hu,hv5⟩;dsimp only at hv5;have gZ:=hxx5.loc (hxx4.loc eZ (hk _ (by omega))) (hk _ (by omega));have hl:=(qyF.1 gZ).1;dsimp only at gZ hl;simp;refine qCO (z9 u) rfl ?_;simp[-getElem?_pos,gZ,qN,put1,hl,cut1];exact fin rfl (hx4.call hxx5) (hg4.trans hg5) hu fun b=>by rw[hv5,hv4,hs3v,hg4.ev hx3.ok b ht,ht3v]
end
def quQ(op a b:Int):Int:=if op=15 then b2i (decide (a=b)) else if op=16 then b2i (!decide (a=b)) else if op=17 then b2i (decide (a<b)) else b2i (decide (a<=b))
section
variable {c:Bc}{d:List Nd}{H:List Blk}{T:List (Option Nat)}
def qn3{d b X Y}:eqT (qo d b X) (qo d b Y) 16=decide (zP d b X=zP d b Y):=by
 rw[VB,qzz,decide_eq_true_iff,decide_eq_true_iff];unfold zP;omega
def qel{d b X Y}:qcT (qo d b X) (qo d b Y) 16=decide (zP d b X<zP d b Y):=by
 rw[vZ,qzz,decide_eq_true_iff,decide_eq_true_iff];unfold zP;omega
def VJ(h:BX c H d H){X Y}(hX:qT d X)(hY:qT d Y)(op):
 qf prog (XG c) 256 [.ptr c.B 0,.int .i64 op,.agg (qr X),.agg (qr Y)] ⟨H,T⟩ (WQ c d H fun b=>quQ op (zP d b X) (zP d b Y)):=by
 refine qCN qe func256 rfl (by kernel_rfl) ?_;have hXl:=hX.1;have hYl:=hY.1;have hk:∀j,H.length<=j->j≠c.B:=fun j hj=>(h.at hj).1
 simp[js];have hx1:=h.app [.cells (qr X),.cells (qr Y),.cells (qr qZ)];have bX:(H++[Blk.cells (qr X),.cells (qr Y),.cells (qr qZ)])[H.length]?=some (.cells (qr X)):=lk0;have bY:(H++[Blk.cells (qr X),.cells (qr Y),.cells (qr qZ)])[H.length+1]?=some (.cells (qr Y)):=lk1;have bZ:(H++[Blk.cells (qr X),.cells (qr Y),.cells (qr qZ)])[H.length+2]?=some (.cells (qr qZ)):=lk2;generalize H++[Blk.cells (qr X),.cells (qr Y),.cells (qr qZ)]=H1 at *;have fin:∀{H4:List Blk} {d4:List Nd} {u:Nat} {τ:St} {v:(Nat->Bool)->Int},τ.H=H4.set (H.length+2) (.cells (qr (u::List.replicate 15 0)))->BX c H d4 H4->qU d d4->u<d4.length->(∀b,b2i (evD d4 b u)=v b)->WQ c d H v (.agg (qr (u::List.replicate 15 0))) τ:=fun {H4 d4 u τ v} hτ hx4 hg4 hu hv=>by
  refine⟨d4,_,rfl,?_,hg4,qa5 hx4.ok hu,fun b=>by rw[Vc hx4.ok,hv]⟩;rw[hτ];exact hx4.set (by omega) _
 have cut1:∀(u:Nat),(qr (u::List.replicate 15 0)).take 16=qr (u::List.replicate 15 0):=fun u=>qn rfl
 have put1:∀(u:Nat),zj (qr qZ) 0 (qr (u::List.replicate 15 0))=qr (u::List.replicate 15 0):=fun u=>zd rfl rfl
 simp only[List.reduceReplicate]at fin cut1 put1;by_cases h15:op=15
 . simp[h15,bX,bY,hXl,hYl,qn hXl,qn hYl];refine qCQ (VA hx1.self hX hY) ?_;rintro v ⟨H4,T4⟩ ⟨d4,u,rfl,hxx4,hg4,hu,hv4⟩;dsimp only at hv4;have gZ:=hxx4.loc bZ (hk _ (by omega));have hl:=(qyF.1 gZ).1;dsimp only at gZ hl;simp;refine qCO (z9 u) rfl ?_;simp[-getElem?_pos,gZ,qN,put1,hl,cut1];exact fin rfl (hx1.call hxx4) hg4 hu fun b=>by rw[hv4,qn3];rfl
 by_cases h16:op=16
 . simp[h16,bX,bY,hXl,hYl,qn hXl,qn hYl];refine qCQ (VA hx1.self hX hY) ?_;rintro v ⟨H4,T4⟩ ⟨d4,u,rfl,hxx4,hg4,hu,hv4⟩;dsimp only at hv4;have hx4:=hx1.call hxx4;simp;refine qCQ (Qp c hx4.self hu) ?_;rintro v ⟨H5,T5⟩ ⟨d5,u5,rfl,hxx5,hg5,hu5,hv5⟩;dsimp only at hv5;have gZ:=hxx5.loc (hxx4.loc bZ (hk _ (by omega))) (hk _ (by omega));have hl:=(qyF.1 gZ).1;dsimp only at gZ hl;simp;refine qCO (z9 u5) rfl ?_;simp[-getElem?_pos,gZ,qN,put1,hl,cut1];exact fin rfl (hx4.call hxx5) (hg4.trans hg5) hu5 fun b=>by rw[hv5,hv4,qn3];rfl
 by_cases h17:op=17
 . simp[h17,bX,bY,hXl,hYl,qn hXl,qn hYl];refine qCQ (Vn hx1.self hX hY) ?_;rintro v ⟨H4,T4⟩ ⟨d4,u,rfl,hxx4,hg4,hu,hv4⟩;dsimp only at hv4;have gZ:=hxx4.loc bZ (hk _ (by omega));have hl:=(qyF.1 gZ).1;dsimp only at gZ hl;simp;refine qCO (z9 u) rfl ?_;simp[-getElem?_pos,gZ,qN,put1,hl,cut1];exact fin rfl (hx1.call hxx4) hg4 hu fun b=>by rw[hv4,qel];rfl
 simp[h15,h16,h17,bX,bY,hXl,hYl,qn hXl,qn hYl];refine qCQ (Vn hx1.self hY hX) ?_;rintro v ⟨H4,T4⟩ ⟨d4,u,rfl,hxx4,hg4,hu,hv4⟩;dsimp only at hv4;have hx4:=hx1.call hxx4;simp;refine qCQ (Qp c hx4.self hu) ?_;rintro v ⟨H5,T5⟩ ⟨d5,u5,rfl,hxx5,hg5,hu5,hv5⟩;dsimp only at hv5;have gZ:=hxx5.loc (hxx4.loc bZ (hk _ (by omega))) (hk _ (by omega));have hl:=(qyF.1 gZ).1;dsimp only at gZ hl;simp;refine qCO (z9 u5) rfl ?_;simp[-getElem?_pos,gZ,qN,put1,hl,cut1];exact fin rfl (hx4.call hxx5) (hg4.trans hg5) hu5 fun b=>by
  rw[hv5,hv4,qel];unfold quQ;rw[if_neg h15,if_neg h16,if_neg h17];congr 1;rw[qzz];simp
def qcO{d2 b V x y ci}(h:∀k,k<16->qo d2 b V k=qnl x y ci k):zP d2 b V=(((zf x 16+zf y 16+b2n ci)%2^16:Nat):Int):=by
 unfold zP;rw[zg h,<- kE];rfl
def qpD{d d2 b V X Y}(h:∀k,k<16->qo d2 b V k=(decide (zf (qo d b Y) 16<16)&&shB true (qo d b X) (zf (qo d b Y) 16) k)):zP d2 b V=yK 13 (zP d b X) (zP d b Y):=by
 rw[show yK 13 (zP d b X) (zP d b Y)=if 0<=zP d b Y/\zP d b Y<16 then qM (zP d b X*2^(zP d b Y).toNat) else 0 by simp[yK]];by_cases hs:zf (qo d b Y) 16<16
 . rw[if_pos ⟨by unfold zP;omega,by unfold zP;omega⟩];have:zP d2 b V=((zf (qo d b X) 16*2^zf (qo d b Y) 16%2^16:Nat):Int):=by
    unfold zP;rw[<- qg4,zg fun k hk=>by rw[h k hk,decide_eq_true hs,qzN,shB,if_pos rfl]]
   rw[this,qu9];rfl
 rw[if_neg (by unfold zP;omega)];unfold zP;rw[yZ fun k hk=>by rw[h k hk,decide_eq_false hs];rfl];rfl
def qpC{d d2 b V X Y}(h:∀k,k<16->qo d2 b V k=(decide (zf (qo d b Y) 16<16)&&shB false (qo d b X) (zf (qo d b Y) 16) k)):zP d2 b V=yK 14 (zP d b X) (zP d b Y):=by
 rw[show yK 14 (zP d b X) (zP d b Y)=if 0<=zP d b Y/\zP d b Y<16 then qM (zP d b X)/2^(zP d b Y).toNat else 0 by simp[yK]];by_cases hs:zf (qo d b Y) 16<16
 . rw[if_pos ⟨by unfold zP;omega,by unfold zP;omega⟩];have:zP d2 b V=((zf (qo d b X) 16/2^zf (qo d b Y) 16:Nat):Int):=by
    unfold zP;rw[<- qg5,zg fun k hk=>by rw[h k hk,decide_eq_true hs,qzN,shB,if_neg (by simp)]]
   rw[this,qu8];rfl
 rw[if_neg (by unfold zP;omega)];unfold zP;rw[yZ fun k hk=>by rw[h k hk,decide_eq_false hs];rfl];rfl
def qjH(h:BX c H d H){X Y}(hX:qT d X)(hY:qT d Y){op}(h7:7<=op)(h21:op<=21):
 qf prog (XG c) 190 [.ptr c.B 0,.int .i64 op,.agg (qr X),.agg (qr Y)] ⟨H,T⟩ (WQ c d H fun b=>yK op (zP d b X) (zP d b Y)):=by
 refine qCN qe func190 rfl (by kernel_rfl) ?_;have hXl:=hX.1;have hYl:=hY.1;have hk:∀j,H.length<=j->j≠c.B:=fun j hj=>(h.at hj).1
 simp[js];have hx1:=h.app [.cells (qr X),.cells (qr Y),.cells (qr qZ)];have bY:(H++[Blk.cells (qr X),.cells (qr Y),.cells (qr qZ)])[H.length+1]?=some (.cells (qr Y)):=lk1;have bZ:(H++[Blk.cells (qr X),.cells (qr Y),.cells (qr qZ)])[H.length+2]?=some (.cells (qr qZ)):=lk2;generalize H++[Blk.cells (qr X),.cells (qr Y),.cells (qr qZ)]=H1 at *;have fin:∀{H4:List Blk} {d4:List Nd} {V:List Nat} {τ:St} {v:(Nat->Bool)->Int},τ.H=H4.set (H.length+2) (.cells (qr V))->BX c H d4 H4->qU d d4->qT d4 V->(∀b,zP d4 b V=v b)->WQ c d H v (.agg (qr V)) τ:=fun {H4 d4 V τ v} hτ hx4 hg4 hV hv=>by
  refine⟨d4,_,rfl,?_,hg4,hV,hv⟩;rw[hτ];exact hx4.set (by omega) _
 have ht:=h.ok.two;have t0:∀op T,15<=op/\op<=18->qf prog (XG c) 256 [.ptr c.B 0,.int .i64 op,.agg (qr X),.agg (qr Y)] ⟨H1,T⟩ (WQ c d H1 fun b=>yK op (zP d b X) (zP d b Y)):=fun op T ho=>by
  have:=VJ hx1.self hX hY op (T:=T);have e:(fun b=>quQ op (zP d b X) (zP d b Y))=fun b=>yK op (zP d b X) (zP d b Y):=by
   funext b;obtain rfl|rfl|rfl|rfl:op=15\/op=16\/op=17\/op=18:=by omega
   all_goals simp[quQ,yK]
  rwa[e]at this
 have t1:∀op T,19<=op/\op<=21->qf prog (XG c) 255 [.ptr c.B 0,.int .i64 op,.agg (qr X),.agg (qr Y)] ⟨H1,T⟩ (WQ c d H1 fun b=>yK op (zP d b X) (zP d b Y)):=fun op T ho=>by
  have:=qlL hx1.self hX hY op (T:=T);have e:(fun b=>b2i (if op=19 then Zq (qo d b X) 16&&Zq (qo d b Y) 16 else if op=20 then Zq (qo d b X) 16||Zq (qo d b Y) 16 else !Zq (qo d b X) 16||Zq (qo d b Y) 16))=fun b=>yK op (zP d b X) (zP d b Y):=by
   funext b;rw[vt,vt];obtain rfl|rfl|rfl:op=19\/op=20\/op=21:=by omega
   all_goals simp[yK,zP]
  rwa[e]at this
 have k7:=(qdN hx1.self hX hY (cn:=0) (T:=T) (by omega)).imp (Q':=WQ c d H1 fun b=>yK 7 (zP d b X) (zP d b Y)) (fun v U ⟨d4,V,e,hx,hg,hV,hv⟩=>⟨d4,V,e,hx,hg,hV,fun b=>by
  rw[qcO (hv b),JB h.ok,<- kE,qvc];rfl⟩)
 have k8:=(Zh hx1.self hX hY (T:=T)).imp (Q':=WQ c d H1 fun b=>yK 8 (zP d b X) (zP d b Y)) (fun v U ⟨d4,V,e,hx,hg,hV,hv⟩=>⟨d4,V,e,hx,hg,hV,fun b=>by
  rw[qcO (hv b),<- kE,qrG];rfl⟩)
 have k9:=(qfI hx1.self hX hY (T:=T)).imp (Q':=WQ c d H1 fun b=>yK 9 (zP d b X) (zP d b Y)) (fun v U ⟨d4,V,e,hx,hg,hV,hv⟩=>⟨d4,V,e,hx,hg,hV,fun b=>by
  have hvb:=hv b;dsimp only at hvb;unfold zP;rw[hvb,qbc,qva];rfl⟩)
 have k10:=(JM hx1.self hX hY (T:=T) (g:=250) (first:=[.ptr c.B 0]) (cap:=[]) (F:=fun _ p q=>p&&q) (fun d1 H1 T1 x y hx hg a b=>Qs c hx.self a b)).imp (Q':=WQ c d H1 fun b=>yK 10 (zP d b X) (zP d b Y)) (fun v U ⟨d4,V,e,hx,hg,hV,hv⟩=>⟨d4,V,e,hx,hg,hV,fun b=>by
  unfold zP;rw[zg (hv b),qkC];rfl⟩)
 have k11:=(JM hx1.self hX hY (T:=T) (g:=178) (first:=[.ptr c.B 0]) (cap:=[]) (F:=fun _ p q=>p||q) (fun d1 H1 T1 x y hx hg a b=>qa4 c hx.self a b)).imp (Q':=WQ c d H1 fun b=>yK 11 (zP d b X) (zP d b Y)) (fun v U ⟨d4,V,e,hx,hg,hV,hv⟩=>⟨d4,V,e,hx,hg,hV,fun b=>by
  unfold zP;rw[zg (hv b),qoN];rfl⟩)
 have k12:=(JM hx1.self hX hY (T:=T) (g:=253) (first:=[.ptr c.B 0]) (cap:=[]) (F:=fun _ p q=>p ^^ q) (fun d1 H1 T1 x y hx hg a b=>qae c hx.self a b)).imp (Q':=WQ c d H1 fun b=>yK 12 (zP d b X) (zP d b Y)) (fun v U ⟨d4,V,e,hx,hg,hV,hv⟩=>⟨d4,V,e,hx,hg,hV,fun b=>by
  unfold zP;rw[zg (hv b),qkB];rfl⟩)
 have k13:=(qdU hx1.self hX hY true (T:=T)).imp (Q':=WQ c d H1 fun b=>yK 13 (zP d b X) (zP d b Y)) (fun v U ⟨d4,V,e,hx,hg,hV,hv⟩=>⟨d4,V,e,hx,hg,hV,fun b=>qpD (hv b)⟩);have k14:=(qdU hx1.self hX hY false (T:=T)).imp (Q':=WQ c d H1 fun b=>yK 14 (zP d b X) (zP d b Y)) (fun v U ⟨d4,V,e,hx,hg,hV,hv⟩=>⟨d4,V,e,hx,hg,hV,fun b=>qpC (hv b)⟩);have k15:=t0 15 T (by omega);have k16:=t0 16 T (by omega);have k17:=t0 17 T (by omega);have k18:=t0 18 T (by omega);have k19:=t1 19 T (by omega);have k20:=t1 20 T (by omega);have k21:=t1 21 T (by omega);simp only[qz1,qeP,if_true,qy4,if_false]at k7 k13 k14;have hcases:op=7\/op=8\/op=9\/op=10\/op=11\/op=12\/op=13\/op=14\/op=15\/op=16\/op=17\/op=18\/op=19\/op=20\/op=21:=by omega
 rcases hcases with rfl|rfl|rfl|rfl|rfl|rfl|rfl|rfl|rfl|rfl|rfl|rfl|rfl|rfl|rfl
 all_goals
  simp[bY,hXl,hYl,qn hXl,qn hYl];refine qCQ (by assumption) ?_;rintro v ⟨H4,T4⟩ ⟨d4,V,rfl,hxx4,hg4,hV,hv4⟩;have gZ:=hxx4.loc bZ (hk _ (by omega));have hl:=(qyF.1 gZ).1;have hVl:=hV.1;simp[-getElem?_pos,gZ,qN,hVl,zd hVl (show(qr qZ).length=16 from rfl),hl,qn hVl];exact fin rfl (hx1.call hxx4) hg4 hV hv4
end
