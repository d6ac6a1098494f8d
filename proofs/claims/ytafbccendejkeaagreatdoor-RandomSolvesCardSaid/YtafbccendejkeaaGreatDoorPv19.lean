import Derived.Test.YtafbccendejkeaaGreatDoorPv18
import Derived.Tactics
import Derived.Tactics2
import Derived.WalkKit
import Derived.WalkSmall
import Derived.RowKit3
import Derived.Test.YtafbccendejkeaaGreatDoorPv17
set_option maxRecDepth 100000
set_option maxHeartbeats 16000000
set_option linter.all false
namespace Go.Abs
def zs(f:Nat->Bool):Nat->Nat
 |0=>0
 |n+1=>zs f n+cond (f n) (2^n) 0
def wc(f):∀n,zs f n<2^n
 |0=>by simp[zs]
 | n+1=>by
  have:=wc f n;simp only[zs,Nat.pow_succ];cases f n<;>simp<;>omega
def qY(f):∀(n k),(zs f n).testBit k=(decide (k<n)&&f k)
 |0,k=>by simp[zs]
 | n+1,k=>by
  have h:=wc f n;have ih:=qY f n;simp only[zs];by_cases hk:k=n
  . subst hk
    cases hf:f k with
    | true=>
     simp only[cond_true];rw[Nat.add_comm,Nat.testBit_two_pow_add_eq,Nat.testBit_lt_two_pow h];simp
    |false=>simp;rw[ih k];simp[hf]
  by_cases hl:k<n
  . cases hf:f n with
    | true=>
     simp only[cond_true];rw[Nat.add_comm,Nat.testBit_two_pow_add_gt hl,ih k];simp[hl,Nat.lt_succ_of_lt hl]
    |false=>simp[ih k,hl];intro;omega
  have hge:n+1<=k:=by omega
  have hb:zs f n+cond (f n) (2^n) 0<2^k:=by
   have:2^(n+1)<=2^k:=Nat.pow_le_pow_right (by omega) hge;rw[Nat.pow_succ]at this;cases f n<;>simp<;>omega
  rw[Nat.testBit_lt_two_pow hb];simp;omega
def zu{f g}:∀{n:Nat},(∀k,k<n->f k=g k)->zs f n=zs g n
 |0,_=>rfl
 |n+1,h=>by simp only[zs];rw[zu fun k hk=>h k (by omega),h n (by omega)]
def J5(m n):zs (fun k=>m.testBit k) n=m%2^n:=by
 apply Nat.eq_of_testBit_eq;intro k;rw[qY,Nat.testBit_mod_two_pow]
def wb{f}:∀{n:Nat},(∀k,k<n->f k=false)->zs f n=0
 |0,_=>rfl
 |n+1,h=>by simp only[zs];rw[wb fun k hk=>h k (by omega),h n (by omega)];simp
def qbI(x y:Nat->Bool)(c:Bool):Nat->Bool
 |0=>c
 |k+1=>(x k&&y k)||((x k ^^ y k)&&qbI x y c k)
def b2n(b:Bool):Nat:=cond b 1 0
def qb6(x y c):∀n,zs (fun k=>(x k ^^ y k) ^^ qbI x y c k) n+2^n*b2n (qbI x y c n)=zs x n+zs y n+b2n c
 |0=>by simp[zs,qbI]
 | n+1=>by
  have ih:=qb6 x y c n;simp only[zs,qbI,Nat.pow_succ];generalize zs (fun k=>(x k ^^ y k) ^^ qbI x y c k) n=s at *;generalize qbI x y c n=q at *;generalize 2^n=p at *;cases hx:x n<;>cases hy:y n<;>cases q<;>simp[b2n]at ih⊢<;>omega
def wC(x y c n):zs (fun k=>(x k ^^ y k) ^^ qbI x y c k) n=(zs x n+zs y n+b2n c)%2^n:=by
 have h:=qb6 x y c n;have h1:=wc (fun k=>(x k ^^ y k) ^^ qbI x y c k) n;rw[<- h,Nat.add_mul_mod_self_left,Nat.mod_eq_of_lt h1]
def qas(x):∀n,zs (fun k=>!x k) n=2^n-1-zs x n
 |0=>rfl
 | n+1=>by
  have:=wc x n;have:=qas x n;simp only[zs,Nat.pow_succ];cases x n<;>simp<;>omega
def qeF(x y:Nat->Bool):Nat->Bool
 |0=>false
 |k+1=>(!x k&&y k)||(!(x k ^^ y k)&&qeF x y k)
def QO(x y):∀n,qeF x y n=decide (zs x n<zs y n)
 |0=>by simp[qeF,zs]
 | n+1=>by
  have ih:=QO x y n;have h1:=wc x n;have h2:=wc y n;simp only[qeF,zs,ih];rcases Bool.eq_false_or_eq_true (x n) with hx|hx<;>rcases Bool.eq_false_or_eq_true (y n) with hy|hy<;>simp[hx,hy]<;>omega
def eqT(x y:Nat->Bool):Nat->Bool
 |0=>true
 |k+1=>eqT x y k&&!(x k ^^ y k)
def qbd(x y):∀n,eqT x y n=decide (zs x n=zs y n)
 |0=>by simp[eqT,zs]
 | n+1=>by
  have ih:=qbd x y n;have h1:=wc x n;have h2:=wc y n;simp only[eqT,zs,ih];rcases Bool.eq_false_or_eq_true (x n) with hx|hx<;>rcases Bool.eq_false_or_eq_true (y n) with hy|hy<;>simp[hx,hy]<;>omega
def Jr(x:Nat->Bool):Nat->Bool
 |0=>false
 |k+1=>Jr x k||x k
def Jq(x):∀n,Jr x n=decide (zs x n≠0)
 |0=>by simp[Jr,zs]
 | n+1=>by
  have ih:=Jq x n;have:0<2^n:=Nat.pow_pos (by omega);simp only[Jr,zs,ih];rcases Bool.eq_false_or_eq_true (x n) with hx|hx<;>simp[hx]<;>omega
def qje(x k n):zs (fun i=>decide (k<=i)&&x (i-k)) n=(zs x n*2^k)%2^n:=by
 apply Nat.eq_of_testBit_eq;intro i;rw[qY,Nat.testBit_mod_two_pow,Nat.testBit_mul_two_pow,qY];by_cases h1:i<n<;>by_cases h2:k<=i<;>simp[h1,h2];intro;omega
def qjf(x k n):zs (fun i=>decide (i+k<n)&&x (i+k)) n=zs x n/2^k:=by
 apply Nat.eq_of_testBit_eq;intro i;rw[qY,Nat.testBit_div_two_pow,qY];by_cases h1:i<n<;>by_cases h2:i+k<n<;>simp[h1,h2]
 . omega
def qsh(a:Nat)(y:Nat->Bool)(n:Nat):Nat->Nat
 |0=>0
 |k+1=>(qsh a y n k+cond (y k) ((a*2^k)%2^n) 0)%2^n
def qcM(a y n):∀k,qsh a y n k=(a*zs y k)%2^n
 |0=>by simp[qsh,zs]
 | k+1=>by
  simp only[qsh,zs,qcM a y n k,Nat.mul_add]
  cases y k with
  |true=>simp[Nat.add_mod]
  |false=>simp
def qaN(x:Nat->Bool):Nat->Nat
 |0=>0
 |k+1=>qaN x k+b2n (x k)
def qgb(x):∀n,qaN x n<=n
 |0=>Nat.le_refl _
 |n+1=>by have:=qgb x n;simp only[qaN,b2n];cases x n<;>simp<;>omega
def qmJ(x y n):zs (fun k=>x k&&y k) n=zs x n &&& zs y n:=by
 apply Nat.eq_of_testBit_eq;intro i;rw[Nat.testBit_and,qY,qY,qY];cases decide (i<n)<;>simp
def qq6(x y n):zs (fun k=>x k||y k) n=zs x n ||| zs y n:=by
 apply Nat.eq_of_testBit_eq;intro i;rw[Nat.testBit_or,qY,qY,qY];cases decide (i<n)<;>simp
def qmI(x y n):zs (fun k=>x k ^^ y k) n=zs x n ^^^ zs y n:=by
 apply Nat.eq_of_testBit_eq;intro i;rw[Nat.testBit_xor,qY,qY,qY];cases decide (i<n)<;>simp
def qar(t):∀n,zs (fun k=>decide (k=0)&&t) (n+1)=b2n t
 |0=>by cases t<;>rfl
 | n+1=>by
  have:=qar t n;rw[zs,this];simp
end Go.Abs
namespace Go.Proofs.YtafbccendejkeaaGreatDoor
open Go Go.Abs Go.RowKit Tryz
def qcG(f):zs f 16<65536:=wc f 16
def VO(f):∀k,k<=16->yR (zs f 16) k=qaN f k
 |0,_=>rfl
 | k+1,h=>by
  simp only[yR,qaN,VO f k (by omega),qY,b2n];have:decide (k<16)=true:=by simp;omega
  rw[this,qCs];cases f k<;>rfl
def v9(f):Jr f 16 = !decide ((zs f 16:Int)=0):=by
 rw[Jq];simp
def qkh(t):(zs (fun k=>decide (k=0)&&t) 16:Int)=b2i t:=by
 rw[qar t 15];cases t<;>rfl
section
variable {x y z:Nat->Bool}
def qx0:(zs (fun k=>(x k ^^ y k) ^^ qbI x y false k) 16:Int)=qw (zs x 16+zs y 16):=by
 rw[wC];unfold qw b2n;simp
def quk:(zs (fun k=>(x k ^^ !y k) ^^ qbI x (fun k=>!y k) true k) 16:Int)=qw (zs x 16-zs y 16):=by
 rw[wC,qas];have:=qcG x;have:=qcG y;unfold qw b2n;simp;omega
def qxZ:(zs (fun k=>!x k) 16:Int)=65535-qw (zs x 16):=by
 rw[qas];have:=qcG x;unfold qw;omega
def qxY:((zs x 16*zs y 16%2^16:Nat):Int)=qw (zs x 16*zs y 16):=by unfold qw;simp
def qxX(n):((zs x 16*2^n%2^16:Nat):Int)=qw (zs x 16*2^n):=by unfold qw;simp
def qxW(n):((zs x 16/2^n:Nat):Int)=qw (zs x 16)/2^n:=by
 have:=qcG x;rw[show qw (zs x 16)=zs x 16 from QG (by omega) (by omega)];simp
end
def qq(d:List Nd)(b:Nat->Bool)(w:List Nat)(k:Nat):Bool:=evD d b (w.getD k 0)
def z7(d:List Nd)(b:Nat->Bool)(w:List Nat):Int:=(zs (qq d b w) 16:Nat)
def za(d:List Nd)(w:List Nat):Prop:=w.length=16/\∀i∈w,i<d.length
def za.at{d w}(h:za d w){k}(hk:k<16):w.getD k 0<d.length:=by
 have hl:k<w.length:=by rwa[h.1]
 rw[qBi,qBc hl];exact h.2 _ (qDf hl)
def za.grown{d d' w}(h:za d w)(hg:zb d d'):za d' w:=⟨h.1,fun i hi=>qBt (h.2 i hi) hg.len⟩
def zJ{d d'}(hd:DagOk d)(hg:zb d d'){w}(h:za d w)(b){k}(hk:k<16):qq d' b w k=qq d b w k:=hg.ev hd b (h.at hk)
def qhY{d d'}(hd:DagOk d)(hg:zb d d'){w}(h:za d w)(b):z7 d' b w=z7 d b w:=by
 unfold z7;rw[zu fun k hk=>zJ hd hg h b hk]
def qhX(d b w):0<=z7 d b w/\z7 d b w<=65535:=by
 unfold z7;have:=qcG (qq d b w);omega
def yU{P G o env U ks Q}(n)(J:Nat->Env->St->Prop){c}(h0:J 0 env U)
 (hs:∀i env U (R:Env->St->Prop),(∀env U,J (i+1) env U->R env U)->i<n->J i env U->kC P G o c env U (.loop R::ks) Q)
 (he:∀env U,J n env U->kC P G o c env U (.loop (fun _ _=>False)::ks) Q) (hp:yk c=true:=by rfl):qK P G o c env U ks Q :=
 qK.count n J h0 (fun i env U h1 hJ=>hs i env U _ (fun _ _ h=>h) h1 hJ) he hp
structure Bc where
 B:Nat
 M:Nat
 rest:List AV
 mp:Blk
 H0:List Blk
abbrev XG(c:Bc):Glo:=⟨GG,fun cs τ=>cs=[{v:=.iface 237 (.agg #[.int .i64 2]),recovered:=false}]/\KpL [c.B] c.H0 τ.H⟩
structure BX(c:Bc)(E:List Blk)(d:List Nd)(H:List Blk):Prop where
 b:∃tok,H[c.B]?=some (.cells (.sl 3 (d.map qI) tok::c.rest))
 m:H[c.M]?=some c.mp
 ok:DagOk d
 kp0:KpL [c.B] c.H0 H
 kp:KpL [c.B] E H
 ne:c.M≠c.B
 b0:c.B<E.length
 m0:c.M<E.length
 h0:c.H0.length<=E.length
section
variable {c:Bc}{E H H':List Blk}{d d':List Nd}{U U':St}{T T':List (Option Nat)}
def BX.app(h:BX c E d H)(u):BX c E d (H++u):=by
 obtain⟨tok,hb⟩:=h.b;exact⟨⟨tok,qd hb _⟩,qd h.m _,h.ok,h.kp0.trans qF7,h.kp.trans qF7,h.ne,h.b0,h.m0,h.h0⟩
def BX.set(h:BX c E d H){k}(hk:E.length<=k)(y):BX c E d (H.set k y):=by
 obtain⟨tok,hb⟩:=h.b;have:=h.b0;have:=h.m0;have:=h.h0;exact⟨⟨tok,by rw[qBd (by omega)];exact hb⟩,by rw[qBd (by omega)];exact h.m,h.ok,h.kp0.setF (by omega),h.kp.setF hk,h.ne,h.b0,h.m0,h.h0⟩
def BX.self(h:BX c E d H):BX c H d H:=⟨h.b,h.m,h.ok,h.kp0,qF5,h.ne,qBt h.b0 h.kp.1,qBt h.m0 h.kp.1,qB6 h.h0 h.kp.1⟩
def BX.same(h:BX c E d H)(hk:KpL [] H H'):BX c E d H':=by
 obtain⟨tok,hb⟩:=h.b;exact⟨⟨tok,hk.2 _ _ hb (by simp)⟩,hk.2 _ _ h.m (by simp),h.ok,h.kp0.trans (hk.sub (by simp)),h.kp.trans (hk.sub (by simp)),h.ne,h.b0,h.m0,h.h0⟩
def BX.call(h:BX c E d H)(h':BX c H d' H'):BX c E d' H':=⟨h'.b,h'.m,h'.ok,h'.kp0,h.kp.trans h'.kp,h.ne,h.b0,h.m0,h.h0⟩
def BX.at(h:BX c E d H){k}(hk:E.length<=k):k≠c.B/\k≠c.M:=by have:=h.b0;have:=h.m0;omega
def BX.loc(h:BX c H d H'){k x}(hx:H[k]?=some x)(hk:k≠c.B):H'[k]?=some x:=h.kp.2 _ _ hx (by simpa using hk)
end
def w7(c){H T Q}(hk:KpL [c.B] c.H0 H)(b n):
 qj prog (XG c) 263 [.ptr b 0,.agg [.sl 0 [] .nil],.int .i64 n,.int .i64 2] ⟨H,T⟩ Q:=by
 refine⟨by kernel_rfl,fun w0 ro0 K w vs hw hvs=>?_⟩;simp only[qi,qf]at hvs;obtain⟨v1,r1,e1,⟨B,hB,rfl⟩,v2,r2,rfl,⟨cs,rfl,v3,r3,e3,hsl,rfl⟩,v4,r4,rfl,rfl,v5,r5,rfl,rfl,rfl⟩:=hvs;have hv3:qf K (.sl 0 [] .nil) v3:=by simp only[qf];exact hsl
 clear hsl;have evs:vs = #[.pointer (some ⟨B,0,none⟩),.agg cs,.int .i64 n,.int .i64 2]:=by apply Array.ext';simpa using e1
 have ecs:cs = #[v3]:=by apply Array.ext';simpa using e3
 subst evs ecs
 go_enter func263,Tryz.ntmps263
 go_wp2
 simp only[bodyPost];have hw3:=hw.push (b:=.cells [.sl 0 [] .nil]) (o:=.cells #[v3] 64) ⟨#[v3],64,rfl,by simp,by simp,fun i a e=>by
  cases i with
  |zero=>simp at e;subst e;exact⟨_,rfl,hv3.mono (qFM hw w.heap.size (j9 (.cells #[v3] 64)))⟩
  |succ i=>simp at e⟩
 refine⟨trivial,.inr ⟨_,rfl,_,_,qFM hw w.heap.size (j9 (.cells #[v3] 64)),hw3,rfl,?_⟩⟩;exact hk.trans qF7
def JI(c:Bc){E H:List Blk}{T:List (Option Nat)}{d d':List Nd}(h:BX c E d H)(hd:DagOk d')(i:Nat)(tok:Tok):
 qj prog (XG c) 263 [.ptr c.B 0,.agg [.sl 3 (d'.map qI) tok],.int .i64 i,.int .i64 0] ⟨H,T⟩ (fun r U'=>r=.int .i64 i/\BX c E d' U'.H):=by
 refine okzA func263 rfl rfl ?_;obtain⟨t0,hb⟩:=h.b;have hbl:=(qBa.1 hb).1;simp[qd hb,kI hb];have:=h.b0;have:=h.h0;have:=h.ne;exact⟨⟨tok,qd (qBg hbl) _⟩,qd (by rw[qBd (Ne.symm h.ne)];exact h.m) _,hd,(h.kp0.trans (qF8 (by simp))).trans qF7,(h.kp.trans (qF8 (by simp))).trans qF7,h.ne,h.b0,h.m0,h.h0⟩
def NQ(c:Bc)(d:List Nd)(H:List Blk)(v:(Nat->Bool)->Bool)(r:AV)(U':St):Prop :=
 ∃d' i,r=.int .i64 (i:Nat)/\BX c H d' U'.H/\zb d d'/\i<d'.length/\∀b,evD d' b i=v b
def Zf(c){d H T}(h:BX c H d H){f}(hf:f<d.length):
 qj prog (XG c) 195 [.ptr c.B 0,.int .i64 f] ⟨H,T⟩ (NQ c d H fun b=>!evD d b f):=by
 refine okzA func195 rfl rfl ?_;obtain⟨t0,hb⟩:=h.b;simp[hb];refine qFC ((qvb d h.ok f hf _ _).leq (args:=[.agg [.sl 3 (d.map qI) t0],.int .i64 f]) (by simp[zm,Leq,qFI])).glo ?_;rintro v ⟨H2,T2⟩ ⟨hk,rfl|⟨d2,i2,t2,rfl,g2,hd2,hi2,hm2,hs2⟩⟩
 . simp;exact qFC (w7 c (Q:=fun _ _=>False) (h.same hk).kp0 _ _) fun _ _ h=>h.elim
 simp;refine qFC (JI c (h.same hk) hd2 i2 _) ?_;rintro v ⟨H3,T3⟩ ⟨rfl,hx⟩;simp;exact⟨d2,i2,rfl,hx,g2,hi2,fun b=>by rw[hs2 b];rfl⟩
def Zh(c){d H T}(h:BX c H d H){f g}(hf:f<d.length)(hg:g<d.length):
 qj prog (XG c) 269 [.ptr c.B 0,.int .i64 f,.int .i64 g] ⟨H,T⟩ (NQ c d H fun b=>evD d b f&&evD d b g):=by
 refine okzA func269 rfl rfl ?_;obtain⟨t0,hb⟩:=h.b;simp[hb];refine qFC ((qqz d h.ok f g hf hg _ _).leq (args:=[.agg [.sl 3 (d.map qI) t0],.int .i64 f,.int .i64 g]) (by simp[zm,Leq,qFI])).glo ?_;rintro v ⟨H2,T2⟩ ⟨hk,rfl|⟨d2,i2,t2,rfl,g2,hd2,hi2,hm2,hs2⟩⟩
 . simp;exact qFC (w7 c (Q:=fun _ _=>False) (h.same hk).kp0 _ _) fun _ _ h=>h.elim
 simp;refine qFC (JI c (h.same hk) hd2 i2 _) ?_;rintro v ⟨H3,T3⟩ ⟨rfl,hx⟩;simp;exact⟨d2,i2,rfl,hx,g2,hi2,fun b=>by rw[hs2 b];rfl⟩
def qcB(c){d H T}(h:BX c H d H){f g}(hf:f<d.length)(hg:g<d.length):
 qj prog (XG c) 191 [.ptr c.B 0,.int .i64 f,.int .i64 g] ⟨H,T⟩ (NQ c d H fun b=>evD d b f||evD d b g):=by
 refine okzA func191 rfl rfl ?_;obtain⟨t0,hb⟩:=h.b;simp[hb];refine qFC ((qyw d h.ok f g hf hg _ _).leq (args:=[.agg [.sl 3 (d.map qI) t0],.int .i64 f,.int .i64 g]) (by simp[zm,Leq,qFI])).glo ?_;rintro v ⟨H2,T2⟩ ⟨hk,rfl|⟨d2,i2,t2,rfl,g2,hd2,hi2,hm2,hs2⟩⟩
 . simp;exact qFC (w7 c (Q:=fun _ _=>False) (h.same hk).kp0 _ _) fun _ _ h=>h.elim
 simp;refine qFC (JI c (h.same hk) hd2 i2 _) ?_;rintro v ⟨H3,T3⟩ ⟨rfl,hx⟩;simp;exact⟨d2,i2,rfl,hx,g2,hi2,fun b=>by rw[hs2 b];rfl⟩
def qbK(c){d H T}(h:BX c H d H){f g}(hf:f<d.length)(hg:g<d.length):
 qj prog (XG c) 272 [.ptr c.B 0,.int .i64 f,.int .i64 g] ⟨H,T⟩ (NQ c d H fun b=>evD d b f ^^ evD d b g):=by
 refine okzA func272 rfl rfl ?_;obtain⟨t0,hb⟩:=h.b;simp[hb];refine qFC ((quh d h.ok f g hf hg _ _).leq (args:=[.agg [.sl 3 (d.map qI) t0],.int .i64 f,.int .i64 g]) (by simp[zm,Leq,qFI])).glo ?_;rintro v ⟨H2,T2⟩ ⟨hk,rfl|⟨d2,i2,t2,rfl,g2,hd2,hi2,hm2,hs2⟩⟩
 . simp;exact qFC (w7 c (Q:=fun _ _=>False) (h.same hk).kp0 _ _) fun _ _ h=>h.elim
 simp;refine qFC (JI c (h.same hk) hd2 i2 _) ?_;rintro v ⟨H3,T3⟩ ⟨rfl,hx⟩;simp;exact⟨d2,i2,rfl,hx,g2,hi2,fun b=>by rw[hs2 b];rfl⟩
def qlG(c){d H T}(h:BX c H d H){f g e}(hf:f<d.length)(hg:g<d.length)(he:e<d.length):
 qj prog (XG c) 202 [.ptr c.B 0,.int .i64 f,.int .i64 g,.int .i64 e] ⟨H,T⟩ (NQ c d H fun b=>evD d b f&&evD d b g||!evD d b f&&evD d b e):=by
 refine okzA func202 rfl rfl ?_;obtain⟨t0,hb⟩:=h.b;simp[hb];refine qFC ((qlF d h.ok f g e hf hg he _ _).leq (args:=[.agg [.sl 3 (d.map qI) t0],.int .i64 f,.int .i64 g,.int .i64 e]) (by simp[zm,Leq,qFI])).glo ?_;rintro v ⟨H2,T2⟩ ⟨hk,rfl|⟨d2,i2,t2,rfl,g2,hd2,hi2,hm2,hs2⟩⟩
 . simp;exact qFC (w7 c (Q:=fun _ _=>False) (h.same hk).kp0 _ _) fun _ _ h=>h.elim
 simp;refine qFC (JI c (h.same hk) hd2 i2 _) ?_;rintro v ⟨H3,T3⟩ ⟨rfl,hx⟩;simp;exact⟨d2,i2,rfl,hx,g2,hi2,fun b=>by rw[hs2 b];rfl⟩
section
variable {k:IntKind}{a b:Int}
def qcD:zA .add k a b=some (.int k (k.wrap (a+b))):=rfl
def VN:zA .sub k a b=some (.int k (k.wrap (a-b))):=rfl
def qu5:zA .mul k a b=some (.int k (k.wrap (a*b))):=rfl
def qf8:zA .lss k a b=some (.bool (decide (a<b))):=rfl
def qpX:zA .gtr k a b=some (.bool (decide (a > b))):=rfl
def qf9:zA .eql k a b=some (.bool (a==b)):=rfl
def qkb:zA .neq k a b=some (.bool (a != b)):=rfl
end
def qz(w:List Nat):List AV:=w.map fun(n:Nat)=>.int .i64 (n:Int)
@[simp]def jL(w):(qz w).length=w.length:=by simp[qz]
@[simp]def qv0(w):(qz w).all AV.atom=true:=by simp[qz]
@[simp]def qs0:∀(w),qx (qz w)=true
 |[]=>rfl
 |a::r=>by simp only[qz,qBn,qx,qL,qCs];exact qs0 r
@[simp]def qvZ(H w):(qz w).map (k0 H)=qz w:=by simp[qz]
def kR(w)(i n:Nat):(qz w).set i (.int .i64 (n:Int))=qz (w.set i n):=by simp[qz,qD7]
def z4{w:List Nat}{i x:Nat}(h:w[i]?=some x):(qz w).drop i=.int .i64 (x:Int)::(qz w).drop (i+1):=by
 have hl:i<(qz w).length:=by rw[jL];exact(qBa.1 h).1
 rw[qBx hl];congr 1;obtain⟨_,h2⟩:=qBa.1 h;simp[qz,h2]
def qo{w}(h:w.length=16):(qz w).take 16=qz w:=qBh (by simp[h])
def qrF:∀(new Z),Z.length=new.length->zx Z 0 new=new:=fun new Z h=>by
 have:=vw new Z [] h;simpa using this
def zp{w}(h:w.length=16){Z}(hZ:Z.length=16):zx Z 0 (qz w)=qz w:=qrF _ _ (by simp[h,hZ])
section
variable {α:Type}{H t:List α}{p q r s u v:α}
def lk0:(H++p::t)[H.length]?=some p:=by rw[qBm (qBl _),qB9];rfl
def lk1:(H++p::q::t)[H.length+1]?=some q:=by rw[qBm (by omega),qCk];rfl
def lk2:(H++p::q::r::t)[H.length+2]?=some r:=by rw[qBm (by omega),qCk];rfl
def lk3:(H++p::q::r::s::t)[H.length+3]?=some s:=by rw[qBm (by omega),qCk];rfl
def lk4:(H++p::q::r::s::u::t)[H.length+4]?=some u:=by rw[qBm (by omega),qCk];rfl
end
def zg:List Nat:=List.replicate 16 0
def qT:zg.length=16:=rfl
def wA{d}(h:DagOk d):za d zg:=⟨rfl,fun i hi=>by rw[zg,qC4]at hi;rw[hi.2];have:=h.two;omega⟩
def jN:[AV.int .i64 0,.int .i64 0,.int .i64 0,.int .i64 0,.int .i64 0,.int .i64 0,.int .i64 0,.int .i64 0,.int .i64 0,.int .i64 0,.int .i64 0,.int .i64 0,.int .i64 0,.int .i64 0,.int .i64 0,.int .i64 0]=qz zg:=rfl
def kU{d}(h:DagOk d)(b k):qq d b zg k=false:=by
 unfold qq;have:zg.getD k 0=0:=by
  simp only[zg,qBi,qEf];split<;>rfl
 rw[this,YB h]
def WQ(c:Bc)(d:List Nd)(H:List Blk)(v:(Nat->Bool)->Int)(r:AV)(U':St):Prop :=
 ∃d' W,r=.agg (qz W)/\BX c H d' U'.H/\zb d d'/\za d' W/\∀b,z7 d' b W=v b
def BQ(c:Bc)(d:List Nd)(H:List Blk)(v:(Nat->Bool)->Nat->Bool)(r:AV)(U':St):Prop :=
 ∃d' W,r=.agg (qz W)/\BX c H d' U'.H/\zb d d'/\za d' W/\∀b k,k<16->qq d' b W k=v b k
def za.get{d w}(h:za d w){k}(hk:k<16):∃x,w[k]?=some x/\x<d.length/\w.getD k 0=x/\∀b,qq d b w k=evD d b x:=by
 have hl:k<w.length:=by rwa[h.1]
 refine⟨w[k],qBc hl,h.2 _ (qDf hl),by simp[List.getD,hl],fun b=>by simp[qq,List.getD,hl]⟩
def za.set{d w}(h:za d w){k x}(hx:x<d.length):za d (w.set k x):=⟨by simp[h.1],fun i hi=>by
 rcases qDh hi with hi|rfl
 . exact h.2 i hi
 exact hx⟩
def ve{d w k x j b}(hk:k<w.length):qq d b (w.set k x) j=if j=k then evD d b x else qq d b w j:=by
 unfold qq;by_cases h:j=k
 . subst h;simp[List.getD,hk]
 simp[List.getD,qBd (Ne.symm h),h]
section
variable {c:Bc}{d:List Nd}{H:List Blk}{T:List (Option Nat)}
def Jm(h:BX c H d H){X}(hX:za d X):
 qj prog (XG c) 196 [.ptr c.B 0,.agg (qz X)] ⟨H,T⟩ (BQ c d H fun b k=>!qq d b X k):=by
 refine okzA func196 rfl rfl ?_;simp;refine yU 16 (fun i ev U=>ev 0=.ptr c.B 0/\ev 3=.ptr H.length 0/\ev 4=.ptr (H.length+1) 0/\ev 6=.int .i64 (i:Int) /\
  ∃d' W,BX c H d' U.H/\zb d d'/\za d' W/\U.H[H.length]?=some (.cells (qz W))/\(∃Z,Z.length=16/\U.H[H.length+1]?=some (.cells Z))/\∀b k,k<16->qq d' b W k=if k<i then !qq d b X k else qq d b X k) ?_ ?_ ?_
 . refine⟨by simp,by simp,by simp,by simp,d,X,(h.app _),qF4 d,hX,by simp,⟨_,rfl,by simp;rfl⟩,fun b k hk=>by simp⟩
 . rintro i ev ⟨H1,T1⟩ R hR hi ⟨e0,e3,e4,e6,d1,W,hx,hg,hW,hH,⟨Z,hZ,hH2⟩,hb⟩;obtain⟨x,hx1,hx2,hx3,hx4⟩:=hW.get hi;simp only at hx hH hH2;have hWl:=hW.1;have hi':(i:Int)<16:=(by omega);have hi1:i+1<=16:=hi;have hdr:=z4 hx1;have hw:=wr (n:=(i:Int)+1) (by omega) (by omega);simp[e0,e3,e6,hi',hi1,hH,hWl,hdr];refine qFC (Zf c hx.self hx2) ?_;rintro v ⟨H2,T2⟩ ⟨d2,y,rfl,hxx,hg2,hy,hv⟩;dsimp only at hv;have hx2':=hx.call hxx;have hH2':=hxx.loc hH (h.at (qBl _)).1;have hHl:=(qBa.1 hH2').1;have hZ2:=hxx.loc hH2 (h.at (by omega)).1;simp[e3,e6,hi',hi1,hH2',hWl,kR,hw];refine hR _ _ ⟨by simp[e0],by simp[e3],by simp[e4],by simp,d2,W.set i y,hx2'.set (qBl _) _,hg.trans hg2,(hW.grown hg2).set hy,by simp[hHl],⟨Z,hZ,by rw[qBd (by omega)];exact hZ2⟩,fun b k hk=>?_⟩;rw[ve (by omega)];by_cases hki:k=i
   . subst hki;have:=hb b k hk;rw[hx4,if_neg (by omega)]at this;rw[if_pos rfl,if_pos (by omega),hv,this]
   rw[if_neg hki,zJ hx.ok hg2 hW b hk,hb b k hk];by_cases hk2:k<i
   . rw[if_pos hk2,if_pos (by omega)]
   rw[if_neg hk2,if_neg (by omega)]
 rintro ev ⟨H1,T1⟩ ⟨e0,e3,e4,e6,d1,W,hx,hg,hW,hH,⟨Z,hZ,hH2⟩,hb⟩;simp only at hx hH hH2;have hWl:=hW.1;have hHl:=(qBa.1 hH2).1;simp[-getElem?_pos,e3,e4,e6,hH,hH2,hWl,qo hWl,zp hWl hZ,hZ,hHl];refine⟨d1,W,rfl,hx.set (by omega) _,hg,hW,fun b k hk=>by rw[hb b k hk,if_pos hk]⟩
end
section
variable {c:Bc}{d:List Nd}{H:List Blk}{T:List (Option Nat)}
def za.getG{d d' w}(h:za d w)(hd:DagOk d)(hg:zb d d'){k}(hk:k<16):∃x,w[k]?=some x/\x<d'.length/\∀b,evD d' b x=qq d b w k:=by
 obtain⟨x,h1,h2,h3,h4⟩:=h.get hk;exact⟨x,h1,qBt h2 hg.len,fun b=>by rw[hg.ev hd b h2,h4 b]⟩
def QJ(h:BX c H d H){X}(hX:za d X):
 qj prog (XG c) 133 [.ptr c.B 0,.agg (qz X)] ⟨H,T⟩ (NQ c d H fun b=>Jr (qq d b X) 16):=by
 refine okzA func133 rfl rfl ?_;have hXl:=hX.1;simp[hXl,qo hXl];refine yU 16 (fun i ev U=>ev 0=.ptr c.B 0/\ev 8=.agg (qz X)/\ev 9=.int .i64 (i:Int) /\
  ∃d' t,ev 5=.int .i64 (t:Nat)/\BX c H d' U.H/\zb d d'/\t<d'.length/\∀b,evD d' b t=Jr (qq d b X) i) ?_ ?_ ?_
 . exact⟨by simp,by simp,by simp,d,0,by simp,h.app _,qF4 d,by have:=h.ok.two;omega,fun b=>YB h.ok b⟩
 . rintro i ev ⟨H1,T1⟩ R hR hi ⟨e0,e8,e9,d1,t,e5,hx,hg,ht,hv⟩;obtain⟨x,hx1,hx2,hx3⟩:=hX.getG h.ok hg hi;have hi1:i+1<=16:=hi;have hw:=wr (n:=(i:Int)+1) (by omega) (by omega);simp[e0,e5,e8,e9,show(i:Int)<16 by omega,hi1,hXl,z4 hx1];refine qFC (qcB c hx.self ht hx2) ?_;rintro v ⟨H2,T2⟩ ⟨d2,y,rfl,hxx,hg2,hy,hv2⟩;dsimp only at hv2;simp[e9,hw];exact hR _ _ ⟨by simp[e0],by simp[e8],by simp,d2,y,by simp,hx.call hxx,hg.trans hg2,hy,fun b=>by rw[hv2,hv,hx3];rfl⟩
 rintro ev ⟨H1,T1⟩ ⟨e0,e8,e9,d1,t,e5,hx,hg,ht,hv⟩;simp[e5,e9];exact⟨d1,t,rfl,hx,hg,ht,hv⟩
def ql9(n i:Nat)(hn:n<2^63):zA .and .i64 ((n:Int).fdiv (2^i)) 1=some (.int .i64 ((if n.testBit i=true then 1 else 0:Nat):Int)):=by
 have h1:((n:Int).fdiv (2^i))=((n/2^i:Nat):Int):=by rw[qDv _ (Int.pow_nonneg (by omega))];simp
 have h2:n/2^i<2^64:=by have:=qCp n (2^i);omega
 have h3:n/2^i%2=if n.testBit i=true then 1 else 0:=by
  rw[qEm];have:=qEI (n/2^i);rcases this with h|h<;>simp[h]
 rw[h1];generalize n/2^i=m at *;have h4:(BitVec.ofInt 64 (m:Int) &&& BitVec.ofInt 64 1).toNat=m%2:=by
  rw[BitVec.ofInt_natCast,show BitVec.ofInt 64 1=1#64 from rfl,BitVec.toNat_and,BitVec.toNat_ofNat,BitVec.toNat_ofNat,qDm h2];exact Nat.and_one_is_mod _
 show some (AV.int .i64 (IntKind.i64.wrap ((BitVec.ofInt 64 (m:Int) &&& BitVec.ofInt 64 1).toNat:Int)))=_;rw[h4,h3];split<;>rfl
def yv(n:Nat)(hn:n<65536):Pure prog GG 192 [.int .i64 (n:Int)] (.agg (qz ((List.range 16).map fun k=>if n.testBit k=true then 1 else 0))):=by
 refine okzP func192 rfl rfl ?_;simp;refine yU 16 (fun i ev U=>ev 0=.int .i64 (n:Int)/\ev 2=.ptr 0 0/\ev 3=.ptr 1 0/\ev 5=.int .i64 (i:Int) /\
  ∃W Z,W.length=16/\U=⟨[.cells Z,.cells (qz W)],[]⟩/\Z.length=16/\∀k,k<i->W[k]?=some (if n.testBit k=true then 1 else 0)) ?_ ?_ ?_
 . exact⟨by simp,by simp,by simp,by simp,List.replicate 16 0,_,by simp,rfl,rfl,fun k hk=>absurd hk (by omega)⟩
 . rintro i ev U R hR hi ⟨e0,e2,e3,e5,W,Z,hW,rfl,hZ,hb⟩;have hi1:i+1<=16:=hi;have hw:=wr (n:=(i:Int)+1) (by omega) (by omega);have hmin:min i 64=i:=(by omega);have hneg:¬(i:Int)<0:=(by omega);have hand:=ql9 n i (by omega);obtain⟨v,hv⟩:∃v:Nat,v=if n.testBit i=true then 1 else 0:=⟨_,rfl⟩
   rw[<- hv]at hand;simp[-zA,qf8,qcD,e0,e3,e5,show(i:Int)<16 by omega,hi1,hW,hmin,IntKind.bits,hand,hneg];refine hR _ _ ⟨by simp[e0],by simp[e2],by simp[e3],by simp[hw],W.set i v,Z,by simp[hW],by simp[kR],hZ,fun k hk=>?_⟩;by_cases hki:k=i
   . subst hki;rw[qBg (by omega),hv]
   rw[qBd (Ne.symm hki)];exact hb k (by omega)
 rintro ev U ⟨e0,e2,e3,e5,W,Z,hW,rfl,hZ,hb⟩;have:W=(List.range 16).map fun k=>if n.testBit k=true then 1 else 0:=by
  apply qCb;intro k;by_cases hk:k<16
  . rw[hb k hk];simp[hk]
  rw[qBI (by omega),qBI (by simp;omega)]
 rw[<- this];simp[e2,e3,e5,hW,qo hW,zp hW hZ,hZ]
end
section
variable {c:Bc}{d:List Nd}{H:List Blk}{T:List (Option Nat)}
def qpE(x y:Nat->Bool)(c:Bool)(k:Nat):Bool:=(x k ^^ y k) ^^ qbI x y c k
def qns:List (Nat×Sch×List Nat):=[(5,.step 0 [8,7] (.step 1 [8,7,3,2] (.step 2 [8,7,3] (.step 3 [8,7] (.step 4 [8,7,6,5] (.step 5 [8,7,6] (.step 6 [8,7] (.step 7 [8] (.step 8 [] (.done))))))))),[7]),(8,.step 0 [8,7] (.step 1 [8,7,3,2] (.step 2 [8,7,3] (.step 3 [8,7] (.step 4 [8,7,6,5] (.step 5 [8,7,6] (.step 6 [8,7] (.step 7 [8] (.step 8 [] (.done))))))))),[7])]
def qfE(h:BX c H d H){X Y}(hX:za d X)(hY:za d Y){cn}(hc:cn<d.length):
 qj prog (XG c) 267 [.ptr c.B 0,.agg (qz X),.agg (qz Y),.int .i64 (cn:Int)] ⟨H,T⟩ (BQ c d H fun b=>qpE (qq d b X) (qq d b Y) (evD d b cn)):=by
 refine qFy ⟨false,qns,[],[]⟩ qX func267 rfl (by kernel_rfl) ?_;have hXl:=hX.1;have hYl:=hY.1;simp;refine yU 16 (fun i ev U=>ev 0=.ptr c.B 0/\ev 5=.ptr H.length 0/\ev 6=.ptr (H.length+1) 0/\ev 8=.ptr (H.length+2) 0/\ev 9=.ptr (H.length+3) 0/\ev 14=.int .i64 (i:Int) /\
  ∃ d' W cn',ev 3=.int .i64 (cn':Nat)/\BX c H d' U.H/\zb d d'/\za d' W/\cn'<d'.length/\U.H[H.length]?=some (.cells (qz X))/\U.H[H.length+1]?=some (.cells (qz Y))/\(∃Z,Z.length=16/\U.H[H.length+2]?=some (.cells Z))/\U.H[H.length+3]?=some (.cells (qz W)) /\
   (i<=15->∀b,evD d' b cn'=qbI (qq d b X) (qq d b Y) (evD d b cn) i) /\
   ∀b k,k<i->qq d' b W k=qpE (qq d b X) (qq d b Y) (evD d b cn) k) ?_ ?_ ?_
 . refine⟨by simp,by simp,by simp,by simp,by simp,by simp,d,zg,cn,by simp,h.app _,qF4 d,wA h.ok,hc,lk0,lk1,⟨_,qT,lk2⟩,lk3,fun _ b=>rfl,fun b k hk=>absurd hk (by omega)⟩
 . rintro i ev ⟨H1,T1⟩ R hR hi ⟨e0,e5,e6,e8,e9,e14,d1,W,cn1,e3,hx,hg,hW,hc1,hHX,hHY,⟨Z,hZ,hHZ⟩,hHW,hcar,hb⟩;obtain⟨x,hx1,hx2,hx3⟩:=hX.getG h.ok hg hi;obtain⟨y,hy1,hy2,hy3⟩:=hY.getG h.ok hg hi;simp only at hx hHX hHY hHZ hHW;have hWl:=hW.1;have hi':(i:Int)<16:=(by omega);have hi1:i+1<=16:=hi;have hdx:=z4 hx1;have hdy:=z4 hy1;have hw:=wr (n:=(i:Int)+1) (by omega) (by omega);simp[e14,hi',hi1];rw[qP rfl];simp[zc,e0,e5,e6,hi',hi1,hHX,hHY,hXl,hYl,hdx,hdy];refine qFC (qbK c hx.self hx2 hy2) ?_;rintro v ⟨H2,T2⟩ ⟨d2,z,rfl,hxx,hg2,hz,hv2⟩;dsimp only at hv2;have hk:∀j,H.length+j≠c.B:=fun j=>(h.at (by omega)).1
   have hX2:=hxx.loc hHX (hk 0);have hY2:=hxx.loc hHY (hk 1);have hZ2:=hxx.loc hHZ (hk 2);have hW2:=hxx.loc hHW (hk 3);have hx2':=hx.call hxx;have hc2:=qBt hc1 hg2.len;simp[e0,e3,hi1];refine qFC (qbK c hx2'.self hz hc2) ?_;rintro v ⟨H3,T3⟩ ⟨d3,o,rfl,hxx3,hg3,ho,hv3⟩;dsimp only at hv3;have hX3:=hxx3.loc hX2 (hk 0);have hY3:=hxx3.loc hY2 (hk 1);have hZ3:=hxx3.loc hZ2 (hk 2);have hW3:=hxx3.loc hW2 (hk 3);have hx3':=hx2'.call hxx3;have hl3:=(qBa.1 hW3).1;have hx4:=hx3'.set (k:=H.length+3) (by omega) (.cells (qz (W.set i o)));have hX4:(H3.set (H.length+3) (.cells (qz (W.set i o))))[H.length]?=some (.cells (qz X)):=(by rw[qBd (by omega)];exact hX3);have hY4:(H3.set (H.length+3) (.cells (qz (W.set i o))))[H.length+1]?=some (.cells (qz Y)):=(by rw[qBd (by omega)];exact hY3);have hZ4:(H3.set (H.length+3) (.cells (qz (W.set i o))))[H.length+2]?=some (.cells Z):=(by rw[qBd (by omega)];exact hZ3);have hW4:(H3.set (H.length+3) (.cells (qz (W.set i o))))[H.length+3]?=some (.cells (qz (W.set i o))):=qBg hl3;have hg3':=hg.trans (hg2.trans hg3);have hWok:=(hW.grown (hg2.trans hg3)).set (k:=i) ho;have hcar1:=hcar (by omega);have hhv:∀b,evD d2 b z=(qq d b X i ^^ qq d b Y i):=fun b=>by rw[hv2,hx3,hy3]
   have hov:∀b,evD d3 b o=qpE (qq d b X) (qq d b Y) (evD d b cn) i:=fun b=>by
    rw[hv3,hhv,hg2.ev hx.ok b hc1,hcar1];rfl
   have hbits:∀b k,k<i+1->qq d3 b (W.set i o) k=qpE (qq d b X) (qq d b Y) (evD d b cn) k:=fun b k hk=>by
    rw[ve (by omega)];by_cases hki:k=i
    . subst hki;rw[if_pos rfl,hov]
    rw[if_neg hki,zJ hx.ok (hg2.trans hg3) hW b (by omega),hb b k (by omega)]
   by_cases h15:i<15
   . have h15':(i:Int)<15:=(by omega);simp[e9,hi',hi1,hW3,hWl,kR,h15'];generalize H3.set (H.length+3) (.cells (qz (W.set i o)))=H4 at *;rw[qP rfl];simp[zc,e0,e5,e6,hi',hi1,hX4,hY4,hXl,hYl,hdx,hdy];refine qFC (Zh c hx4.self (qBt hx2 (hg2.trans hg3).len) (qBt hy2 (hg2.trans hg3).len)) ?_;rintro v ⟨H5,T5⟩ ⟨d5,g,rfl,hxx5,hg5,hgl,hv5⟩;dsimp only at hv5;have hx5:=hx4.call hxx5;simp[e0,e3,e14];refine qFC (Zh c hx5.self (f:=z) (g:=cn1) (qBt hz (hg3.trans hg5).len) (qBt hc2 (hg3.trans hg5).len)) ?_;rintro v ⟨H6,T6⟩ ⟨d6,hh,rfl,hxx6,hg6,hhl,hv6⟩;dsimp only at hv6;have hx6:=hx5.call hxx6;simp[e0,e14];refine qFC (qcB c hx6.self (f:=g) (g:=hh) (qBt hgl hg6.len) hhl) ?_;rintro v ⟨H7,T7⟩ ⟨d7,c7,rfl,hxx7,hg7,hc7,hv7⟩;dsimp only at hv7;have hx7:=hx6.call hxx7;simp[e14,hw];have hgg:=hg5.trans (hg6.trans hg7);have up:∀{k:Nat} {x:Blk},H4[H.length+k]?=some x->H7[H.length+k]?=some x:=fun {k x} hq=>hxx7.loc (hxx6.loc (hxx5.loc hq (hk k)) (hk k)) (hk k)
     refine hR _ _ ⟨by simp[e0],by simp[e5],by simp[e6],by simp[e8],by simp[e9],by simp,d7,W.set i o,c7,by simp,hx7,hg3'.trans hgg,hWok.grown hgg,hc7,up (k:=0) hX4,up hY4,⟨Z,hZ,up hZ4⟩,up hW4,fun _ b=>?_,fun b k hk=>?_⟩
     . rw[hv7,hg6.ev hx5.ok b hgl,hv5,hv6,(hg3.trans hg5).ev hx2'.ok b hz,(hg3.trans hg5).ev hx2'.ok b hc2,hhv,(hg2.trans hg3).ev hx.ok b hx2,(hg2.trans hg3).ev hx.ok b hy2,hx3,hy3,hg2.ev hx.ok b hc1,hcar1];rfl
     rw[zJ hx4.ok hgg hWok b (by omega),hbits b k hk]
   have h15':¬(i:Int)<15:=(by omega);simp[e9,e14,hi',hi1,hW3,hWl,kR,h15',hw];generalize H3.set (H.length+3) (.cells (qz (W.set i o)))=H4 at *;refine hR _ _ ⟨by simp[e0],by simp[e5],by simp[e6],by simp[e8],by simp[e9],by simp,d3,W.set i o,cn1,by simp[e3],hx4,hg3',hWok,qBt hc2 hg3.len,hX4,hY4,⟨Z,hZ,hZ4⟩,hW4,fun hi=>absurd hi (by omega),hbits⟩
 rintro ev ⟨H1,T1⟩ ⟨e0,e5,e6,e8,e9,e14,d1,W,cn1,e3,hx,hg,hW,hc1,hHX,hHY,⟨Z,hZ,hHZ⟩,hHW,hcar,hb⟩;simp only at hx hHX hHY hHZ hHW;have hWl:=hW.1;have hHl:=(qBa.1 hHZ).1;simp[-getElem?_pos,e8,e9,e14,hHW,hHZ,hWl,qo hWl,zp hWl hZ,hZ,hHl];exact⟨d1,W,rfl,hx.set (by omega) _,hg,hW,fun b k hk=>hb b k hk⟩
end
def JY{x x' y y' c}:∀{k:Nat},(∀j,j<k->x j=x' j)->(∀j,j<k->y j=y' j)->qbI x y c k=qbI x' y' c k
 |0,_,_=>rfl
 | k+1,hx,hy=>by
  unfold qbI;rw[hx k (by omega),hy k (by omega),JY (k:=k) (fun j hj=>hx j (by omega)) (fun j hj=>hy j (by omega))]
section
variable {c:Bc}{d:List Nd}{H:List Blk}{T:List (Option Nat)}
def jp(n:Nat):Pure prog GG 194 [.int .i64 (n:Int)] (.agg (qz (n::List.replicate 15 0))):=by
 refine okzP func194 rfl rfl ?_;simp[zt,zX];exact qFH _
def qno:List (Nat×Sch×List Nat):=[(5,.step 0 [13,12] (.step 1 [13,12] (.step 2 [13,12,11] (.step 3 [13,12,11,10] (.step 4 [13,12,11,10,6,5] (.step 5 [13,12,11,10,6] (.step 6 [13,12,11,10] (.step 7 [13,12,11,10,9,8] (.step 8 [13,12,11,10,9] (.step 9 [13,12,11,10] (.step 10 [13,12,11] (.step 11 [13,12] (.step 12 [13] (.step 13 [] (.done)))))))))))))),[10,11,12])]
def qbc(h:BX c H d H){X Y}(hX:za d X)(hY:za d Y):
 qj prog (XG c) 318 [.ptr c.B 0,.agg (qz X),.agg (qz Y)] ⟨H,T⟩ (NQ c d H fun b=>eqT (qq d b X) (qq d b Y) 16):=by
 refine qFy ⟨false,qno,[],[]⟩ qX func318 rfl (by kernel_rfl) ?_;have hXl:=hX.1;have hYl:=hY.1;have hk:∀j,H.length+j≠c.B:=fun j=>(h.at (by omega)).1
 simp;refine yU 16 (fun i ev U=>ev 0=.ptr c.B 0/\ev 4=.ptr H.length 0/\ev 5=.ptr (H.length+1) 0/\ev 9=.int .i64 (i:Int) /\
  ∃ d' t,ev 7=.int .i64 (t:Nat)/\BX c H d' U.H/\zb d d'/\t<d'.length/\U.H[H.length]?=some (.cells (qz X))/\U.H[H.length+1]?=some (.cells (qz Y)) /\
   ∀b,evD d' b t=eqT (qq d b X) (qq d b Y) i) ?_ ?_ ?_
 . exact⟨by simp,by simp,by simp,by simp,d,1,by simp,h.app _,qF4 d,by have:=h.ok.two;omega,lk0,lk1,fun b=>qe0 h.ok b⟩
 . rintro i ev ⟨H1,T1⟩ R hR hi ⟨e0,e4,e5,e9,d1,t,e7,hx,hg,ht,hHX,hHY,hv⟩;obtain⟨x,hx1,hx2,hx3⟩:=hX.getG h.ok hg hi;obtain⟨y,hy1,hy2,hy3⟩:=hY.getG h.ok hg hi;simp only at hx hHX hHY;have hi':(i:Int)<16:=(by omega);have hi1:i+1<=16:=hi;have hdx:=z4 hx1;have hdy:=z4 hy1;have hw:=wr (n:=(i:Int)+1) (by omega) (by omega);simp[e9,hi'];rw[qP rfl];simp[zc,e0,e4,e5,e7,hi',hi1,hHX,hHY,hXl,hYl,hdx,hdy];refine qFC (qbK c hx.self hx2 hy2) ?_;rintro v ⟨H2,T2⟩ ⟨d2,z,rfl,hxx2,hg2,hz,hv2⟩;dsimp only at hv2;have hx2':=hx.call hxx2;simp[zc];refine qFC (Zf c hx2'.self hz) ?_;rintro v ⟨H3,T3⟩ ⟨d3,u,rfl,hxx3,hg3,hu,hv3⟩;dsimp only at hv3;have hx3':=hx2'.call hxx3;simp[zc];have hg23:=hg2.trans hg3;refine qFC (Zh c hx3'.self (f:=t) (g:=u) (qBt ht hg23.len) hu) ?_;rintro v ⟨H4,T4⟩ ⟨d4,w,rfl,hxx4,hg4,hw4,hv4⟩;dsimp only at hv4;have hx4':=hx3'.call hxx4;have up:∀{k:Nat} {x:Blk},H1[H.length+k]?=some x->H4[H.length+k]?=some x:=fun {k x} hq=>hxx4.loc (hxx3.loc (hxx2.loc hq (hk k)) (hk k)) (hk k)
   simp[zc,e9,hw];refine hR _ _ ⟨by simp[e0],by simp[e4],by simp[e5],by simp,d4,w,by simp,hx4',hg.trans (hg23.trans hg4),hw4,up (k:=0) hHX,up hHY,fun b=>?_⟩;rw[hv4,hg23.ev hx.ok b ht,hv3,hv2,hv,hx3,hy3];rfl
 rintro ev ⟨H1,T1⟩ ⟨e0,e4,e5,e9,d1,t,e7,hx,hg,ht,hHX,hHY,hv⟩;simp[e7,e9];exact⟨d1,t,rfl,hx,hg,ht,hv⟩
def qnr:List (Nat×Sch×List Nat):=[(5,.step 0 [10,9] (.step 1 [10,9,5] (.step 2 [10,9,5,4,3] (.step 3 [10,9,5,4] (.step 4 [10,9,5] (.step 6 [10,9,8,7] (.step 7 [10,9,8] (.fork (.cons 5 (.step 8 [10,9] (.step 9 [10] (.step 10 [] (.done)))) (.cons 8 (.step 5 [10,9] (.step 9 [10] (.step 10 [] (.done)))) (.nil)))))))))),[5,9]),(6,.step 0 [13,12] (.step 1 [13,12,10] (.step 2 [13,12,10,9] (.step 3 [13,12,10,9,5,4] (.step 4 [13,12,10,9,5] (.step 5 [13,12,10,9] (.step 6 [13,12,10,9,8,7] (.step 7 [13,12,10,9,8] (.step 8 [13,12,10,9] (.step 11 [13,12] (.step 9 [13,12,10] (.step 10 [13,12] (.step 12 [13] (.step 13 [] (.done)))))))))))))),[9,10,12])]
def qa0(h:BX c H d H){X Y}(hX:za d X)(hY:za d Y):
 qj prog (XG c) 268 [.ptr c.B 0,.agg (qz X),.agg (qz Y)] ⟨H,T⟩ (NQ c d H fun b=>qeF (qq d b X) (qq d b Y) 16):=by
 refine qFy ⟨false,qnr,[],[]⟩ qX func268 rfl (by kernel_rfl) ?_;have hXl:=hX.1;have hYl:=hY.1;have hk:∀j,H.length+j≠c.B:=fun j=>(h.at (by omega)).1
 simp;refine yU 16 (fun i ev U=>ev 0=.ptr c.B 0/\ev 4=.ptr H.length 0/\ev 5=.ptr (H.length+1) 0/\ev 11=.int .i64 (i:Int) /\
  ∃ d' t,ev 7=.int .i64 (t:Nat)/\BX c H d' U.H/\zb d d'/\t<d'.length/\U.H[H.length]?=some (.cells (qz X))/\U.H[H.length+1]?=some (.cells (qz Y)) /\
   ∀b,evD d' b t=qeF (qq d b X) (qq d b Y) i) ?_ ?_ ?_
 . exact⟨by simp,by simp,by simp,by simp,d,0,by simp,h.app _,qF4 d,by have:=h.ok.two;omega,lk0,lk1,fun b=>YB h.ok b⟩
 . rintro i ev ⟨H1,T1⟩ R hR hi ⟨e0,e4,e5,e11,d1,t,e7,hx,hg,ht,hHX,hHY,hv⟩;obtain⟨x,hx1,hx2,hx3⟩:=hX.getG h.ok hg hi;obtain⟨y,hy1,hy2,hy3⟩:=hY.getG h.ok hg hi;simp only at hx hHX hHY;have hi':(i:Int)<16:=(by omega);have hi1:i+1<=16:=hi;have hdx:=z4 hx1;have hdy:=z4 hy1;have hw:=wr (n:=(i:Int)+1) (by omega) (by omega);simp[e11,hi'];rw[qP rfl];simp[zc,e0,e4,e5,hi',hi1,hHX,hHY,hXl,hYl,hdx,hdy];have key:=Zf c hx.self hx2 (T:=T1);refine⟨qFC key ?_,qFC key ?_⟩
   all_goals
    rintro v ⟨H2,T2⟩ ⟨d2,z,rfl,hxx2,hg2,hz,hv2⟩;dsimp only at hv2;have hx2':=hx.call hxx2;have hX2:=hxx2.loc hHX (hk 0);have hY2:=hxx2.loc hHY (hk 1);dsimp only at hX2 hY2;simp[zc,hi1,hY2,hYl,hdy];refine qFC (Zh c hx2'.self (f:=z) (g:=y) hz (qBt hy2 hg2.len)) ?_;rintro v ⟨H3,T3⟩ ⟨d3,u,rfl,hxx3,hg3,hu,hv3⟩;dsimp only at hv3;have hx3':=hx2'.call hxx3;have hX3:=hxx3.loc hX2 (hk 0);have hY3:=hxx3.loc hY2 (hk 1);have hg23:=hg2.trans hg3;simp;rw[qP rfl];simp[zc,e0,e4,e5,e7,hi',hi1,hX3,hY3,hXl,hYl,hdx,hdy];refine qFC (qbK c hx3'.self (f:=x) (g:=y) (qBt hx2 hg23.len) (qBt hy2 hg23.len)) ?_;rintro v ⟨H4,T4⟩ ⟨d4,q,rfl,hxx4,hg4,hq,hv4⟩;dsimp only at hv4;have hx4':=hx3'.call hxx4;simp[zc];refine qFC (Zf c hx4'.self hq) ?_;rintro v ⟨H5,T5⟩ ⟨d5,nq,rfl,hxx5,hg5,hnq,hv5⟩;dsimp only at hv5;have hx5':=hx4'.call hxx5;simp[zc];have hg35:=hg4.trans hg5;have hg15:=hg23.trans hg35;refine qFC (Zh c hx5'.self (f:=nq) (g:=t) hnq (qBt ht hg15.len)) ?_;rintro v ⟨H6,T6⟩ ⟨d6,a6,rfl,hxx6,hg6,ha6,hv6⟩;dsimp only at hv6;have hx6':=hx5'.call hxx6;simp[zc,e0];have hg36:=hg35.trans hg6;refine qFC (qcB c hx6'.self (f:=u) (g:=a6) (qBt hu hg36.len) ha6) ?_;rintro v ⟨H7,T7⟩ ⟨d7,a7,rfl,hxx7,hg7,ha7,hv7⟩;dsimp only at hv7;have hx7':=hx6'.call hxx7;have up:∀{k:Nat} {x:Blk},H3[H.length+k]?=some x->H7[H.length+k]?=some x:=fun {k x} hq=>hxx7.loc (hxx6.loc (hxx5.loc (hxx4.loc hq (hk k)) (hk k)) (hk k)) (hk k)
    simp[e11,hw];refine hR _ _ ⟨by simp[e0],by simp[e4],by simp[e5],by simp,d7,a7,by simp,hx7',hg.trans (hg15.trans (hg6.trans hg7)),ha7,up (k:=0) hX3,up hY3,fun b=>?_⟩;rw[hv7,hg36.ev hx3'.ok b hu,hv3,hv2,hg2.ev hx.ok b hy2,hv6,hv5,hv4,hg23.ev hx.ok b hx2,hg23.ev hx.ok b hy2,hg15.ev hx.ok b ht,hv,hx3,hy3];rfl
 rintro ev ⟨H1,T1⟩ ⟨e0,e4,e5,e11,d1,t,e7,hx,hg,ht,hHX,hHY,hv⟩;simp[e7,e11];exact⟨d1,t,rfl,hx,hg,ht,hv⟩
def qny:List (Nat×Sch×List Nat):=[(1,.step 0 [6,5] (.step 2 [6,5,4] (.step 3 [6,5,4] (.fork (.cons 1 (.step 4 [6,5] (.step 5 [6] (.step 6 [] (.done)))) (.cons 4 (.step 1 [6,5] (.step 5 [6] (.step 6 [] (.done)))) (.nil)))))),[4,5])]
def Jj(h:BX c H d H){X Y}(hX:za d X)(hY:za d Y):
 qj prog (XG c) 197 [.ptr c.B 0,.agg (qz X),.agg (qz Y)] ⟨H,T⟩ (BQ c d H fun b=>qpE (qq d b X) (fun k=>!qq d b Y k) true):=by
 refine qFy ⟨false,qny,[],[]⟩ qX func197 rfl (by kernel_rfl) ?_;have hXl:=hX.1;have hYl:=hY.1;have hk:∀j,H.length+j≠c.B:=fun j=>(h.at (by omega)).1
 simp;rw[qP rfl,jN];have hx1:=h.app [.cells (qz X),.cells (qz Y),.cells (qz zg)];have hHX:(H++[Blk.cells (qz X),.cells (qz Y),.cells (qz zg)])[H.length]?=some (.cells (qz X)):=lk0;have hHY:(H++[Blk.cells (qz X),.cells (qz Y),.cells (qz zg)])[H.length+1]?=some (.cells (qz Y)):=lk1;have hHZ:(H++[Blk.cells (qz X),.cells (qz Y),.cells (qz zg)])[H.length+2]?=some (.cells (qz zg)):=lk2;generalize H++[Blk.cells (qz X),.cells (qz Y),.cells (qz zg)]=H1 at *;simp[zc,hHX,hHY,hXl,hYl,qo hXl,qo hYl];have key:=Jm hx1.self hY (T:=T);refine⟨qFC key ?_,qFC key ?_⟩
 all_goals
  rintro v ⟨H2,T2⟩ ⟨d2,W,rfl,hxx2,hg2,hW,hv2⟩;have hx2':=hx1.call hxx2;have hX2:=hxx2.loc hHX (hk 0);have hZ2:=hxx2.loc hHZ (hk 2);simp[zc,hX2,hXl,qo hXl];have ht:=hx2'.ok.two;refine qFC (qfE hx2'.self (hX.grown hg2) hW (cn:=1) (by omega)) ?_;rintro v ⟨H3,T3⟩ ⟨d3,V,rfl,hxx3,hg3,hV,hv3⟩;dsimp only at hv3;have hx3':=hx2'.call hxx3;have hZ3:=hxx3.loc hZ2 (hk 2);dsimp only at hZ3;have hVl:=hV.1;have hl3:=(qBa.1 hZ3).1;simp[-getElem?_pos,zc,hZ3,hVl,qo hVl,zp hVl (show(qz zg).length=16 from rfl),qT,hl3];refine⟨d3,V,rfl,hx3'.set (by omega) _,hg2.trans hg3,hV,fun b k hk=>?_⟩;rw[hv3 b k hk];unfold qpE;rw[hv2 b k hk,zJ h.ok hg2 hX b hk,qe0 hx2'.ok];congr 1;exact JY (fun j hj=>zJ h.ok hg2 hX b (by omega)) (fun j hj=>hv2 b j (by omega))
end
def UQ(c:Bc)(d:List Nd)(H:List Blk)(v:(Nat->Bool)->Nat)(r:AV)(U':St):Prop :=
 ∃d' W,r=.agg (qz W)/\BX c H d' U'.H/\zb d d'/\za d' W/\∀b,zs (qq d' b W) 16=v b
def qgS:((List.range 16).map fun k=>if Nat.testBit 0 k=true then 1 else 0)=zg:=by decide
def wU{d d'}(hd:DagOk d)(hg:zb d d'){w}(h:za d w)(b):zs (qq d' b w) 16=zs (qq d b w) 16:=zu fun k hk=>zJ hd hg h b hk
section
variable {c:Bc}{d:List Nd}{H:List Blk}{T:List (Option Nat)}
def qnq:List (Nat×Sch×List Nat):=[(9,.step 0 [12,11] (.step 1 [12,11,10] (.step 2 [12,11,10,6,5,4] (.step 3 [12,11,10,6,5,4] (.step 4 [12,11,10,6,5] (.step 5 [12,11,10,6] (.step 6 [12,11,10] (.step 7 [12,11,10,9,8] (.step 8 [12,11,10,9] (.step 9 [12,11,10] (.step 10 [12,11] (.step 11 [12] (.step 12 [] (.done))))))))))))),[10])]
def qhS(h:BX c H d H){X Y}(hX:za d X)(hY:za d Y):
 qj prog (XG c) 271 [.ptr c.B 0,.agg (qz X),.agg (qz Y)] ⟨H,T⟩ (UQ c d H fun b=>qsh (zs (qq d b X) 16) (qq d b Y) 16 16):=by
 refine qFy ⟨false,qnq,[],[]⟩ qX func271 rfl (by kernel_rfl) ?_;have hXl:=hX.1;have hYl:=hY.1;have hk:∀j,H.length<=j->j≠c.B:=fun j hj=>(h.at hj).1
 have hc0:=yv 0 (by omega);rw[qgS]at hc0;simp only[qCy]at hc0;simp;refine qFz hc0 rfl ?_;simp[jN,zp (w:=zg) rfl (show(qz zg).length=16 from rfl),qT];refine yU 16 (fun i ev U=>ev 0=.ptr c.B 0/\ev 4=.ptr H.length 0/\ev 5=.ptr (H.length+1) 0/\ev 6=.ptr (H.length+2) 0/\ev 7=.ptr (H.length+3) 0/\ev 12=.int .i64 (i:Int) /\
  ∃ d' S,BX c H d' U.H/\zb d d'/\za d' S/\U.H[H.length]?=some (.cells (qz X))/\U.H[H.length+1]?=some (.cells (qz Y))/\U.H[H.length+2]?=some (.cells (qz zg))/\U.H[H.length+3]?=some (.cells (qz S)) /\
   ∀b,zs (qq d' b S) 16=qsh (zs (qq d b X) 16) (qq d b Y) 16 i) ?_ ?_ ?_
 . refine⟨by simp,by simp,by simp,by simp,by simp,by simp,d,zg,h.app _,qF4 d,wA h.ok,lk0,lk1,lk2,lk3,fun b=>?_⟩
   . rw[wb fun k _=>kU h.ok b k];rfl
 . rintro i ev ⟨H1,T1⟩ R hR hi ⟨e0,e4,e5,e6,e7,e12,d1,S,hx,hg,hS,hHX,hHY,hHZ,hHS,hv⟩;obtain⟨y,hy1,hy2,hy3⟩:=hY.getG h.ok hg hi;have hi':(i:Int)<16:=(by omega);have hi1:i+1<=16:=hi;have hdy:=z4 hy1;have hw:=wr (n:=(i:Int)+1) (by omega) (by omega);have hHl:=hx.kp.1;simp[e12,hi',jN];have hx0:=hx.app [.cells (qz zg)];have aHX:=qd hHX [.cells (qz zg)];have aHY:=qd hHY [.cells (qz zg)];have aHZ:=qd hHZ [.cells (qz zg)];have aHS:=qd hHS [.cells (qz zg)];have aHP:(H1++[Blk.cells (qz zg)])[H1.length]?=some (.cells (qz zg)):=lk0;have hSl:=(qBa.1 hHS).1;generalize H1.length=N at *;generalize H1++[Blk.cells (qz zg)]=H1' at *;refine qFE (fun n ev U=>ev 0=.ptr c.B 0/\ev 4=.ptr H.length 0/\ev 5=.ptr (H.length+1) 0/\ev 6=.ptr (H.length+2) 0/\ev 7=.ptr (H.length+3) 0/\ev 8=.int .i64 (i:Int)/\ev 9=.ptr N 0/\ev 12=.int .i64 (i:Int) /\
    ∃j d' P,n=16-j/\i<=j/\j<=16/\ev 10=.int .i64 (j:Int)/\BX c H d' U.H/\zb d1 d'/\za d' P/\U.H[H.length]?=some (.cells (qz X))/\U.H[H.length+1]?=some (.cells (qz Y))/\U.H[H.length+2]?=some (.cells (qz zg))/\U.H[H.length+3]?=some (.cells (qz S))/\U.H[N]?=some (.cells (qz P)) /\
    ∀b k,k<16->qq d' b P k=(decide (k<j)&&(qq d b Y i&&(decide (i<=k)&&qq d b X (k-i))))) (16-i) ?_ ?_
   . refine⟨by simp[e0],by simp[e4],by simp[e5],by simp[e6],by simp[e7],by simp,by simp,by simp[e12],i,d1,zg,rfl,qBl _,by omega,by simp,hx0,qF4 d1,wA hx.ok,aHX,aHY,aHZ,aHS,aHP,fun b k hk=>?_⟩;rw[kU hx.ok];by_cases h1:k<i
     . have:¬i<=k:=by omega
       simp[this]
     simp[h1]
   rintro n ev ⟨H2,T2⟩ R2 hR2 ⟨e0,e4,e5,e6,e7,e8,e9,e12,j,d2,P,rfl,hij,hj16,e10,hx2,hg2,hP,bX,bY,bZ,bS,bP,hb⟩;have hPl:=hP.1;have hSl2:=hS.1;have hg02:=hg.trans hg2;by_cases hj:j<16
   . have hj':(j:Int)<16:=(by omega);have hj1:j+1<=16:=hj;have hwj:=wr (n:=(j:Int)+1) (by omega) (by omega);have hwd:=wr (n:=(j:Int)-i) (by omega) (by omega);have hsub:(j:Int)-i=((j-i:Nat):Int):=(by omega);rw[hsub]at hwd;have hjl:j-i<16:=(by omega);have hjl1:j-i+1<=16:=(by omega);have hjl2:((j-i:Nat):Int)<16:=(by omega);obtain⟨x,hx1,hx2',hx3⟩:=hX.getG h.ok hg02 hjl;have hdx:=z4 hx1;have hyl:y<d2.length:=qBt hy2 hg2.len;generalize hm:j-i=m at *;simp[e10,hj'];rw[qP rfl];simp[zc,e0,e4,e5,e8,e10,hi',hi1,hsub,hwd,hjl1,hjl2,bX,bY,hXl,hYl,hdx,hdy];refine qFC (Zh c hx2.self hx2' hyl) ?_;rintro v ⟨H3,T3⟩ ⟨d3,z,rfl,hxx3,hg3,hz,hv3⟩;dsimp only at hv3;have hx3':=hx2.call hxx3;have up:∀{k:Nat} {x:Blk},H.length<=k->H2[k]?=some x->H3[k]?=some x:=fun {k x} hl hq=>hxx3.loc hq (hk k hl)
     have cP:=up (by omega) bP;have hPl3:=(qBa.1 cP).1;simp[zc,e9,e10,hj',hj1,cP,hPl,kR,hwj];refine hR2 (16-(j+1)) _ _ (by omega) ⟨by simp[e0],by simp[e4],by simp[e5],by simp[e6],by simp[e7],by simp[e8],by simp[e9],by simp[e12],j+1,d3,P.set j z,rfl,by omega,by omega,by simp,hx3'.set (by omega) _,hg2.trans hg3,(hP.grown hg3).set hz,?_,?_,?_,?_,qBg hPl3,fun b k hk=>?_⟩
     . rw[qBd (by omega)];exact up (by omega) bX
     . rw[qBd (by omega)];exact up (by omega) bY
     . rw[qBd (by omega)];exact up (by omega) bZ
     . rw[qBd (by omega)];exact up (by omega) bS
     rw[ve (by omega)];by_cases hkj:k=j
     . subst hkj;rw[if_pos rfl,hv3,hx3,hg2.ev hx.ok b hy2,hy3,hm];simp[hij,Bool.and_comm]
     rw[if_neg hkj,zJ hx2.ok hg3 hP b hk,hb b k hk];by_cases h1:k<j
     . have h2:k<j+1:=(by omega);simp[h1,h2]
     have h2:¬k<j+1:=(by omega);simp[h1,h2]
   have hj0:j=16:=(by omega);subst hj0;simp[e0,e7,e9,e10,bS,bP,hSl2,hPl,qo hSl2,qo hPl];have ht:=hx2.ok.two;have hSS:=hS.grown hg2;refine qFC (qfE hx2.self hSS hP (cn:=0) (by omega)) ?_;rintro v ⟨H3,T3⟩ ⟨d3,V,rfl,hxx3,hg3,hV,hv3⟩;dsimp only at hv3;have hx3':=hx2.call hxx3;have up:∀{k:Nat} {x:Blk},H.length<=k->H2[k]?=some x->H3[k]?=some x:=fun {k x} hl hq=>hxx3.loc hq (hk k hl)
   have cS:=up (by omega) bS;have hSl3:=(qBa.1 cS).1;have hVl:=hV.1;simp[e7,e12,cS,hVl,hSl2,zp hVl (show(qz S).length=16 by rw[jL,hSl2]),hw];refine hR _ _ ⟨by simp[e0],by simp[e4],by simp[e5],by simp[e6],by simp[e7],by simp,d3,V,hx3'.set (by omega) _,hg02.trans hg3,hV,?_,?_,?_,qBg hSl3,fun b=>?_⟩
   . rw[qBd (by omega)];exact up (by omega) bX
   . rw[qBd (by omega)];exact up (by omega) bY
   . rw[qBd (by omega)];exact up (by omega) bZ
   have hs:zs (qq d3 b V) 16=zs (fun k=>(qq d2 b S k ^^ qq d2 b P k) ^^ qbI (qq d2 b S) (qq d2 b P) false k) 16:=zu fun k hk=>by rw[hv3 b k hk,YB hx2.ok];rfl
   have hp:zs (qq d2 b P) 16=cond (qq d b Y i) ((zs (qq d b X) 16*2^i)%2^16) 0:=by
    cases hy:qq d b Y i with
    | true=>
     rw[cond_true,<- qje];exact zu fun k hk=>by rw[hb b k hk,hy];simp[hk]
    | false=>
     rw[cond_false];exact wb fun k hk=>by rw[hb b k hk,hy];simp
   rw[hs,wC,hp,wU hx.ok hg2 hS b,hv b];simp[qsh,b2n]
 rintro ev ⟨H1,T1⟩ ⟨e0,e4,e5,e6,e7,e12,d1,S,hx,hg,hS,hHX,hHY,hHZ,hHS,hv⟩;have hSl:=hS.1;have hHl:=(qBa.1 hHZ).1;simp[-getElem?_pos,e6,e7,e12,hHS,hHZ,hSl,qo hSl,zp hSl (show(qz zg).length=16 from rfl),qT,hHl];exact⟨d1,S,rfl,hx.set (by omega) _,hg,hS,hv⟩
end
section
variable {c:Bc}{d:List Nd}{H:List Blk}{T:List (Option Nat)}
def qnv:List (Nat×Sch×List Nat):=[(4,.step 0 [10,9] (.step 1 [10,9,8] (.step 2 [10,9,8,4,3] (.step 3 [10,9,8,4] (.step 4 [10,9,8] (.step 5 [10,9,8,7,6] (.step 6 [10,9,8,7] (.step 7 [10,9,8] (.step 8 [10,9] (.step 9 [10] (.step 10 [] (.done))))))))))),[8])]
def YS(h:BX c H d H){X Y:List Nat}(hX:za d X)(hY:za d Y){g:Nat}{first cap:List AV}{F:(Nat->Bool)->Bool->Bool->Bool}
 (hF:∀d1 H1 T1 (x y:Nat),BX c H d1 H1->zb d d1->x<d1.length->y<d1.length->qj prog (XG c) g (kg first [.int .i64 x,.int .i64 y] cap) ⟨H1,T1⟩ (NQ c d1 H1 fun b=>F b (evD d1 b x) (evD d1 b y))):
 qj prog (XG c) 200 [.agg (qz X),.agg (qz Y),.fn g first cap] ⟨H,T⟩ (BQ c d H fun b k=>F b (qq d b X k) (qq d b Y k)):=by
 refine qFy ⟨false,qnv,[],[]⟩ qX func200 rfl (by kernel_rfl) ?_;have hYl:=hY.1;have hk:∀j,H.length<=j->j≠c.B:=fun j hj=>(h.at hj).1
 simp[jN];refine yU 16 (fun i ev U=>ev 2=.fn g first cap/\ev 3=.ptr H.length 0/\ev 4=.ptr (H.length+1) 0/\ev 6=.ptr (H.length+2) 0/\ev 8=.int .i64 (i:Int) /\
  ∃ d' W,BX c H d' U.H/\zb d d'/\za d' W/\U.H[H.length]?=some (.cells (qz W))/\U.H[H.length+1]?=some (.cells (qz Y))/\U.H[H.length+2]?=some (.cells (qz zg)) /\
   ∀b k,k<16->qq d' b W k=if k<i then F b (qq d b X k) (qq d b Y k) else qq d b X k) ?_ ?_ ?_
 . exact⟨by simp,by simp,by simp,by simp,by simp,d,X,h.app _,qF4 d,hX,lk0,lk1,lk2,fun b k hk=>by simp⟩
 . rintro i ev ⟨H1,T1⟩ R hR hi ⟨e2,e3,e4,e6,e8,d1,W,hx,hg,hW,hHX,hHY,hHZ,hb⟩;obtain⟨x,hx1,hx2,_,hx3⟩:=hW.get hi;obtain⟨y,hy1,hy2,hy3⟩:=hY.getG h.ok hg hi;have hWl:=hW.1;have hi':(i:Int)<16:=(by omega);have hi1:i+1<=16:=hi;have hdx:=z4 hx1;have hdy:=z4 hy1;have hw:=wr (n:=(i:Int)+1) (by omega) (by omega);simp[e8,hi',hi1];rw[qP rfl];simp[-kg,zc,e2,e3,e4,hi',hi1,hHX,hHY,hWl,hYl,hdx,hdy];refine qFC (hF d1 H1 T1 x y hx hg hx2 hy2) ?_;rintro v ⟨H2,T2⟩ ⟨d2,z,rfl,hxx2,hg2,hz,hv2⟩;dsimp only at hv2;have hx2':=hx.call hxx2;have up:∀{k:Nat} {x:Blk},H.length<=k->H1[k]?=some x->H2[k]?=some x:=fun {k x} hl hq=>hxx2.loc hq (hk k hl)
   have cX:=up (by omega) hHX;have hl2:=(qBa.1 cX).1;simp[zc,e3,e8,hi',hi1,cX,hWl,kR,hw];refine hR _ _ ⟨by simp[e2],by simp[e3],by simp[e4],by simp[e6],by simp,d2,W.set i z,hx2'.set (by omega) _,hg.trans hg2,(hW.grown hg2).set hz,qBg hl2,?_,?_,fun b k hk=>?_⟩
   . rw[qBd (by omega)];exact up (by omega) hHY
   . rw[qBd (by omega)];exact up (by omega) hHZ
   rw[ve (by omega)];by_cases hki:k=i
   . subst hki;have hbk:=hb b k hk;rw[if_neg (by omega)]at hbk;rw[if_pos rfl,if_pos (by omega),hv2,hy3,<- hx3,hbk]
   rw[if_neg hki,zJ hx.ok hg2 hW b hk,hb b k hk];by_cases h1:k<i
   . rw[if_pos h1,if_pos (by omega)]
   rw[if_neg h1,if_neg (by omega)]
 rintro ev ⟨H1,T1⟩ ⟨e2,e3,e4,e6,e8,d1,W,hx,hg,hW,hHX,hHY,hHZ,hb⟩;have hWl:=hW.1;have hHl:=(qBa.1 hHZ).1;simp[-getElem?_pos,e3,e6,e8,hHX,hHZ,hWl,qo hWl,zp hWl (show(qz zg).length=16 from rfl),qT,hHl];exact⟨d1,W,rfl,hx.set (by omega) _,hg,hW,fun b k hk=>by rw[hb b k hk,if_pos hk]⟩
def qnx:List (Nat×Sch×List Nat):=[(5,.step 0 [5,4] (.step 1 [5,4] (.step 2 [5,4,3] (.step 3 [5,4] (.step 4 [5] (.step 5 [] (.done)))))),[4])]
def qcE{d}(h:DagOk d){n}(hn:n<d.length):za d (n::List.replicate 15 0):=⟨rfl,fun i hi=>by
 rcases qBz.1 hi with rfl|hi
 . exact hn
 rw[qC4]at hi;rw[hi.2];have:=h.two;omega⟩
def qge{d}(h:DagOk d)(b n k):qq d b (n::List.replicate 15 0) k=(decide (k=0)&&evD d b n):=by
 unfold qq
 cases k with
 |zero=>simp
 | succ k=>
  have:(n::List.replicate 15 0).getD (k+1) 0=0:=by
   simp only[qBi,qDG,qEf];split<;>rfl
  rw[this,YB h];simp
def qr0(h:BX c H d H){X}(hX:za d X):
 qj prog (XG c) 198 [.ptr c.B 0,.agg (qz X)] ⟨H,T⟩ (UQ c d H fun b=>qaN (qq d b X) 16):=by
 refine qFy ⟨false,qnx,[],[]⟩ qX func198 rfl (by kernel_rfl) ?_;have hXl:=hX.1;have hk:∀j,H.length<=j->j≠c.B:=fun j hj=>(h.at hj).1
 have hc0:=yv 0 (by omega);rw[qgS]at hc0;simp only[qCy]at hc0;simp;refine qFz hc0 rfl ?_;simp[hXl,qo hXl,jN,zp (w:=zg) rfl (show(qz zg).length=16 from rfl),qT];refine yU 16 (fun i ev U=>ev 0=.ptr c.B 0/\ev 4=.ptr (H.length+1) 0/\ev 5=.ptr (H.length+2) 0/\ev 9=.agg (qz X)/\ev 10=.int .i64 (i:Int) /\
  ∃ d' S,BX c H d' U.H/\zb d d'/\za d' S/\U.H[H.length+1]?=some (.cells (qz zg))/\U.H[H.length+2]?=some (.cells (qz S)) /\
   ∀b,zs (qq d' b S) 16=qaN (qq d b X) i) ?_ ?_ ?_
 . exact⟨by simp,by simp,by simp,by simp,by simp,d,zg,h.app _,qF4 d,wA h.ok,lk1,lk2,fun b=>by rw[wb fun k _=>kU h.ok b k];rfl⟩
 . rintro i ev ⟨H1,T1⟩ R hR hi ⟨e0,e4,e5,e9,e10,d1,S,hx,hg,hS,hHZ,hHS,hv⟩;obtain⟨x,hx1,hx2,hx3⟩:=hX.getG h.ok hg hi;have hSl:=hS.1;have hi1:i+1<=16:=hi;have hdx:=z4 hx1;have hw:=wr (n:=(i:Int)+1) (by omega) (by omega);simp[e9,e10,show(i:Int)<16 by omega,hi1,hXl,hdx];rw[qP rfl];simp[zc,e0,e5,hHS,hSl,qo hSl];refine qFz (jp x) rfl ?_;simp[zc,e10];have h1:=qcE hx.ok hx2;have hs:=qfE hx.self hS h1 (cn:=0) (T:=T1) (by omega);simp only[List.reduceReplicate,qCy]at hs;refine qFC hs ?_;rintro v ⟨H2,T2⟩ ⟨d2,V,rfl,hxx2,hg2,hV,hv2⟩;dsimp only at hv2;have hx2':=hx.call hxx2;have up:∀{k:Nat} {x:Blk},H.length<=k->H1[k]?=some x->H2[k]?=some x:=fun {k x} hl hq=>hxx2.loc hq (hk k hl)
   have cS:=up (by omega) hHS;have hl2:=(qBa.1 cS).1;have hVl:=hV.1;simp[zc,e5,e10,cS,hVl,hSl,zp hVl (show(qz S).length=16 by rw[jL,hSl]),hw];refine hR _ _ ⟨by simp[e0],by simp[e4],by simp[e5],by simp[e9],by simp,d2,V,hx2'.set (by omega) _,hg.trans hg2,hV,?_,qBg hl2,fun b=>?_⟩
   . rw[qBd (by omega)];exact up (by omega) hHZ
   have e1:zs (qq d2 b V) 16=zs (fun k=>(qq d1 b S k ^^ (decide (k=0)&&evD d1 b x)) ^^ qbI (qq d1 b S) (fun k=>decide (k=0)&&evD d1 b x) false k) 16:=zu fun k hk=>by
    rw[hv2 b k hk,YB hx.ok];have:=qge hx.ok b x;simp only[List.reduceReplicate]at this;unfold qpE;rw[this k,JY (x':=qq d1 b S) (y':=fun k=>decide (k=0)&&evD d1 b x) (fun j _=>rfl) (fun j _=>this j)]
   rw[e1,wC,qar _ 15,hv b,hx3];have:=qgb (qq d b X) i;have h2:b2n (qq d b X i)<=1:=(by cases qq d b X i<;>simp[b2n]);show(qaN _ i+b2n _+0)%2^16=qaN _ i+b2n _;rw[qCB];exact qDm (by omega)
 rintro ev ⟨H1,T1⟩ ⟨e0,e4,e5,e9,e10,d1,S,hx,hg,hS,hHZ,hHS,hv⟩;have hSl:=hS.1;have hHl:=(qBa.1 hHZ).1;simp[-getElem?_pos,e4,e5,e10,hHS,hHZ,hSl,qo hSl,zp hSl (show(qz zg).length=16 from rfl),qT,hHl];exact⟨d1,S,rfl,hx.set (by omega) _,hg,hS,hv⟩
end
def shB(up:Bool)(x:Nat->Bool)(s k:Nat):Bool:=if up=true then decide (s<=k)&&x (k-s) else decide (k+s<16)&&x (k+s)
def qgR(up:Bool):Int:=if up=true then 1 else -1
def Yz(up:Bool)(s k:Nat):Int:=(k:Int)-qgR up*s
def qsH{up s k}(hs:s<16)(hk:k<16)(h:0<=Yz up s k/\Yz up s k<16):∃m:Nat,Yz up s k=m/\m<16/\∀x,shB up x s k=x m:=by
 unfold Yz qgR shB at *
 cases up with
 | true=>
  simp at h⊢;exact⟨k-s,by omega,by omega,fun x=>by
   have:s<=k:=by omega
   simp[this]⟩
 | false=>
  simp at h⊢;exact⟨k+s,by omega,by omega,fun x=>by
   have:k+s<16:=by omega
   simp[this]⟩
def qsI{up s k}(hs:s<16)(hk:k<16)(h:¬(0<=Yz up s k/\Yz up s k<16)):∀x,shB up x s k=false:=by
 unfold Yz qgR shB at *;intro x
 cases up with
 | true=>
  simp at h⊢;intro h1;omega
 | false=>
  simp at h⊢;intro h1;omega
def WH{d}(h:DagOk d)(n:Nat):za d ((List.range 16).map fun k=>if n.testBit k=true then 1 else 0):=⟨by simp,fun i hi=>by
 obtain⟨k,_,rfl⟩:=qBA.1 hi;have:=h.two;split<;>omega⟩
def qe4{d}(h:DagOk d)(b)(n:Nat){k}(hk:k<16):qq d b ((List.range 16).map fun k=>if n.testBit k=true then 1 else 0) k=n.testBit k:=by
 unfold qq;have:((List.range 16).map fun k=>if n.testBit k=true then 1 else 0).getD k 0=if n.testBit k=true then 1 else 0:=by
  rw[qBi,qBD,qDW hk];rfl
 rw[this]
 cases n.testBit k with
 |true=>simpa using qe0 h b
 |false=>simpa using YB h b
def JV{d}(h:DagOk d)(b){n}(hn:n<65536):zs (qq d b ((List.range 16).map fun k=>if n.testBit k=true then 1 else 0)) 16=n:=by
 rw[zu fun k hk=>qe4 h b n hk,J5];exact qDm hn
section
variable {c:Bc}{d:List Nd}{H:List Blk}{T:List (Option Nat)}
def qnp:List (Nat×Sch×List Nat):=[(5,.step 0 [5,4] (.step 1 [5,4] (.step 2 [5,4,3] (.step 3 [5,4] (.step 4 [5] (.step 5 [] (.done)))))),[4]),(11,.step 0 [13,12] (.step 1 [13,12,11] (.step 2 [13,12,11,4,3] (.step 3 [13,12,11,4] (.step 5 [13,12,11,10] (.step 6 [13,12,11,10] (.step 7 [13,12,11,10,9,8] (.step 8 [13,12,11,10,9] (.step 9 [13,12,11,10] (.fork (.cons 4 (.step 10 [13,12,11] (.step 11 [13,12] (.step 12 [13] (.step 13 [] (.done))))) (.cons 10 (.step 4 [13,12,11] (.step 11 [13,12] (.step 12 [13] (.step 13 [] (.done))))) (.nil)))))))))))),[10,11])]
def qfJ(h:BX c H d H){X Y}(hX:za d X)(hY:za d Y)(up):
 qj prog (XG c) 273 [.ptr c.B 0,.agg (qz X),.agg (qz Y),.int .i64 (qgR up)] ⟨H,T⟩ (BQ c d H fun b k=>decide (zs (qq d b Y) 16<16)&&shB up (qq d b X) (zs (qq d b Y) 16) k):=by
 refine qFy ⟨false,qnp,[],[]⟩ qX func273 rfl (by kernel_rfl) ?_;have hXl:=hX.1;have hYl:=hY.1;have hk:∀j,H.length<=j->j≠c.B:=fun j hj=>(h.at hj).1
 have hc0:=yv 0 (by omega);rw[qgS]at hc0;simp only[qCy]at hc0;simp;refine qFz hc0 rfl ?_;simp[jN,zp (w:=zg) rfl (show(qz zg).length=16 from rfl),qT];refine yU 16 (fun s ev U=>ev 0=.ptr c.B 0/\ev 3=.int .i64 (qgR up)/\ev 5=.ptr H.length 0/\ev 6=.ptr (H.length+1) 0/\ev 8=.ptr (H.length+2) 0/\ev 9=.ptr (H.length+3) 0/\ev 15=.int .i64 (s:Int) /\
  ∃ d' S,BX c H d' U.H/\zb d d'/\za d' S/\U.H[H.length]?=some (.cells (qz X))/\U.H[H.length+1]?=some (.cells (qz Y))/\U.H[H.length+2]?=some (.cells (qz zg))/\U.H[H.length+3]?=some (.cells (qz S)) /\
   ∀b k,k<16->qq d' b S k=(decide (zs (qq d b Y) 16<s)&&shB up (qq d b X) (zs (qq d b Y) 16) k)) ?_ ?_ ?_
 . exact⟨by simp,by simp,by simp,by simp,by simp,by simp,by simp,d,zg,h.app _,qF4 d,wA h.ok,lk0,lk1,lk2,lk3,fun b k hk=>by rw[kU h.ok];simp⟩
 . rintro s ev ⟨H1,T1⟩ R hR hs ⟨e0,e3,e5,e6,e8,e9,e15,d1,S,hx,hg,hS,hHX,hHY,hHZ,hHS,hb⟩;have hSl:=hS.1;have hw:=wr (n:=(s:Int)+1) (by omega) (by omega);simp[e15,show(s:Int)<16 by omega];rw[qP rfl];simp[zc,e0,e6,hHY,hYl,qo hYl];refine qFz (yv s (by omega)) rfl ?_;simp[zc];refine qFC (qbc hx.self (hY.grown hg) (WH hx.ok s)) ?_;rintro v ⟨H2,T2⟩ ⟨d2,t,rfl,hxx2,hg2,ht,hv2⟩;dsimp only at hv2;have hx2':=hx.call hxx2;have up2:∀{k:Nat} {x:Blk},H.length<=k->H1[k]?=some x->H2[k]?=some x:=fun {k x} hl hq=>hxx2.loc hq (hk k hl)
   have htv:∀b,evD d2 b t=decide (zs (qq d b Y) 16=s):=fun b=>by
    rw[hv2,qbd,JV hx.ok b (by omega),wU h.ok hg hY b]
   simp[zc];refine yU 16 (fun i ev U=>ev 0=.ptr c.B 0/\ev 3=.int .i64 (qgR up)/\ev 5=.ptr H.length 0/\ev 6=.ptr (H.length+1) 0/\ev 8=.ptr (H.length+2) 0/\ev 9=.ptr (H.length+3) 0/\ev 10=.int .i64 (s:Int)/\ev 11=.int .i64 (t:Int)/\ev 15=.int .i64 (s:Int)/\ev 23=.int .i64 (i:Int) /\
    ∃ d' P,BX c H d' U.H/\zb d2 d'/\za d' P/\U.H[H.length]?=some (.cells (qz X))/\U.H[H.length+1]?=some (.cells (qz Y))/\U.H[H.length+2]?=some (.cells (qz zg))/\U.H[H.length+3]?=some (.cells (qz P)) /\
     ∀b k,k<16->qq d' b P k=(qq d1 b S k||(decide (k<i)&&(evD d2 b t&&shB up (qq d b X) s k)))) ?_ ?_ ?_
   . exact⟨by simp[e0],by simp[e3],by simp[e5],by simp[e6],by simp[e8],by simp[e9],by simp,by simp,by simp[e15],by simp,d2,S,hx2',qF4 d2,hS.grown hg2,up2 (by omega) hHX,up2 (by omega) hHY,up2 (by omega) hHZ,up2 (by omega) hHS,fun b k hk=>by rw[zJ hx.ok hg2 hS b hk];simp⟩
   . rintro i ev ⟨H3,T3⟩ R2 hR2 hi ⟨e0,e3,e5,e6,e8,e9,e10,e11,e15,e23,d3,P,hx3,hg3,hP,bX,bY,bZ,bS,hpb⟩;have hPl:=hP.1;have hg03:=hg.trans (hg2.trans hg3);have hi':(i:Int)<16:=(by omega);have hi1:i+1<=16:=hi;have hwi:=wr (n:=(i:Int)+1) (by omega) (by omega);have hdm:-16<qgR up*(s:Int)/\qgR up*(s:Int)<16:=(by unfold qgR;cases up<;>simp<;>omega);have hwm:=wr (n:=qgR up*(s:Int)) (by omega) (by omega);have hwf:=wr (n:=(i:Int)-qgR up*s) (by omega) (by omega);have hff:(i:Int)-qgR up*s=Yz up s i:=rfl;rw[hff]at hwf;by_cases hrg:0<=Yz up s i/\Yz up s i<16
     . obtain⟨m,hm,hm16,hmx⟩:=qsH hs hi hrg;obtain⟨hrg1,hrg2⟩:=hrg;obtain⟨x,hx1,hx2,hx3'⟩:=hX.getG h.ok hg03 hm16;obtain⟨p,hp1,hp2,_,hp4⟩:=hP.get hi;have hdx:=z4 hx1;have hdp:=z4 hp1;have htl:t<d3.length:=qBt ht hg3.len;have hm1:m+1<=16:=hm16;have hm2:(m:Int)<16:=(by omega);rw[hm]at hwf hrg1 hrg2;rw[hm]at hff;simp[e3,e10,e23,hi',hwm,hff,hwf,hm2];rw[qP rfl];simp[zc,e0,e5,e9,e11,hi',hi1,hm2,hm1,bX,bS,hXl,hPl,hdx,hdp];have key:=Zh c hx3.self (f:=t) (g:=x) htl hx2 (T:=T3);refine⟨qFC key ?_,qFC key ?_⟩
       all_goals
        rintro v ⟨H4,T4⟩ ⟨d4,z,rfl,hxx4,hg4,hz,hv4⟩;dsimp only at hv4;have hx4':=hx3.call hxx4;have up4:∀{k:Nat} {x:Blk},H.length<=k->H3[k]?=some x->H4[k]?=some x:=fun {k x} hl hq=>hxx4.loc hq (hk k hl)
        have cS:=up4 (by omega) bS;simp[zc,hi1,cS,hPl,hdp];refine qFC (qcB c hx4'.self (f:=p) (g:=z) (qBt hp2 hg4.len) hz) ?_;rintro v ⟨H5,T5⟩ ⟨d5,y,rfl,hxx5,hg5,hy,hv5⟩;dsimp only at hv5;have hx5':=hx4'.call hxx5;have up5:∀{k:Nat} {x:Blk},H.length<=k->H3[k]?=some x->H5[k]?=some x:=fun {k x} hl hq=>hxx5.loc (up4 hl hq) (hk k hl)
        have cS5:=up5 (by omega) bS;have hl5:=(qBa.1 cS5).1;simp[zc,e9,e23,hi',hi1,cS5,hPl,kR,hwi];refine hR2 _ _ ⟨by simp[e0],by simp[e3],by simp[e5],by simp[e6],by simp[e8],by simp[e9],by simp[e10],by simp[e11],by simp[e15],by simp,d5,P.set i y,hx5'.set (by omega) _,hg3.trans (hg4.trans hg5),(hP.grown (hg4.trans hg5)).set hy,?_,?_,?_,qBg hl5,fun b k hk=>?_⟩
        . rw[qBd (by omega)];exact up5 (by omega) bX
        . rw[qBd (by omega)];exact up5 (by omega) bY
        . rw[qBd (by omega)];exact up5 (by omega) bZ
        rw[ve (by omega)];by_cases hki:k=i
        . subst hki;rw[if_pos rfl,hv5,hg4.ev hx3.ok b hp2,hv4,<- hp4,hpb b k hk,hg3.ev hx2'.ok b ht,hx3',hmx];simp
        rw[if_neg hki,zJ hx3.ok (hg4.trans hg5) hP b hk,hpb b k hk];by_cases h1:k<i
        . have h2:k<i+1:=(by omega);simp[h1,h2]
        have h2:¬k<i+1:=(by omega);simp[h1,h2]
     have hno:=qsI hs hi hrg;have fin:∀ev',ev' 0=.ptr c.B 0->ev' 3=.int .i64 (qgR up)->ev' 5=.ptr H.length 0->ev' 6=.ptr (H.length+1) 0->ev' 8=.ptr (H.length+2) 0->ev' 9=.ptr (H.length+3) 0->ev' 10=.int .i64 (s:Int)->ev' 11=.int .i64 (t:Int)->ev' 15=.int .i64 (s:Int)->ev' 23=.int .i64 (((i+1:Nat)):Int)->R2 ev' ⟨H3,T3⟩:=fun ev' a0 a3 a5 a6 a8 a9 a10 a11 a15 a23=>
      hR2 _ _ ⟨a0,a3,a5,a6,a8,a9,a10,a11,a15,a23,d3,P,hx3,hg3,hP,bX,bY,bZ,bS,fun b k hk=>by
       rw[hpb b k hk];by_cases hki:k=i
       . subst hki;rw[hno];simp
       by_cases h1:k<i
       . have h2:k<i+1:=(by omega);simp[h1,h2]
       have h2:¬k<i+1:=(by omega);simp[h1,h2]⟩
     by_cases h0:0<=Yz up s i
     . have h16:¬Yz up s i<16:=fun h=>hrg ⟨h0,h⟩
       simp[e3,e10,e23,hi',hwm,hff,hwf,h0,h16,hwi];exact fin _ (by simp[e0]) (by simp[e3]) (by simp[e5]) (by simp[e6]) (by simp[e8]) (by simp[e9]) (by simp[e10]) (by simp[e11]) (by simp[e15]) (by simp)
     simp[e3,e10,e23,hi',hwm,hff,hwf,h0,hwi];exact fin _ (by simp[e0]) (by simp[e3]) (by simp[e5]) (by simp[e6]) (by simp[e8]) (by simp[e9]) (by simp[e10]) (by simp[e11]) (by simp[e15]) (by simp)
   rintro ev ⟨H3,T3⟩ ⟨e0,e3,e5,e6,e8,e9,e10,e11,e15,e23,d3,P,hx3,hg3,hP,bX,bY,bZ,bS,hpb⟩;simp[e15,e23,hw];refine hR _ _ ⟨by simp[e0],by simp[e3],by simp[e5],by simp[e6],by simp[e8],by simp[e9],by simp,d3,P,hx3,hg.trans (hg2.trans hg3),hP,bX,bY,bZ,bS,fun b k hk=>?_⟩;rw[hpb b k hk,hb b k hk,htv b];by_cases h1:zs (qq d b Y) 16=s
   . rw[h1];simp[hk]
   by_cases h2:zs (qq d b Y) 16<s
   . have h3:zs (qq d b Y) 16<s+1:=(by omega);simp[h1,h2,h3]
   have h3:¬zs (qq d b Y) 16<s+1:=(by omega);simp[h1,h2,h3]
 rintro ev ⟨H1,T1⟩ ⟨e0,e3,e5,e6,e8,e9,e15,d1,S,hx,hg,hS,hHX,hHY,hHZ,hHS,hb⟩;have hSl:=hS.1;have hHl:=(qBa.1 hHZ).1;simp[-getElem?_pos,e8,e9,e15,hHS,hHZ,hSl,qo hSl,zp hSl (show(qz zg).length=16 from rfl),qT,hHl];exact⟨d1,S,rfl,hx.set (by omega) _,hg,hS,hb⟩
end
def qqb(x:Nat):List Nat->Bool
 |a::b::r=>(decide (a<=x)&&decide (x<=b))||qqb x r
 |_=>false
def Wt{Ws:List (List Nat)}(h:∀w∈Ws,w.length=16):(Ws.flatMap qz).length=Ws.length*16:=by
 induction Ws with
 |nil=>rfl
 |cons a r ih=>rw[qBC,qBe,jL,h a (by simp),ih fun w hw=>h w (by simp[hw]),qBr];omega
def qdi:∀{Ws:List (List Nat)}{i:Nat}{w:List Nat},(∀w∈Ws,w.length=16)->Ws[i]?=some w->((Ws.flatMap qz).drop (i*16)).take 16=qz w
 |[],i,w,_,hw=>by simp at hw
 | a::r,0,w,h,hw=>by
  simp at hw;subst hw;have ha:=h a (by simp);rw[qBC,qCY,qCq,qCo (by rw[jL,ha];exact qBl _),qo ha]
 | a::r,i+1,w,h,hw=>by
  have ha:=h a (by simp);have hal:(qz a).length=16:=by rw[jL,ha]
  have ih:=qdi (Ws:=r) (i:=i) (w:=w) (fun w hw=>h w (by simp[hw])) (by simpa using hw);have e:(i+1)*16=16+i*16:=by omega
  rw[qBC,e,qC6,qBS (by omega),hal,qBy,qCk,ih]
section
variable {c:Bc}{d:List Nd}{H:List Blk}{T:List (Option Nat)}
def qnw:List (Nat×Sch×List Nat):=[(5,.step 0 [9,8] (.step 1 [9,8,7] (.step 2 [9,8,7] (.step 3 [9,8,7,6,5] (.step 4 [9,8,7,6,5] (.step 5 [9,8,7,6] (.step 6 [9,8,7] (.step 7 [9,8] (.step 8 [9] (.step 9 [] (.done)))))))))),[7,8]),(6,.step 0 [10,9] (.step 1 [10,9,8] (.step 2 [10,9,8,6,5] (.step 3 [10,9,8,6,5,4] (.step 4 [10,9,8,6,5] (.step 5 [10,9,8,6] (.step 6 [10,9,8] (.step 7 [10,9,8] (.step 8 [10,9] (.step 9 [10] (.step 10 [] (.done))))))))))),[8,9])]
def qkI(h:BX c H d H){X}(hX:za d X){A V}{Ws:List (List Nat)}(hV:V.length=16)(hWs:∀w∈Ws,za d w)(hA:H[A]?=some (.cells (qz V++Ws.flatMap qz)))(hAB:A≠c.B)(hn:Ws.length<=1000):
 qj prog (XG c) 199 [.ptr c.B 0,.agg (qz X),.ms A 16 Ws.length 16] ⟨H,T⟩ (NQ c d H fun b=>qqb (zs (qq d b X) 16) (Ws.map fun w=>zs (qq d b w) 16)):=by
 refine qFy ⟨false,qnw,[],[]⟩ qX func199 rfl (by kernel_rfl) ?_;have hXl:=hX.1;have hk:∀j,H.length<=j->j≠c.B:=fun j hj=>(h.at hj).1
 have hW16:∀w∈Ws,w.length=16:=fun w hw=>(hWs w hw).1
 have hCl:(qz V++Ws.flatMap qz).length=16+Ws.length*16:=by rw[qBe,jL,hV,Wt hW16]
 have hcut:∀{i:Nat} {w:List Nat},Ws[i]?=some w->((qz V++Ws.flatMap qz).drop (16+i*16)).take 16=qz w:=fun {i w} hw=>by
  have hv:(qz V).length=16:=by rw[jL,hV]
  rw[qC6,qBS (by omega),qBy,hv,qCk];exact qdi hW16 hw
 have hVal:∀{d':List Nd} {w:List Nat},zb d d'->w∈Ws->∀b,zs (qq d' b w) 16=zs (qq d b w) 16:=fun {d' w} hg hw b=>wU h.ok hg (hWs w hw) b
 generalize hC:qz V++Ws.flatMap qz=C at *;simp;refine qFE (fun n ev U=>ev 0=.ptr c.B 0/\ev 2=.ms A 16 Ws.length 16/\ev 4=.ptr H.length 0 /\
  ∃ i d' t,n=Ws.length+1-i/\i<=Ws.length/\ev 8=.int .i64 (i:Int)/\ev 7=.int .i64 (t:Nat)/\BX c H d' U.H/\zb d d'/\t<d'.length/\U.H[H.length]?=some (.cells (qz X))/\U.H[A]?=some (.cells C) /\
   ∀b,(evD d' b t||qqb (zs (qq d b X) 16) ((Ws.drop i).map fun w=>zs (qq d b w) 16))=qqb (zs (qq d b X) 16) (Ws.map fun w=>zs (qq d b w) 16)) (Ws.length+1) ?_ ?_
 . exact⟨by simp,by simp,by simp,0,d,0,rfl,by omega,by simp,by simp,h.app _,qF4 d,by have:=h.ok.two;omega,lk0,qd hA _,fun b=>by rw[YB h.ok];simp⟩
 rintro n ev ⟨H1,T1⟩ R hR ⟨e0,e2,e4,i,d1,t,rfl,hi,e8,e7,hx,hg,ht,bX,bA,hv⟩;have hw1:=wr (n:=(i:Int)+1) (by omega) (by omega);have hw2:=wr (n:=(i:Int)+2) (by omega) (by omega);by_cases hlt:i+1<Ws.length
 . have hlt':(i:Int)+1<Ws.length:=(by omega);have hi1:i<Ws.length:=(by omega);obtain⟨w0,hw0⟩:∃w,Ws[i]?=some w:=⟨_,qBc hi1⟩;obtain⟨w1,hw1'⟩:∃w,Ws[i+1]?=some w:=⟨_,qBc hlt⟩;have m0:=qBb hw0;have m1:=qBb hw1';have c0:=hcut hw0;have c1:=hcut hw1';have b0:16+i*16+16<=C.length:=(by rw[hCl];omega);have b1:16+(i+1)*16+16<=C.length:=(by rw[hCl];omega);rw[hCl]at b0 b1;have hdrop:Ws.drop i=w0::w1::Ws.drop (i+2):=by
    rw[qBx hi1,qBx hlt];obtain⟨_,q0⟩:=qBa.1 hw0;obtain⟨_,q1⟩:=qBa.1 hw1';rw[q0,q1]
   simp[e2,e8,hw1,hlt'];rw[qP rfl];simp[zc,e0,e2,e4,e8,show(i:Int)<Ws.length by omega,bX,bA,hXl,qo hXl,hCl,b0,c0];refine qFC (qa0 hx.self (hX.grown hg) ((hWs w0 m0).grown hg)) ?_;rintro v ⟨H2,T2⟩ ⟨d2,y2,rfl,hxx2,hg2,hy2,hv2⟩;dsimp only at hv2;have hx2:=hx.call hxx2;simp[zc,e8];refine qFC (Zf c hx2.self hy2) ?_;rintro v ⟨H3,T3⟩ ⟨d3,y3,rfl,hxx3,hg3,hy3,hv3⟩;dsimp only at hv3;have hx3:=hx2.call hxx3;have cX:=hxx3.loc (hxx2.loc bX (hk _ (qBl _))) (hk _ (qBl _));have cA:=hxx3.loc (hxx2.loc bA hAB) hAB;have hg23:=hg2.trans hg3;have hg03:=hg.trans hg23;simp[e8];rw[qP rfl];simp[zc,e0,e2,e4,e8,hw1,hlt',show(0:Int)<=(i:Int)+1 by omega,show((i:Int)+1).toNat=i+1 by omega,cX,cA,hXl,qo hXl,hCl,b1,c1];refine qFC (qa0 hx3.self ((hWs w1 m1).grown hg03) (hX.grown hg03)) ?_;rintro v ⟨H4,T4⟩ ⟨d4,y4,rfl,hxx4,hg4,hy4,hv4⟩;dsimp only at hv4;have hx4:=hx3.call hxx4;simp[zc,e8];refine qFC (Zf c hx4.self hy4) ?_;rintro v ⟨H5,T5⟩ ⟨d5,y5,rfl,hxx5,hg5,hy5,hv5⟩;dsimp only at hv5;have hx5:=hx4.call hxx5;simp[zc,e0,e7];have hg35:=hg4.trans hg5;refine qFC (Zh c hx5.self (f:=y3) (g:=y5) (qBt hy3 hg35.len) hy5) ?_;rintro v ⟨H6,T6⟩ ⟨d6,y6,rfl,hxx6,hg6,hy6,hv6⟩;dsimp only at hv6;have hx6:=hx5.call hxx6;simp[e8];have hg16:=hg23.trans (hg35.trans hg6);refine qFC (qcB c hx6.self (f:=t) (g:=y6) (qBt ht hg16.len) hy6) ?_;rintro v ⟨H7,T7⟩ ⟨d7,y7,rfl,hxx7,hg7,hy7,hv7⟩;dsimp only at hv7;have hx7:=hx6.call hxx7;have up:∀{k:Nat} {x:Blk},k≠c.B->H3[k]?=some x->H7[k]?=some x:=fun {k x} hl hq=>hxx7.loc (hxx6.loc (hxx5.loc (hxx4.loc hq hl) hl) hl) hl
   simp[e8,hw2];refine hR (Ws.length+1-(i+2)) _ _ (by omega) ⟨by simp[e0],by simp[e2],by simp[e4],i+2,d7,y7,rfl,by omega,by simp,by simp,hx7,hg.trans (hg16.trans hg7),hy7,up (hk _ (qBl _)) cX,up hAB cA,fun b=>?_⟩;rw[<- hv b,hdrop];simp only[qBn,qqb];have hXv:∀{d'},zb d d'->zs (qq d' b X) 16=zs (qq d b X) 16:=fun hg'=>wU h.ok hg' hX b
   rw[hv7,hg16.ev hx.ok b ht,hv6,hg35.ev hx3.ok b hy3,hv3,hv2,QO,hXv hg,hVal hg m0 b,hv5,hv4,QO,hXv hg03,hVal hg03 m1 b];generalize zs (qq d b X) 16=vx;generalize zs (qq d b w0) 16=v0;generalize zs (qq d b w1) 16=v1;rw[show(!decide (vx<v0))=decide (v0<=vx) by rw[qB7];simp,show(!decide (v1<vx))=decide (vx<=v1) by rw[qB7];simp,Bool.or_assoc]
 have hlt':¬(i:Int)+1<Ws.length:=by omega
 simp[e2,e7,e8,hw1,hlt'];refine⟨d1,t,rfl,hx,hg,ht,fun b=>?_⟩;refine Eq.trans ?_ (hv b);have:qqb (zs (qq d b X) 16) ((Ws.drop i).map fun w=>zs (qq d b w) 16)=false:=by
  have hl:((Ws.drop i).map fun w=>zs (qq d b w) 16).length<=1:=by simp;omega
  generalize ((Ws.drop i).map fun w=>zs (qq d b w) 16)=l at hl
  match l,hl with
  |[],_=>rfl
  |[_],_=>rfl
 rw[this,Bool.or_false]
end
def qaO{d}(h:DagOk d)(b n):z7 d b (n::List.replicate 15 0)=b2i (evD d b n):=by
 unfold z7;rw[zu fun k _=>qge h b n k,qkh]
section
variable {c:Bc}{d:List Nd}{H:List Blk}{T:List (Option Nat)}
def qnZ(h:BX c H d H){X Y}(hX:za d X)(hY:za d Y)(op):
 qj prog (XG c) 274 [.ptr c.B 0,.int .i64 op,.agg (qz X),.agg (qz Y)] ⟨H,T⟩ (WQ c d H fun b=>b2i (if op=19 then Jr (qq d b X) 16&&Jr (qq d b Y) 16 else if op=20 then Jr (qq d b X) 16||Jr (qq d b Y) 16 else !Jr (qq d b X) 16||Jr (qq d b Y) 16)):=by
 refine okzA func274 rfl rfl ?_;have hXl:=hX.1;have hYl:=hY.1;have hk:∀j,H.length<=j->j≠c.B:=fun j hj=>(h.at hj).1
 simp[jN];have hx1:=h.app [.cells (qz X),.cells (qz Y),.cells (qz zg)];have bY:(H++[Blk.cells (qz X),.cells (qz Y),.cells (qz zg)])[H.length+1]?=some (.cells (qz Y)):=lk1;have bZ:(H++[Blk.cells (qz X),.cells (qz Y),.cells (qz zg)])[H.length+2]?=some (.cells (qz zg)):=lk2;generalize H++[Blk.cells (qz X),.cells (qz Y),.cells (qz zg)]=H1 at *;simp[hXl,qo hXl];refine qFC (QJ hx1.self hX) ?_;rintro v ⟨H2,T2⟩ ⟨d2,s,rfl,hxx2,hg2,hs,hv2⟩;have hx2:=hx1.call hxx2;have cY:=hxx2.loc bY (hk _ (by omega));have cZ:=hxx2.loc bZ (hk _ (by omega));simp[cY,hYl,qo hYl];refine qFC (QJ hx2.self (hY.grown hg2)) ?_;rintro v ⟨H3,T3⟩ ⟨d3,t,rfl,hxx3,hg3,ht,hv3⟩;dsimp only at hv3;have hx3:=hx2.call hxx3;have eZ:=hxx3.loc cZ (hk _ (by omega));dsimp only at eZ;have hs3:s<d3.length:=qBt hs hg3.len;have hs3v:∀b,evD d3 b s=Jr (qq d b X) 16:=fun b=>by rw[hg3.ev hx2.ok b hs,hv2]
 have ht3v:∀b,evD d3 b t=Jr (qq d b Y) 16:=fun b=>by
  rw[hv3,Jq,Jq,wU h.ok hg2 hY b]
 have hg03:=hg2.trans hg3;have fin:∀{H4:List Blk} {d4:List Nd} {u:Nat} {τ:St} {v:(Nat->Bool)->Bool},τ.H=H4.set (H.length+2) (.cells (qz (u::List.replicate 15 0)))->BX c H d4 H4->zb d3 d4->u<d4.length->(∀b,evD d4 b u=v b)->WQ c d H (fun b=>b2i (v b)) (.agg (qz (u::List.replicate 15 0))) τ:=fun {H4 d4 u τ v} hτ hx4 hg4 hu hv=>by
  refine⟨d4,_,rfl,?_,hg03.trans hg4,qcE hx4.ok hu,fun b=>by rw[qaO hx4.ok,hv]⟩;rw[hτ];exact hx4.set (by omega) _
 have cut1:∀(u:Nat),(qz (u::List.replicate 15 0)).take 16=qz (u::List.replicate 15 0):=fun u=>qo rfl
 have put1:∀(u:Nat),zx (qz zg) 0 (qz (u::List.replicate 15 0))=qz (u::List.replicate 15 0):=fun u=>zp rfl rfl
 simp only[List.reduceReplicate]at fin cut1 put1;by_cases h19:op=19
 . simp[h19];refine qFC (Zh c hx3.self (f:=s) (g:=t) hs3 ht) ?_;rintro v ⟨H4,T4⟩ ⟨d4,u,rfl,hxx4,hg4,hu,hv4⟩;dsimp only at hv4;have gZ:=hxx4.loc eZ (hk _ (by omega));have hl:=(qBa.1 gZ).1;dsimp only at gZ hl;simp;refine qFz (jp u) rfl ?_;simp[-getElem?_pos,gZ,qT,put1,hl,cut1];exact fin rfl (hx3.call hxx4) hg4 hu fun b=>by rw[hv4,hs3v,ht3v]
 by_cases h20:op=20
 . simp[h20];refine qFC (qcB c hx3.self (f:=s) (g:=t) hs3 ht) ?_;rintro v ⟨H4,T4⟩ ⟨d4,u,rfl,hxx4,hg4,hu,hv4⟩;dsimp only at hv4;have gZ:=hxx4.loc eZ (hk _ (by omega));have hl:=(qBa.1 gZ).1;dsimp only at gZ hl;simp;refine qFz (jp u) rfl ?_;simp[-getElem?_pos,gZ,qT,put1,hl,cut1];exact fin rfl (hx3.call hxx4) hg4 hu fun b=>by rw[hv4,hs3v,ht3v]
 simp[h19,h20];refine qFC (Zf c hx3.self hs3) ?_;rintro v ⟨H4,T4⟩ ⟨d4,q,rfl,hxx4,hg4,hq,hv4⟩;dsimp only at hv4;have hx4:=hx3.call hxx4;simp;refine qFC (qcB c hx4.self (f:=q) (g:=t) hq (qBt ht hg4.len)) ?_;rintro v ⟨H5,T5⟩ ⟨d5,u,rfl,hxx5,hg5,hu,hv5⟩;dsimp only at hv5;have gZ:=hxx5.loc (hxx4.loc eZ (hk _ (by omega))) (hk _ (by omega));have hl:=(qBa.1 gZ).1;dsimp only at gZ hl;simp;refine qFz (jp u) rfl ?_;simp[-getElem?_pos,gZ,qT,put1,hl,cut1];exact fin rfl (hx4.call hxx5) (hg4.trans hg5) hu fun b=>by rw[hv5,hv4,hs3v,hg4.ev hx3.ok b ht,ht3v]
end
def qxD(op a b:Int):Int:=if op=15 then b2i (decide (a=b)) else if op=16 then b2i (!decide (a=b)) else if op=17 then b2i (decide (a<b)) else b2i (decide (a<=b))
section
variable {c:Bc}{d:List Nd}{H:List Blk}{T:List (Option Nat)}
def qqm{d b X Y}:eqT (qq d b X) (qq d b Y) 16=decide (z7 d b X=z7 d b Y):=by
 rw[qbd,qB7,decide_eq_true_iff,decide_eq_true_iff];unfold z7;omega
def qgn{d b X Y}:qeF (qq d b X) (qq d b Y) 16=decide (z7 d b X<z7 d b Y):=by
 rw[QO,qB7,decide_eq_true_iff,decide_eq_true_iff];unfold z7;omega
def qbk(h:BX c H d H){X Y}(hX:za d X)(hY:za d Y)(op):
 qj prog (XG c) 275 [.ptr c.B 0,.int .i64 op,.agg (qz X),.agg (qz Y)] ⟨H,T⟩ (WQ c d H fun b=>qxD op (z7 d b X) (z7 d b Y)):=by
 refine okzA func275 rfl rfl ?_;have hXl:=hX.1;have hYl:=hY.1;have hk:∀j,H.length<=j->j≠c.B:=fun j hj=>(h.at hj).1
 simp[jN];have hx1:=h.app [.cells (qz X),.cells (qz Y),.cells (qz zg)];have bX:(H++[Blk.cells (qz X),.cells (qz Y),.cells (qz zg)])[H.length]?=some (.cells (qz X)):=lk0;have bY:(H++[Blk.cells (qz X),.cells (qz Y),.cells (qz zg)])[H.length+1]?=some (.cells (qz Y)):=lk1;have bZ:(H++[Blk.cells (qz X),.cells (qz Y),.cells (qz zg)])[H.length+2]?=some (.cells (qz zg)):=lk2;generalize H++[Blk.cells (qz X),.cells (qz Y),.cells (qz zg)]=H1 at *;have fin:∀{H4:List Blk} {d4:List Nd} {u:Nat} {τ:St} {v:(Nat->Bool)->Int},τ.H=H4.set (H.length+2) (.cells (qz (u::List.replicate 15 0)))->BX c H d4 H4->zb d d4->u<d4.length->(∀b,b2i (evD d4 b u)=v b)->WQ c d H v (.agg (qz (u::List.replicate 15 0))) τ:=fun {H4 d4 u τ v} hτ hx4 hg4 hu hv=>by
  refine⟨d4,_,rfl,?_,hg4,qcE hx4.ok hu,fun b=>by rw[qaO hx4.ok,hv]⟩;rw[hτ];exact hx4.set (by omega) _
 have cut1:∀(u:Nat),(qz (u::List.replicate 15 0)).take 16=qz (u::List.replicate 15 0):=fun u=>qo rfl
 have put1:∀(u:Nat),zx (qz zg) 0 (qz (u::List.replicate 15 0))=qz (u::List.replicate 15 0):=fun u=>zp rfl rfl
 simp only[List.reduceReplicate]at fin cut1 put1;by_cases h15:op=15
 . simp[h15,bX,bY,hXl,hYl,qo hXl,qo hYl];refine qFC (qbc hx1.self hX hY) ?_;rintro v ⟨H4,T4⟩ ⟨d4,u,rfl,hxx4,hg4,hu,hv4⟩;dsimp only at hv4;have gZ:=hxx4.loc bZ (hk _ (by omega));have hl:=(qBa.1 gZ).1;dsimp only at gZ hl;simp;refine qFz (jp u) rfl ?_;simp[-getElem?_pos,gZ,qT,put1,hl,cut1];exact fin rfl (hx1.call hxx4) hg4 hu fun b=>by rw[hv4,qqm];rfl
 by_cases h16:op=16
 . simp[h16,bX,bY,hXl,hYl,qo hXl,qo hYl];refine qFC (qbc hx1.self hX hY) ?_;rintro v ⟨H4,T4⟩ ⟨d4,u,rfl,hxx4,hg4,hu,hv4⟩;dsimp only at hv4;have hx4:=hx1.call hxx4;simp;refine qFC (Zf c hx4.self hu) ?_;rintro v ⟨H5,T5⟩ ⟨d5,u5,rfl,hxx5,hg5,hu5,hv5⟩;dsimp only at hv5;have gZ:=hxx5.loc (hxx4.loc bZ (hk _ (by omega))) (hk _ (by omega));have hl:=(qBa.1 gZ).1;dsimp only at gZ hl;simp;refine qFz (jp u5) rfl ?_;simp[-getElem?_pos,gZ,qT,put1,hl,cut1];exact fin rfl (hx4.call hxx5) (hg4.trans hg5) hu5 fun b=>by rw[hv5,hv4,qqm];rfl
 by_cases h17:op=17
 . simp[h17,bX,bY,hXl,hYl,qo hXl,qo hYl];refine qFC (qa0 hx1.self hX hY) ?_;rintro v ⟨H4,T4⟩ ⟨d4,u,rfl,hxx4,hg4,hu,hv4⟩;dsimp only at hv4;have gZ:=hxx4.loc bZ (hk _ (by omega));have hl:=(qBa.1 gZ).1;dsimp only at gZ hl;simp;refine qFz (jp u) rfl ?_;simp[-getElem?_pos,gZ,qT,put1,hl,cut1];exact fin rfl (hx1.call hxx4) hg4 hu fun b=>by rw[hv4,qgn];rfl
 simp[h15,h16,h17,bX,bY,hXl,hYl,qo hXl,qo hYl];refine qFC (qa0 hx1.self hY hX) ?_;rintro v ⟨H4,T4⟩ ⟨d4,u,rfl,hxx4,hg4,hu,hv4⟩;dsimp only at hv4;have hx4:=hx1.call hxx4;simp;refine qFC (Zf c hx4.self hu) ?_;rintro v ⟨H5,T5⟩ ⟨d5,u5,rfl,hxx5,hg5,hu5,hv5⟩;dsimp only at hv5;have gZ:=hxx5.loc (hxx4.loc bZ (hk _ (by omega))) (hk _ (by omega));have hl:=(qBa.1 gZ).1;dsimp only at gZ hl;simp;refine qFz (jp u5) rfl ?_;simp[-getElem?_pos,gZ,qT,put1,hl,cut1];exact fin rfl (hx4.call hxx5) (hg4.trans hg5) hu5 fun b=>by
  rw[hv5,hv4,qgn];unfold qxD;rw[if_neg h15,if_neg h16,if_neg h17];congr 1;rw[qB7];simp
def qeC{d2 b V x y ci}(h:∀k,k<16->qq d2 b V k=qpE x y ci k):z7 d2 b V=(((zs x 16+zs y 16+b2n ci)%2^16:Nat):Int):=by
 unfold z7;rw[zu h,<- wC];rfl
def qr7{d d2 b V X Y}(h:∀k,k<16->qq d2 b V k=(decide (zs (qq d b Y) 16<16)&&shB true (qq d b X) (zs (qq d b Y) 16) k)):z7 d2 b V=j4 13 (z7 d b X) (z7 d b Y):=by
 rw[show j4 13 (z7 d b X) (z7 d b Y)=if 0<=z7 d b Y/\z7 d b Y<16 then qw (z7 d b X*2^(z7 d b Y).toNat) else 0 by simp[j4]];by_cases hs:zs (qq d b Y) 16<16
 . rw[if_pos ⟨by unfold z7;omega,by unfold z7;omega⟩];have:z7 d2 b V=((zs (qq d b X) 16*2^zs (qq d b Y) 16%2^16:Nat):Int):=by
    unfold z7;rw[<- qje,zu fun k hk=>by rw[h k hk,decide_eq_true hs,qCs,shB,if_pos rfl]]
   rw[this,qxX];rfl
 rw[if_neg (by unfold z7;omega)];unfold z7;rw[wb fun k hk=>by rw[h k hk,decide_eq_false hs];rfl];rfl
def qr6{d d2 b V X Y}(h:∀k,k<16->qq d2 b V k=(decide (zs (qq d b Y) 16<16)&&shB false (qq d b X) (zs (qq d b Y) 16) k)):z7 d2 b V=j4 14 (z7 d b X) (z7 d b Y):=by
 rw[show j4 14 (z7 d b X) (z7 d b Y)=if 0<=z7 d b Y/\z7 d b Y<16 then qw (z7 d b X)/2^(z7 d b Y).toNat else 0 by simp[j4]];by_cases hs:zs (qq d b Y) 16<16
 . rw[if_pos ⟨by unfold z7;omega,by unfold z7;omega⟩];have:z7 d2 b V=((zs (qq d b X) 16/2^zs (qq d b Y) 16:Nat):Int):=by
    unfold z7;rw[<- qjf,zu fun k hk=>by rw[h k hk,decide_eq_true hs,qCs,shB,if_neg (by simp)]]
   rw[this,qxW];rfl
 rw[if_neg (by unfold z7;omega)];unfold z7;rw[wb fun k hk=>by rw[h k hk,decide_eq_false hs];rfl];rfl
def qlR(h:BX c H d H){X Y}(hX:za d X)(hY:za d Y){op}(h7:7<=op)(h21:op<=21):
 qj prog (XG c) 203 [.ptr c.B 0,.int .i64 op,.agg (qz X),.agg (qz Y)] ⟨H,T⟩ (WQ c d H fun b=>j4 op (z7 d b X) (z7 d b Y)):=by
 refine qj.k qX func203 rfl (by kernel_rfl) ?_;have hXl:=hX.1;have hYl:=hY.1;have hk:∀j,H.length<=j->j≠c.B:=fun j hj=>(h.at hj).1
 simp[jN];have hx1:=h.app [.cells (qz X),.cells (qz Y),.cells (qz zg)];have bY:(H++[Blk.cells (qz X),.cells (qz Y),.cells (qz zg)])[H.length+1]?=some (.cells (qz Y)):=lk1;have bZ:(H++[Blk.cells (qz X),.cells (qz Y),.cells (qz zg)])[H.length+2]?=some (.cells (qz zg)):=lk2;generalize H++[Blk.cells (qz X),.cells (qz Y),.cells (qz zg)]=H1 at *;have fin:∀{H4:List Blk} {d4:List Nd} {V:List Nat} {τ:St} {v:(Nat->Bool)->Int},τ.H=H4.set (H.length+2) (.cells (qz V))->BX c H d4 H4->zb d d4->za d4 V->(∀b,z7 d4 b V=v b)->WQ c d H v (.agg (qz V)) τ:=fun {H4 d4 V τ v} hτ hx4 hg4 hV hv=>by
  refine⟨d4,_,rfl,?_,hg4,hV,hv⟩;rw[hτ];exact hx4.set (by omega) _
 have ht:=h.ok.two;have t0:∀op T,15<=op/\op<=18->qj prog (XG c) 275 [.ptr c.B 0,.int .i64 op,.agg (qz X),.agg (qz Y)] ⟨H1,T⟩ (WQ c d H1 fun b=>j4 op (z7 d b X) (z7 d b Y)):=fun op T ho=>by
  have:=qbk hx1.self hX hY op (T:=T);have e:(fun b=>qxD op (z7 d b X) (z7 d b Y))=fun b=>j4 op (z7 d b X) (z7 d b Y):=by
   funext b;obtain rfl|rfl|rfl|rfl:op=15\/op=16\/op=17\/op=18:=by omega
   all_goals simp[qxD,j4]
  rwa[e]at this
 have t1:∀op T,19<=op/\op<=21->qj prog (XG c) 274 [.ptr c.B 0,.int .i64 op,.agg (qz X),.agg (qz Y)] ⟨H1,T⟩ (WQ c d H1 fun b=>j4 op (z7 d b X) (z7 d b Y)):=fun op T ho=>by
  have:=qnZ hx1.self hX hY op (T:=T);have e:(fun b=>b2i (if op=19 then Jr (qq d b X) 16&&Jr (qq d b Y) 16 else if op=20 then Jr (qq d b X) 16||Jr (qq d b Y) 16 else !Jr (qq d b X) 16||Jr (qq d b Y) 16))=fun b=>j4 op (z7 d b X) (z7 d b Y):=by
   funext b;rw[v9,v9];obtain rfl|rfl|rfl:op=19\/op=20\/op=21:=by omega
   all_goals simp[j4,z7]
  rwa[e]at this
 have k7:=(qfE hx1.self hX hY (cn:=0) (T:=T) (by omega)).imp (Q':=WQ c d H1 fun b=>j4 7 (z7 d b X) (z7 d b Y)) (fun v U ⟨d4,V,e,hx,hg,hV,hv⟩=>⟨d4,V,e,hx,hg,hV,fun b=>by
  rw[qeC (hv b),YB h.ok,<- wC,qx0];rfl⟩)
 have k8:=(Jj hx1.self hX hY (T:=T)).imp (Q':=WQ c d H1 fun b=>j4 8 (z7 d b X) (z7 d b Y)) (fun v U ⟨d4,V,e,hx,hg,hV,hv⟩=>⟨d4,V,e,hx,hg,hV,fun b=>by
  rw[qeC (hv b),<- wC,quk];rfl⟩)
 have k9:=(qhS hx1.self hX hY (T:=T)).imp (Q':=WQ c d H1 fun b=>j4 9 (z7 d b X) (z7 d b Y)) (fun v U ⟨d4,V,e,hx,hg,hV,hv⟩=>⟨d4,V,e,hx,hg,hV,fun b=>by
  have hvb:=hv b;dsimp only at hvb;unfold z7;rw[hvb,qcM,qxY];rfl⟩)
 have k10:=(YS hx1.self hX hY (T:=T) (g:=269) (first:=[.ptr c.B 0]) (cap:=[]) (F:=fun _ p q=>p&&q) (fun d1 H1 T1 x y hx hg a b=>Zh c hx.self a b)).imp (Q':=WQ c d H1 fun b=>j4 10 (z7 d b X) (z7 d b Y)) (fun v U ⟨d4,V,e,hx,hg,hV,hv⟩=>⟨d4,V,e,hx,hg,hV,fun b=>by
  unfold z7;rw[zu (hv b),qmJ];rfl⟩)
 have k11:=(YS hx1.self hX hY (T:=T) (g:=191) (first:=[.ptr c.B 0]) (cap:=[]) (F:=fun _ p q=>p||q) (fun d1 H1 T1 x y hx hg a b=>qcB c hx.self a b)).imp (Q':=WQ c d H1 fun b=>j4 11 (z7 d b X) (z7 d b Y)) (fun v U ⟨d4,V,e,hx,hg,hV,hv⟩=>⟨d4,V,e,hx,hg,hV,fun b=>by
  unfold z7;rw[zu (hv b),qq6];rfl⟩)
 have k12:=(YS hx1.self hX hY (T:=T) (g:=272) (first:=[.ptr c.B 0]) (cap:=[]) (F:=fun _ p q=>p ^^ q) (fun d1 H1 T1 x y hx hg a b=>qbK c hx.self a b)).imp (Q':=WQ c d H1 fun b=>j4 12 (z7 d b X) (z7 d b Y)) (fun v U ⟨d4,V,e,hx,hg,hV,hv⟩=>⟨d4,V,e,hx,hg,hV,fun b=>by
  unfold z7;rw[zu (hv b),qmI];rfl⟩)
 have k13:=(qfJ hx1.self hX hY true (T:=T)).imp (Q':=WQ c d H1 fun b=>j4 13 (z7 d b X) (z7 d b Y)) (fun v U ⟨d4,V,e,hx,hg,hV,hv⟩=>⟨d4,V,e,hx,hg,hV,fun b=>qr7 (hv b)⟩);have k14:=(qfJ hx1.self hX hY false (T:=T)).imp (Q':=WQ c d H1 fun b=>j4 14 (z7 d b X) (z7 d b Y)) (fun v U ⟨d4,V,e,hx,hg,hV,hv⟩=>⟨d4,V,e,hx,hg,hV,fun b=>qr6 (hv b)⟩);have k15:=t0 15 T (by omega);have k16:=t0 16 T (by omega);have k17:=t0 17 T (by omega);have k18:=t0 18 T (by omega);have k19:=t1 19 T (by omega);have k20:=t1 20 T (by omega);have k21:=t1 21 T (by omega);simp only[qCy,qgR,if_true,qBE,if_false]at k7 k13 k14;have hcases:op=7\/op=8\/op=9\/op=10\/op=11\/op=12\/op=13\/op=14\/op=15\/op=16\/op=17\/op=18\/op=19\/op=20\/op=21:=by omega
 rcases hcases with rfl|rfl|rfl|rfl|rfl|rfl|rfl|rfl|rfl|rfl|rfl|rfl|rfl|rfl|rfl
 all_goals
  simp[bY,hXl,hYl,qo hXl,qo hYl];refine qFC (by assumption) ?_;rintro v ⟨H4,T4⟩ ⟨d4,V,rfl,hxx4,hg4,hV,hv4⟩;have gZ:=hxx4.loc bZ (hk _ (by omega));have hl:=(qBa.1 gZ).1;have hVl:=hV.1;simp[-getElem?_pos,gZ,qT,hVl,zp hVl (show(qz zg).length=16 from rfl),hl,qo hVl];exact fin rfl (hx1.call hxx4) hg4 hV hv4
end
def J8(q:Str×AV×Nat):AV×AV×Nat:=(.str q.1,q.2.1,q.2.2)
def ZN{s:Str}:∀(E:List (Str×AV×Nat)) (k:Nat),(jV (.str s) (E.map J8) k=some none/\∀q∈E,q.1≠s)\/∃j q,E[j]?=some q/\q.1=s/\jV (.str s) (E.map J8) k=some (some (k+j,q.2.1))
 |[],k=>.inl ⟨rfl,by simp⟩
 | e::E,k=>by
  by_cases h:s=e.1
  . right;refine⟨0,e,rfl,h.symm,?_⟩;simp[jV,J8,Q8,h]
  have h':(s==e.1)=false:=by simpa using h
  rcases ZN (s:=s) E (k+1) with⟨h1,h2⟩|⟨j,q,h1,h2,h3⟩
  . left;refine⟨by simp[jV,J8,Q8,h'];simpa[J8] using h1,fun q hq=>?_⟩;rcases qBz.1 hq with rfl|hq
    . exact fun e=>h e.symm
    exact h2 q hq
  right;refine⟨j+1,q,by simpa using h1,h2,?_⟩;simp only[qBn,J8,jV,Q8,h'];have:k+(j+1)=k+1+j:=by omega
  rw[this];exact h3
def vZ(vs:List Var):List (Str×AV×Nat):=vs.zipIdx.map fun q=>(q.1.name,.int .i64 (q.2:Int),q.2)
def vY(vs:List Var):Blk:=.map ((vZ vs).map J8) vs.length
def qfv{vs:List Var}{j:Nat}{q:Str×AV×Nat}(h:(vZ vs)[j]?=some q):∃v,vs[j]?=some v/\q=(v.name,.int .i64 (j:Int),j):=by
 unfold vZ at h;rw[qBD,qDx]at h
 cases hv:vs[j]? with
 |none=>rw[hv]at h;simp at h
 |some v=>rw[hv]at h;simp at h;exact⟨v,rfl,h.symm⟩
def qfu{vs}(hn:(vs.map (·.name)).Nodup){i v}(hv:vs[i]?=some v)(k):jV (.str v.name) ((vZ vs).map J8) k=some (some (k+i,.int .i64 (i:Int))):=by
 rcases ZN (s:=v.name) (vZ vs) k with⟨_,h2⟩|⟨j,q,h1,h2,h3⟩
 . exfalso;have hm:(v.name,AV.int .i64 (i:Int),i)∈vZ vs:=qBA.2 ⟨(v,i),qBb (i:=i) (by rw[qDx,hv];simp),rfl⟩;exact h2 _ hm rfl
 obtain⟨w,hw,rfl⟩:=qfv h1;have hij:j=i:=by
  obtain⟨hj1,hj2⟩:=qBa.1 hw;obtain⟨hi1,hi2⟩:=qBa.1 hv;have h2:w.name=v.name:=h2;have hp:=qC3.1 hn;rcases Nat.lt_trichotomy j i with h|h|h
  . exact absurd (by rw[qCR,qCR,hj2,hi2,h2]) (hp j i (by simpa using hj1) (by simpa using hi1) h)
  . exact h
  exact absurd (by rw[qCR,qCR,hj2,hi2,h2]) (hp i j (by simpa using hi1) (by simpa using hj1) h)
 subst hij;exact h3
structure PB(p)(lv:List Int)(c:Bc):Prop where
 rest:c.rest=qu p++[.sl 1 (lv.map qh) .none,.map c.M]
 mp:c.mp=vY p.vars
 len:lv.length=p.vars.length
 few:p.vars.length<=1000
 vars:∀v∈p.vars,j5 v=0
 nodup:(p.vars.map (·.name)).Nodup
 lev:∀(i:Nat) (v:Var) (l:Int),p.vars[i]?=some v->lv[i]?=some l->v.mode≠0->0<=l/\l+v.width<=20
def qjh(v:Var)(l:Int)(b:Nat->Bool):Int:=if v.mode=0 then v.value else(zs (fun k=>b (l.toNat+v.width.toNat-1-k)) v.width.toNat:Nat)
def qap{v}(h:j5 v=0):0<=v.value/\v.value<65536:=by
 unfold j5 at h;split at h
 . cases h
 split at h
 . cases h
 rename_i hc;have:(2:Int)^v.width.toNat<=2^8:=by
  have:v.width.toNat<=8:=by omega
  have h2:(2:Nat)^v.width.toNat<=2^8:=qBL (by omega) this;simpa using Int.ofNat_le.2 h2
 omega
def qd6{vs:List Var}{m U}(hm:U.H[m]?=some (vY vs))(hn:(vs.map (·.name)).Nodup){i:Nat}{v:Var}(hv:vs[i]?=some v):zz (Dof prog) U 182 (.map m) (.str v.name) false=some (.int .i64 (i:Int)):=by
 have:=qfu hn hv 0;unfold vY at hm;generalize (vZ vs).map J8=E at *;simp[zz,hm,zG,this]
def qht{w}(f):∀{n:Nat},w<=n->zs (fun j=>decide (j<w)&&f j) n=zs f w:=fun {n} h=>by
 apply qC9;intro i;rw[qY,qY];by_cases h1:i<w
 . have:i<n:=by omega
   simp[h1,this]
 simp[h1]
section
variable {c:Bc}{d:List Nd}{H:List Blk}{T:List (Option Nat)}
def qnz:List (Nat×Sch×List Nat):=[(9,.step 0 [25,24] (.step 1 [25,24,23] (.step 2 [25,24,23,22,21,20,19,5,4,3] (.step 3 [25,24,23,22,21,20,19,5,4] (.step 4 [25,24,23,22,21,20,19,5] (.step 5 [25,24,23,22,21,20,19] (.step 6 [25,24,23,22,21,20,19,18,16,15,12,11,9,8,7] (.step 7 [25,24,23,22,21,20,19,18,16,15,12,11,9,8] (.step 8 [25,24,23,22,21,20,19,18,16,15,12,11,9] (.step 9 [25,24,23,22,21,20,19,18,16,15,12,11] (.step 10 [25,24,23,22,21,20,19,18,16,15,12,11] (.step 11 [25,24,23,22,21,20,19,18,16,15,12] (.step 12 [25,24,23,22,21,20,19,18,16,15] (.step 13 [25,24,23,22,21,20,19,18,16,15,14] (.step 14 [25,24,23,22,21,20,19,18,16,15] (.step 15 [25,24,23,22,21,20,19,18,16] (.step 16 [25,24,23,22,21,20,19,18] (.step 17 [25,24,23,22,21,20,19,18] (.step 18 [25,24,23,22,21,20,19] (.step 19 [25,24,23,22,21,20] (.step 20 [25,24,23] (.step 21 [25,24,23] (.step 22 [25,24,23] (.step 23 [25,24] (.step 24 [25] (.step 25 [] (.done)))))))))))))))))))))))))),[19,23])]
def qd4(h:BX c H d H){p:Problem}{lv:List Int}(hp:PB p lv c){i:Nat}{v:Var}{l:Int}(hv:p.vars[i]?=some v)(hl:lv[i]?=some l):
 qj prog (XG c) 193 [.ptr c.B 0,.str v.name] ⟨H,T⟩ (WQ c d H fun b=>qjh v l b):=by
 refine qFy ⟨false,qnz,[],[]⟩ qX func193 rfl (by kernel_rfl) ?_;have hk:∀j,H.length<=j->j≠c.B:=fun j hj=>(h.at hj).1
 obtain⟨tok,hb⟩:=h.b;have hm:=h.m;rw[hp.rest]at hb;rw[hp.mp]at hm;have hlook:=fun(u:List Blk) (T:List (Option Nat))=>qd6 (U:=⟨H++u,T⟩) (qd hm u) hp.nodup hv
 have hve:=hp.vars v (qBb hv);have hvw:=zf hve;have hvv:=qap hve;have hil:=(qBa.1 hv).1;have hill:i<lv.length:=by rwa[hp.len]
 simp only[qu,qBB,qBy]at hb;simp[qd hb,hlook,hv,jN];by_cases hm0:v.mode=0
 . have hc:=yv v.value.toNat (by omega);rw[Int.toNat_of_nonneg hvv.1]at hc;have hVl:((List.range 16).map fun k=>if v.value.toNat.testBit k=true then 1 else 0).length=16:=(by simp);have hwo:=WH h.ok v.value.toNat;have hval:=fun b=>JV h.ok b (n:=v.value.toNat) (by omega)
   generalize ((List.range 16).map fun k=>if v.value.toNat.testBit k=true then 1 else 0)=V at *;simp[hm0];refine qFz hc rfl ?_;simp[hVl,qo hVl,zp hVl (show(qz zg).length=16 from rfl),qT];refine⟨d,V,rfl,h.app _,qF4 d,hwo,fun b=>?_⟩;unfold z7 qjh;dsimp only;rw[if_pos hm0,hval b];omega
 have hlev:=hp.lev i v l hv hl hm0;have hwn:v.width=(v.width.toNat:Int):=by omega
 have hln:l=(l.toNat:Int):=by omega
 generalize hwN:v.width.toNat=w at *;generalize hlN:l.toNat=L at *;have hl':lv[i]?=some (L:Int):=by rw[hl,hln]
 simp[hm0,hwn];refine yU w (fun k ev U=>ev 0=.ptr c.B 0/\ev 4=.ptr H.length 0/\ev 5=.int .i64 (i:Int)/\ev 6=.ptr (H.length+1) 0/\ev 7=.ptr (H.length+2) 0/\ev 30=.int .i64 (w:Int)/\ev 31=.int .i64 (k:Int) /\
  ∃ d' W,BX c H d' U.H/\zb d d'/\za d' W/\U.H[H.length]?=some (.cells (qz zg))/\U.H[H.length+1]?=some (.cells (qG v))/\U.H[H.length+2]?=some (.cells (qz W)) /\
   ∀b j,j<16->qq d' b W j=(decide (j<k)&&b (L+w-1-j))) ?_ ?_ ?_
 . refine⟨by simp,by simp,by simp,by simp,by simp,by simp,by simp,d,zg,h.app _,qF4 d,wA h.ok,lk0,?_,lk2,fun b j hj=>by rw[kU h.ok];simp⟩;have:=lk1 (H:=H) (p:=Blk.cells (qz zg)) (q:=Blk.cells (qG v)) (t:=[.cells (qz zg)]);simp only[qG,hwn]at this⊢;exact this
 . rintro k ev ⟨H1,T1⟩ R hR hkw ⟨e0,e4,e5,e6,e7,e30,e31,d1,W,hx,hg,hW,bZ,bV,bW,hbits⟩;obtain⟨t1,hb1⟩:=hx.b;rw[hp.rest]at hb1;simp only[qu,qBB,qBy]at hb1;simp only[qG,hwn]at bV;have hWl:=hW.1;have hk16:k<16:=(by omega);have hk1:k+1<=16:=hk16;have hwk:=wr (n:=(k:Int)+1) (by omega) (by omega);have hw1:=wr (n:=(L:Int)+w) (by omega) (by omega);have hw2:=wr (n:=(L:Int)+w-1) (by omega) (by omega);have hw3:=wr (n:=(L:Int)+w-1-k) (by omega) (by omega);have hlevel:(L:Int)+w-1-k=((L+w-1-k:Nat):Int):=(by omega);rw[hlevel]at hw3;have hbit:=fun T=>(qwa d1 hx.ok (L+w-1-k) (by omega) H1 T).leq (args:=[.agg [.sl 3 (d1.map qI) t1],.int .i64 ((L+w-1-k:Nat):Int)]) (by simp[zm,Leq,qFI])
   generalize hLL:L+w-1-k=LL at *;simp[e30,e31,show(k:Int)<w by omega];rw[qP rfl];simp[zc,e0,e5,e6,hb1,bV,hl',hw1,hw2,hlevel,hw3];refine qFC (hbit T1).glo ?_;rintro v2 ⟨H2,T2⟩ ⟨hk2,rfl|⟨d2,i2,t2,rfl,g2,hd2,hi2,hm2,hs2⟩⟩
   . simp[zc];exact qFC (w7 c (Q:=fun _ _=>False) (hx.same hk2).kp0 _ _) fun _ _ h=>h.elim
   simp[zc];refine qFC (JI c (hx.self.same hk2) hd2 i2 _) ?_;rintro v3 ⟨H3,T3⟩ ⟨rfl,hxx⟩;have hx3:=hx.call hxx;have up:∀{k:Nat} {x:Blk},H.length<=k->H1[k]?=some x->H3[k]?=some x:=fun {k x} hl hq=>hxx.loc hq (hk k hl)
   have cW:=up (by omega) bW;have hl3:=(qBa.1 cW).1;have hkl:k<W.length:=(by omega);simp[zc,e7,e31,cW,hWl,show(k:Int)<16 by omega,hk1,kR,hwk];refine hR _ _ ⟨by simp[e0],by simp[e4],by simp[e5],by simp[e6],by simp[e7],by simp[e30],by simp,d2,W.set k i2,hx3.set (by omega) _,hg.trans g2,(hW.grown g2).set hi2,?_,?_,qBg hl3,fun b j hj=>?_⟩
   . rw[qBd (by omega)];exact up (by omega) bZ
   . rw[qBd (by omega)];have:=up (by omega) bV;simp only[qG,hwn]at this⊢;exact this
   rw[ve hkl];by_cases hjk:j=k
   . subst hjk;rw[if_pos rfl,hs2 b,hLL]
     cases hbb:b LL with
     |true=>simp[qe0 hx.ok]
     |false=>simp[YB hx.ok]
   rw[if_neg hjk,zJ hx.ok g2 hW b hj,hbits b j hj];by_cases h1:j<k
   . have h2:j<k+1:=(by omega);simp[h1,h2]
   have h2:¬j<k+1:=(by omega);simp[h1,h2]
 rintro ev ⟨H1,T1⟩ ⟨e0,e4,e5,e6,e7,e30,e31,d1,W,hx,hg,hW,bZ,bV,bW,hbits⟩;have hWl:=hW.1;have hHl:=(qBa.1 bZ).1;simp[-getElem?_pos,e4,e7,e30,e31,bW,bZ,hWl,qo hWl,zp hWl (show(qz zg).length=16 from rfl),qT,hHl];refine⟨d1,W,rfl,hx.set (by omega) _,hg,hW,fun b=>?_⟩;unfold z7 qjh;dsimp only;rw[if_neg hm0,hwN,hlN,zu (hbits b),qht _ (by omega)]
end
def QY(vs:List Var)(lv:List Int)(b:Nat->Bool):List Int:=(vs.zip lv).map fun q=>qjh q.1 q.2 b
def Y4{vs lv}(h:lv.length=vs.length)(b):(QY vs lv b).length=vs.length:=by simp[QY,h]
def qff{vs:List Var}{lv:List Int}{i:Nat}{v:Var}{l:Int}(hv:vs[i]?=some v)(hl:lv[i]?=some l)(b:Nat->Bool):(QY vs lv b)[i]?=some (qjh v l b):=by
 unfold QY;rw[qBD,qCS (z:=(v,l)) |>.2 ⟨hv,hl⟩];rfl
def Qt:∀{vs:List Var}{a:List Int}{i:Nat}{v:Var}{x:Int},(vs.map (·.name)).Nodup->vs[i]?=some v->a[i]?=some x->jE ((vs.zip a).map fun q=>⟨q.1.name,q.2⟩) v.name=some (qw x)
 |[],_,i,v,x,_,hv,_=>by simp at hv
 |w::vs,[],i,v,x,_,_,hx=>by simp at hx
 | w::vs,y::a,0,v,x,hn,hv,hx=>by
  simp at hv hx;subst hv hx;simp[jE]
 | w::vs,y::a,i+1,v,x,hn,hv,hx=>by
  simp only[qBn,qC1]at hn;have ih:=Qt (vs:=vs) (a:=a) (i:=i) (v:=v) (x:=x) hn.2 (by simpa using hv) (by simpa using hx);have hne:¬w.name=v.name:=fun e=>hn.1 (qBA.2 ⟨v,qBb (i:=i) (by simpa using hv),e.symm⟩)
  have hne':(w.name==v.name)=false:=by simpa using hne
  unfold jE at ih⊢;simp only[qEH,qBn,qDI,hne'];exact ih
def qhu{v}(h:j5 v=0)(l b):0<=qjh v l b/\qjh v l b<=65535:=by
 have h1:=qap h;have h2:=zf h;unfold qjh;split
 . omega
 have:=wc (fun k=>b (l.toNat+v.width.toNat-1-k)) v.width.toNat;have h3:2^v.width.toNat<=2^8:=qBL (by omega) (by omega);omega
def qle{p:Problem}{lv:List Int}(hl:lv.length=p.vars.length)(hn:(p.vars.map (·.name)).Nodup)(hve:∀v∈p.vars,j5 v=0){i:Nat}{v:Var}{l:Int}(hv:p.vars[i]?=some v)(hli:lv[i]?=some l)(b:Nat->Bool):
 (jE (yp p.vars (QY p.vars lv b)) v.name).getD 0=qjh v l b:=by
 have h1:=Qt hn hv (qff hv hli b);unfold yp;rw[if_pos (Y4 hl b),h1];have h2:=qhu (hve v (qBb hv)) l b;exact QG h2.1 h2.2
def KO{V}(hV:V.length=16):∀{Ws:List (List Nat)}{i:Nat},(∀w∈Ws,w.length=16)->i<Ws.length->zx (Ws.flatMap qz) (i*16) (qz V)=(Ws.set i V).flatMap qz
 |[],i,_,h=>by simp at h
 | a::r,0,h,_=>by
  rw[qBC,qCY,qEG,qBC];exact vw _ _ _ (by rw[jL,jL,h a (by simp),hV])
 | a::r,i+1,h,hi=>by
  have hi':i<r.length:=by simpa using hi
  rw[qBC,qD3,qBC,<- KO hV (Ws:=r) (i:=i) (fun w hw=>h w (by simp[hw])) hi',qDB,qDi];have:=Qh (c:=r.flatMap qz) (qz V) (qz a) (i*16)
  rwa[jL,h a (by simp)]at this
def qiQ(p:Problem)(e:Ex):Prop:=∀x∈pre e,qt x=0/\x.op≠3/\x.op≠24/\(x.op=2->Qr p.vars x.name=true)/\x.args.length<=1000
def qiQ.arg{p e a}(h:qiQ p e)(ha:a∈e.args):qiQ p a:=fun x hx=>h x (by rw[jF];exact qCK _ (Z6.2 ⟨a,ha,hx⟩))
def qiQ.self{p e}(h:qiQ p e):qt e=0/\e.op≠3/\e.op≠24/\(e.op=2->Qr p.vars e.name=true)/\e.args.length<=1000:=h e (by rw[jF];simp)
section
variable {c:Bc}{d:List Nd}{H:List Blk}{T:List (Option Nat)}
def qfY:List (Nat×Sch×List Nat):=[(13,.step 1 [8,7,6,5] (.step 2 [8,7,6,5,4,3] (.step 3 [8,7,6,5,4] (.step 4 [8,7,6,5] (.fork (.cons 0 (.step 5 [8,7,6] (.step 6 [8,7] (.step 7 [8] (.step 8 [] (.done))))) (.cons 5 (.step 0 [8,7,6] (.step 6 [8,7] (.step 7 [8] (.step 8 [] (.done))))) (.nil))))))),[5,6]),(15,.step 0 [5,4] (.step 1 [5,4,3,2] (.step 2 [5,4,3] (.step 3 [5,4] (.step 4 [5] (.step 5 [] (.done)))))),[4]),(17,.step 0 [6,5] (.step 1 [6,5] (.step 2 [6,5,4,3] (.step 3 [6,5,4] (.step 4 [6,5] (.step 5 [6] (.step 6 [] (.done))))))),[5]),(19,.step 0 [5,4] (.step 1 [5,4,3,2] (.step 2 [5,4,3] (.step 3 [5,4] (.step 4 [5] (.step 5 [] (.done)))))),[4]),(21,.step 0 [8,7,6] (.step 1 [8,7,6,3,2] (.step 2 [8,7,6,3] (.step 3 [8,7,6] (.step 4 [8,7,6,5] (.step 5 [8,7,6] (.step 6 [8,7] (.step 7 [8] (.step 8 [] (.done))))))))),[6]),(23,.step 0 [6,4] (.step 1 [6,4,3,2] (.step 2 [6,4,3] (.step 3 [6,4] (.fork (.cons 4 (.step 5 [6] (.step 6 [] (.done))) (.cons 5 (.step 4 [6] (.step 6 [] (.done))) (.nil))))))),[4]),(24,.step 0 [8,7,2,1] (.step 1 [8,7,2] (.step 2 [8,7] (.step 3 [8,7,5,4] (.step 4 [8,7,5] (.step 5 [8,7] (.step 6 [8,7] (.step 7 [8] (.step 8 [] (.done))))))))),[7]),(25,.step 0 [10,9] (.step 1 [10,9,2] (.step 2 [10,9] (.step 3 [10,9,5,4] (.step 4 [10,9,5] (.step 5 [10,9] (.step 6 [10,9,8,7] (.step 7 [10,9,8] (.step 8 [10,9] (.step 9 [10] (.step 10 [] (.done))))))))))),[9])]
def qbN(h:BX c H d H){p lv}(hp:PB p lv c)(e)(he:qiQ p e)(h0:e.args=[]):
 qj prog (XG c) 134 [.ptr c.B 0,.agg (qp e)] ⟨H,T⟩ (WQ c d H fun b=>yo (yp p.vars (QY p.vars lv b)) e):=by
 refine qFy ⟨false,qfY,[],[]⟩ qX func134 rfl (by kernel_rfl) ?_;obtain⟨hn,h3,h24,h2,_⟩:=he.self;obtain⟨o1,o2,o3,o4,o5,o6,o7,o8⟩:=jm hn;have hop:e.op=1\/e.op=2:=by
  unfold qk at o5;rw[h0]at o5;split at o5
  . simp at o5
  simp only[qB0,qCy,decide_eq_true_eq]at o5;unfold zB at o5
  repeat' split at o5
  all_goals omega
 have hk:∀j,H.length<=j->j≠c.B:=fun j hj=>(h.at hj).1
 have henc:=qc e;rw[h0]at henc;simp only[qBN]at henc;rw[henc];simp[qD,jN,qT];have hx1:=h.app [.cells [.ptr c.B 0],.cells [.int .i64 e.op,.int .i64 e.n,.str e.name,.sl 4 [] .none],.cells (qz zg)];refine qFE (fun n ev U=>ev 2=.ptr H.length 0/\ev 3=.ptr (H.length+1) 0/\ev 4=.ptr (H.length+2) 0/\ev 15=.int .i64 0/\ev 16=.int .i64 0/\BX c H d U.H/\U.H[H.length]?=some (.cells [.ptr c.B 0])/\U.H[H.length+1]?=some (.cells [.int .i64 e.op,.int .i64 e.n,.str e.name,.sl 4 [] .none])/\U.H[H.length+2]?=some (.cells (qz zg))) 0 ?_ ?_
 . exact⟨by simp,by simp,by simp,by simp,by simp,hx1,lk0,lk1,lk2⟩
 rintro n ev ⟨H1,T1⟩ R hR ⟨e2,e3,e4,e15,e16,hx,bB,bE,bZ⟩;have hZl:=(qBa.1 bZ).1;simp[e2,e3,e15,e16,bE];rcases hop with hop|hop
 . have hnn:=o3 hop;have hc:=yv e.n.toNat (by omega);rw[Int.toNat_of_nonneg hnn.1]at hc;have hVl:((List.range 16).map fun k=>if e.n.toNat.testBit k=true then 1 else 0).length=16:=(by simp);have hwo:=WH h.ok e.n.toNat;have hval:=fun b=>JV h.ok b (n:=e.n.toNat) (by omega)
   generalize ((List.range 16).map fun k=>if e.n.toNat.testBit k=true then 1 else 0)=V at *;simp[hop,bE];refine qFz hc rfl ?_;simp[-getElem?_pos,e4,bZ,hZl,hVl,qo hVl,zp hVl (show(qz zg).length=16 from rfl),qT];refine⟨d,V,rfl,hx.set (by omega) _,qF4 d,hwo,fun b=>?_⟩;dsimp only;rw[yY];unfold z7 vB;rw[if_pos hop,hval b];omega
 have hva:=h2 hop;unfold Qr at hva;rw[qBJ]at hva;obtain⟨v,hm,hvn⟩:=hva;have hvn:v.name=e.name:=by simpa using hvn
 obtain⟨i,hi⟩:=qBT hm;have hil:=(qBa.1 hi).1;obtain⟨l,hl⟩:∃l,lv[i]?=some l:=⟨_,qBc (by rwa[hp.len])⟩;have hw:=qd4 hx.self hp hi hl (T:=T1);rw[hvn]at hw;have ht:¬e.op=1:=by omega
 simp[hop,e3,bE,bB];refine qFC hw ?_;rintro vv ⟨H2,T2⟩ ⟨d2,W,rfl,hxx,hg2,hW,hv2⟩;have cZ:=hxx.loc bZ (hk _ (by omega));have hl2:=(qBa.1 cZ).1;have hWl:=hW.1;simp[-getElem?_pos,e4,cZ,hl2,hWl,qo hWl,zp hWl (show(qz zg).length=16 from rfl),qT];refine⟨d2,W,rfl,(hx.call hxx).set (by omega) _,hg2,hW,fun b=>?_⟩;rw[hv2 b];dsimp only;rw[yY];unfold vB;rw[if_neg ht,if_pos hop,<- hvn,qle hp.len hp.nodup hp.vars hi hl b]
end
def qot(n):(List.replicate n (qz zg)).flatten=(List.replicate n zg).flatMap qz:=by rw[qCF,qD5]
def qkK{x:Nat}:∀l:List Nat,jk (x:Int) (l.map fun n:Nat=>(n:Int))=qqb x l
 |[]=>rfl
 |[_]=>rfl
 | a::b::r=>by
  simp only[qBn,jk,qqb,qkK r];congr 2
  . rw[qB7,decide_eq_true_iff,decide_eq_true_iff];omega
  rw[qB7,decide_eq_true_iff,decide_eq_true_iff];omega
section
variable {c:Bc}{d:List Nd}{H:List Blk}{T:List (Option Nat)}
def qlH(h:BX c H d H){h1 h2 t x y}(b1:H[h1]?=some (.cells [.ptr c.B 0]))(b2:H[h2]?=some (.cells [.int .i64 (t:Int)]))(ht:t<d.length)(hx:x<d.length)(hy:y<d.length):
 qj prog (XG c) 201 [.int .i64 x,.int .i64 y,.ptr h1 0,.ptr h2 0] ⟨H,T⟩ (NQ c d H fun b=>evD d b t&&evD d b x||!evD d b t&&evD d b y):=by
 refine okzA func201 rfl rfl ?_;simp[b1,b2];refine qFC (qlG c h ht hx hy) ?_;rintro v ⟨H2,T2⟩ ⟨d2,y,rfl,hxx2,hg2,hy2,hv2⟩;simp;exact⟨d2,y,rfl,hxx2,hg2,hy2,hv2⟩
def qbM(h:BX c H d H){p lv}(hp:PB p lv c)(e)(he:qiQ p e)(h0:e.args≠[])
 (ih:∀a∈e.args,∀d H T,BX c H d H->qj prog (XG c) 134 [.ptr c.B 0,.agg (qp a)] ⟨H,T⟩ (WQ c d H fun b=>yo (yp p.vars (QY p.vars lv b)) a)):
 qj prog (XG c) 134 [.ptr c.B 0,.agg (qp e)] ⟨H,T⟩ (WQ c d H fun b=>yo (yp p.vars (QY p.vars lv b)) e):=by
 obtain⟨val,hvale⟩:∃val:(Nat->Bool)->Ex->Int,∀b e,yo (yp p.vars (QY p.vars lv b)) e=val b e:=⟨_,fun _ _=>rfl⟩;simp only[hvale]at ih⊢;refine qFy ⟨false,qfY,[],[]⟩ qX func134 rfl (by kernel_rfl) ?_;obtain⟨hn,h3,h24,h2,hal⟩:=he.self;have hk:∀j,H.length<=j->j≠c.B:=fun j hj=>(h.at hj).1
 have hpos:=qBv.2 h0;have hpos':¬(e.args.length:Int)=0:=by omega
 rw[qc e];simp[qD,jN,qT,show(e.args.length:Int)<=549755813888 by omega,h0,qot];refine qFP e.args (fun dn ev U=>ev 2=.ptr H.length 0/\ev 3=.ptr (H.length+1) 0/\ev 4=.ptr (H.length+2) 0/\ev 5=.ms (H.length+3) 0 e.args.length 16/\ev 14=.sl 4 (e.args.map qp) .none/\ev 15=.int .i64 e.args.length/\ev 16=.int .i64 dn.length /\
  ∃ (d':List Nd) (Ws:List (List Nat)),BX c H d' U.H/\zb d d'/\Ws.length=e.args.length/\(∀w∈Ws,za d' w)/\(∀b,(Ws.take dn.length).map (z7 d' b)=dn.map (val b)) /\
   U.H[H.length]?=some (.cells [.ptr c.B 0])/\U.H[H.length+1]?=some (.cells [.int .i64 e.op,.int .i64 e.n,.str e.name,.sl 4 (e.args.map qp) .none])/\U.H[H.length+2]?=some (.cells (qz zg))/\U.H[H.length+3]?=some (.cells (Ws.flatMap qz))) ?_ ?_ ?_
 . refine⟨by simp,by simp,by simp,by simp,by simp,by simp,by simp,d,List.replicate e.args.length zg,?_,qF4 d,by simp,fun w hw=>?_,fun b=>by simp,?_,?_,?_,?_⟩
   . exact h.app _
   . rw[qC4]at hw;rw[hw.2];exact wA h.ok
   . exact lk0
   . exact lk1
   . exact lk2
   . exact lk3
 . rintro dn a rest ev ⟨H1,T1⟩ R hR hd hx hlt ⟨e2,e3,e4,e5,e14,e15,e16,d1,Ws,hx1,hg,hWl,hWs,hv,bB,bE,bZ,bW⟩;dsimp only at hx1 bB bE bZ bW;have ham:=qBb hx;have hdw:=wr (n:=(dn.length:Int)+1) (by omega) (by omega);have hlt':(dn.length:Int)<e.args.length:=(by omega);have hH1l:=(qBa.1 bW).1;have hihx:=hx1.self.app [.cells (qp a)];have hih:=fun T=>ih a ham d1 _ T (hx1.app [.cells (qp a)]).self
   have hflen:=Wt (Ws:=Ws) fun w hw=>(hWs w hw).1
   rw[hWl]at hflen;have hput:∀{V:List Nat},V.length=16->zx (Ws.flatMap qz) (dn.length*16) (qz V)=(Ws.set dn.length V).flatMap qz:=fun {V} hV=>KO hV (fun w hw=>(hWs w hw).1) (by omega)
   rw[qc a]at hih;simp[e2,e5,e14,e15,e16,hlt',hx,qc a,qd bB];refine qFC (hih T1) ?_;rintro v ⟨H2,T2⟩ ⟨d2,V,rfl,hxx2,hg2,hV,hv2⟩;dsimp only at hv2;have hVl:=hV.1;have hx2:=(hx1.app [.cells (qp a)]).call (by rwa[qc a]);have up:∀{k:Nat} {x:Blk},H.length<=k->H1[k]?=some x->H2[k]?=some x:=fun {k x} hl hq=>hxx2.loc (qd hq _) (hk k hl)
   have cW:=up (by omega) bW;have hl2:=(qBa.1 cW).1;simp[e16,hlt',cW,hflen,show dn.length*16+16<=e.args.length*16 by omega,hVl,hput hVl,hdw];refine hR _ _ ⟨by simp[e2],by simp[e3],by simp[e4],by simp[e5],by simp[e14],by simp[e15],by simp,d2,Ws.set dn.length V,hx2.set (by omega) _,hg.trans hg2,by simp[hWl],fun w hw=>?_,fun b=>?_,?_,?_,?_,qBg hl2⟩
   . rcases qDh hw with hw|rfl
     . exact(hWs w hw).grown hg2
     . exact hV
   . have h1:(Ws.set dn.length V).take (dn++[a]).length=Ws.take dn.length++[V]:=by
      rw[qBe,qBK,qBG,qBg (by omega),List.take_set_of_le (qBl _)];rfl
     rw[h1,qCi,qCi,<- hv b];congr 1
     . apply qCf;intro w hw;exact qhY hx1.ok hg2 (hWs w (qBW hw)) b
     simp only[qBn,qBN];rw[hv2 b]
   . rw[qBd (by omega)];exact up (by omega) bB
   . rw[qBd (by omega)];exact up (by omega) bE
   rw[qBd (by omega)];exact up (by omega) bZ
 rintro ev ⟨H1,T1⟩ ⟨e2,e3,e4,e5,e14,e15,e16,d1,Ws,hx,hg,hWl,hWs,hv,bB,bE,bZ,bW⟩;dsimp only at hx bB bE bZ bW;have hvf:∀b,Ws.map (z7 d1 b)=e.args.map (val b):=fun b=>by
  have:=hv b
  rwa[qBh (by omega)]at this
 have hflen:=Wt (fun w hw=>(hWs w hw).1);have hnode:∀b,val b e=opW e.op (Ws.map (z7 d1 b)):=fun b=>by
  rw[<- hvale,yY];unfold vB;rw[hvf b];have:(List.map (yo (yp p.vars (QY p.vars lv b))) e.args)=e.args.map (val b):=qCf fun a _=>hvale b a
  rw[this];have h1:e.op≠1/\e.op≠2:=by
   obtain⟨o1,o2,o3,o4,o5,o6,o7,o8⟩:=jm hn;unfold qk at o5;constructor
   . intro h;rw[h]at o5;simp[zB]at o5;exact h0 o5
   intro h;rw[h]at o5;simp[zB]at o5;exact h0 o5
  rw[if_neg h1.1,if_neg h1.2,if_neg h3,if_neg h24]
 have fin:∀{H4:List Blk} {d4:List Nd} {V:List Nat} {τ:St},τ.H=H4.set (H.length+2) (.cells (qz V))->BX c H d4 H4->zb d1 d4->za d4 V->(∀b,z7 d4 b V=opW e.op (Ws.map (z7 d1 b)))->WQ c d H (fun b=>val b e) (.agg (qz V)) τ:=fun {H4 d4 V τ} hτ hx4 hg4 hV hvv=>by
  refine⟨d4,_,rfl,?_,hg.trans hg4,hV,fun b=>by rw[hvv];exact(hnode b).symm⟩;rw[hτ];exact hx4.set (by omega) _
 have hZl:=(qBa.1 bZ).1;obtain⟨o1,o2,o3,o4,o5,o6,o7,o8⟩:=jm hn;have hop:((e.op=4\/e.op=5\/e.op=6\/e.op=25)/\e.args.length=1)\/(e.op=22/\e.args.length=3)\/(e.op=23/\3<=e.args.length)\/(7<=e.op/\e.op<=21/\e.args.length=2):=by
  unfold qk at o5;split at o5
  . simp only[decide_eq_true_eq]at o5;omega
  simp only[decide_eq_true_eq]at o5;unfold zB at o5
  repeat' split at o5
  all_goals omega
 have hZ16:(qz zg).length=16:=rfl;have ht:=hx.ok.two;rcases hop with⟨hop,h1⟩|⟨hop,h1⟩|⟨hop,h1⟩|⟨hop7,hop21,h1⟩
 . -- one operand
   rw[h1]at hWl e5;obtain⟨w0,rfl⟩:=List.length_eq_one_iff.1 hWl;have hw0:=hWs w0 (by simp);have hw0l:=hw0.1;simp only[qBC,qDQ,qBU]at bW;rcases hop with hop|hop|hop|hop
   . simp[e3,e15,e16,bE,hop,h1];rw[qP rfl];simp[zc,e2,e5,bB,bW,hw0l,qo hw0l];have key:=QJ hx.self hw0 (T:=T1);refine⟨qFC key ?_,qFC key ?_⟩
     all_goals
      rintro v ⟨H2,T2⟩ ⟨d2,t,rfl,hxx2,hg2,ht2,hv2⟩;dsimp only at hv2;have hx2:=hx.call hxx2;have cB:=hxx2.loc bB (hk _ (by omega));dsimp only at cB;simp[zc,e2,cB];refine qFC (Zf c hx2.self ht2) ?_;rintro v ⟨H3,T3⟩ ⟨d3,u,rfl,hxx3,hg3,hu,hv3⟩;dsimp only at hv3;have hx3:=hx2.call hxx3;have cZ:=hxx3.loc (hxx2.loc bZ (hk _ (by omega))) (hk _ (by omega));have hl3:=(qBa.1 cZ).1;dsimp only at cZ hl3;simp[zc];refine qFz (jp u) rfl ?_;have cut1:(qz (u::List.replicate 15 0)).take 16=qz (u::List.replicate 15 0):=qo rfl;have put1:zx (qz zg) 0 (qz (u::List.replicate 15 0))=qz (u::List.replicate 15 0):=zp rfl rfl;have k0:=fin (H4:=H3) (d4:=d3) (V:=u::List.replicate 15 0) (τ:=⟨H3.set (H.length+2) (.cells (qz (u::List.replicate 15 0))),T3⟩) rfl hx3 (hg2.trans hg3) (qcE hx3.ok hu) (fun b=>by
       rw[qaO hx3.ok,hv3,hv2,v9,hop];simp[opW,unW,z7])
      simp only[List.reduceReplicate]at k0 cut1 put1;simp[-getElem?_pos,zc,e4,cZ,qT,put1,hl3,cut1];exact k0
   . simp[e3,e15,e16,bE,hop,h1];rw[qP rfl];simp[zc,e2,e5,bB,bW,hw0l,qo hw0l];refine qFC (Jm hx.self hw0) ?_;rintro v ⟨H2,T2⟩ ⟨d2,V,rfl,hxx2,hg2,hV,hv2⟩;dsimp only at hv2;have hVl:=hV.1;have cZ:=hxx2.loc bZ (hk _ (by omega));have hl3:=(qBa.1 cZ).1;dsimp only at cZ hl3;simp[-getElem?_pos,zc,e4,cZ,qT,hVl,zp hVl hZ16,hl3,qo hVl];refine fin rfl (hx.call hxx2) hg2 hV fun b=>?_
     unfold z7;rw[zu (hv2 b),qxZ,hop];rfl
   . have hc0:=yv 0 (by omega);rw[qgS]at hc0;simp only[qCy]at hc0;simp[e3,e15,e16,bE,hop,h1];rw[qP rfl];simp[zc,e2,bB];refine qFz hc0 rfl ?_;simp[zc,e5,bW,hw0l,qo hw0l];refine qFC (Jj hx.self (wA hx.ok) hw0) ?_;rintro v ⟨H2,T2⟩ ⟨d2,V,rfl,hxx2,hg2,hV,hv2⟩;dsimp only at hv2;have hVl:=hV.1;have cZ:=hxx2.loc bZ (hk _ (by omega));have hl3:=(qBa.1 cZ).1;dsimp only at cZ hl3;simp[-getElem?_pos,zc,e4,cZ,qT,hVl,zp hVl hZ16,hl3,qo hVl];refine fin rfl (hx.call hxx2) hg2 hV fun b=>?_
     rw[qeC (hv2 b),<- wC,quk,wb fun k _=>kU hx.ok b k,hop];simp[opW,unW,z7]
   simp[e3,e15,e16,bE,hop,h1];rw[qP rfl];simp[zc,e2,e5,bB,bW,hw0l,qo hw0l];refine qFC (qr0 hx.self hw0) ?_;rintro v ⟨H2,T2⟩ ⟨d2,V,rfl,hxx2,hg2,hV,hv2⟩;dsimp only at hv2;have hVl:=hV.1;have cZ:=hxx2.loc bZ (hk _ (by omega));have hl3:=(qBa.1 cZ).1;dsimp only at cZ hl3;simp[-getElem?_pos,zc,e4,cZ,qT,hVl,zp hVl hZ16,hl3,qo hVl];refine fin rfl (hx.call hxx2) hg2 hV fun b=>?_
   have hr:=qhX d1 b w0;have hwi:=QG hr.1 hr.2;unfold z7 at hwi⊢;rw[hv2 b,<- VO _ 16 (by omega),hop];simp[opW,unW,hwi]
 . -- a choice
   rw[h1]at hWl e5;obtain⟨w0,w1,w2,rfl⟩:∃w w' w'',Ws=[w,w',w'']:=by
    match Ws,hWl with
    |[a,b,c],_=>exact⟨a,b,c,rfl⟩
   have hw0:=hWs w0 (by simp);have hw0l:=hw0.1;have hw1:=hWs w1 (by simp);have hw1l:=hw1.1;have hw2:=hWs w2 (by simp);have hw2l:=hw2.1;simp only[qBC,qDQ,qBU]at bW;have c0:(qz w0++(qz w1++qz w2)).take 16=qz w0:=(by rw[qCo (by simp[hw0l]),qo hw0l]);have c1:((qz w0++(qz w1++qz w2)).drop 16).take 16=qz w1:=by
    rw[qC6,qBS (by simp[hw0l]),jL,hw0l,qB9,qCq,qBy,qCo (by simp[hw1l]),qo hw1l]
   have c2:(qz w0++(qz w1++qz w2)).drop 32=qz w2:=by
    rw[qC6,qBS (by simp[hw0l]),jL,hw0l,qBy,qC6,qBS (by simp[hw1l]),jL,hw1l];rfl
   have cl:(qz w0++(qz w1++qz w2)).length=48:=(by simp[hw0l,hw1l,hw2l]);generalize qz w0++(qz w1++qz w2)=F at *;simp[e3,e15,e16,bE,hop,h1];rw[qP rfl];simp[zc,e2,e5,bB,bW,cl,c0]
   -- what is behind the truth
   have rest:∀{H2:List Blk} {T2:List (Option Nat)} {d2:List Nd} {t N:Nat},BX c H d2 H2->zb d1 d2->t<d2.length->(∀b,evD d2 b t=Jr (qq d1 b w0) 16)->(∀{k:Nat} {x:Blk},H.length<=k->H1[k]?=some x->H2[k]?=some x)->H2[N]?=some (.cells [.int .i64 (t:Int)])->N≠c.B ->
    qj prog (XG c) 200 [.agg (qz w1),.agg (qz w2),.fn 201 [] [.ptr H.length 0,.ptr N 0]] ⟨H2,T2⟩ (BQ c d2 H2 fun b k=>if Jr (qq d1 b w0) 16=true then qq d1 b w1 k else qq d1 b w2 k):=by
    intro H2 T2 d2 t N hx2 hg2 ht2 htv up bN hN;have cB:=up (qBl _) bB;have:=YS hx2.self (hw1.grown hg2) (hw2.grown hg2) (T:=T2) (g:=201) (first:=[]) (cap:=[.ptr H.length 0,.ptr N 0]) (F:=fun b p q=>Jr (qq d1 b w0) 16&&p||!Jr (qq d1 b w0) 16&&q) (fun d3 H3 T3 x y hx3 hg3 hxl hyl=>by
     have key:=qlH hx3.self (h1:=H.length) (h2:=N) (t:=t) (x:=x) (y:=y) (T:=T3) (hx3.loc cB (hk _ (qBl _))) (hx3.loc bN hN) (qBt ht2 hg3.len) hxl hyl;have e:(fun b=>evD d3 b t&&evD d3 b x||!evD d3 b t&&evD d3 b y)=fun b=>Jr (qq d1 b w0) 16&&evD d3 b x||!Jr (qq d1 b w0) 16&&evD d3 b y:=by
      funext b;rw[hg3.ev hx2.ok b ht2,htv]
     rw[e]at key;exact key)
    refine this.imp fun v U ⟨d',W,e1,e2,e3,e4,e5⟩=>⟨d',W,e1,e2,e3,e4,fun b k hk=>?_⟩
    rw[e5 b k hk];dsimp only;rw[zJ hx.ok hg2 hw1 b hk,zJ hx.ok hg2 hw2 b hk];cases Jr (qq d1 b w0) 16<;>simp
   have vU:∀{H4:List Blk} {T4:List (Option Nat)} {d2 d4:List Nd} {V:List Nat},BX c H d4 H4->zb d1 d2->zb d2 d4->za d4 V->(∀b k,k<16->qq d4 b V k=if Jr (qq d1 b w0) 16=true then qq d1 b w1 k else qq d1 b w2 k)->WQ c d H (fun b=>val b e) (.agg (qz V)) ⟨H4.set (H.length+2) (.cells (qz V)),T4⟩:=fun {H4 T4 d2 d4 V} hx4 hg2 hg4 hV hvv=>by
    refine fin rfl hx4 (hg2.trans hg4) hV fun b=>?_
    unfold z7;rw[zu (hvv b),hop,v9];by_cases h:(zs (qq d1 b w0) 16:Int)=0
    . have h':zs (qq d1 b w0) 16=0:=(by omega);simp[opW,h']
    have h':¬zs (qq d1 b w0) 16=0:=(by omega);simp[opW,h']
   refine⟨qFC (QJ hx.self hw0) ?_,qFC (QJ (hx.app _).self hw0) ?_⟩
   . rintro v ⟨H2,T2⟩ ⟨d2,t,rfl,hxx2,hg2,ht2,hv2⟩;dsimp only at hv2;have hx2:=hx.call hxx2;have up:∀{k:Nat} {x:Blk},H.length<=k->H1[k]?=some x->H2[k]?=some x:=fun {k x} hl hq=>hxx2.loc hq (hk k hl)
     have cW:=up (by omega) bW;simp[zc];rw[qP rfl];simp[zc,e2,e5,qd cW,cl,c1,c2,qo hw2l];refine qFC (rest (hx2.app [.cells [.int .i64 (t:Int)]]) hg2 ht2 hv2 (fun hl hq=>qd (up hl hq) _) lk0 (hk _ (hx2.kp.1))) ?_;rintro v ⟨H3,T3⟩ ⟨d3,V,rfl,hxx3,hg3,hV,hv3⟩;have hx3:=(hx2.app [.cells [.int .i64 (t:Int)]]).call hxx3;have hVl:=hV.1;have cZ:=hxx3.loc (qd (up (by omega) bZ) _) (hk _ (by omega));have hl3:=(qBa.1 cZ).1;dsimp only at cZ hl3;simp[-getElem?_pos,zc,e4,cZ,qT,hVl,zp hVl hZ16,hl3,qo hVl];exact vU hx3 hg2 hg3 hV hv3
   rintro v ⟨H2,T2⟩ ⟨d2,t,rfl,hxx2,hg2,ht2,hv2⟩;dsimp only at hv2;have hx2:=(hx.app _).call hxx2;have up:∀{k:Nat} {x:Blk},H.length<=k->H1[k]?=some x->H2[k]?=some x:=fun {k x} hl hq=>hxx2.loc (qd hq _) (hk k hl)
   have hH1l:=hx.kp.1;have bN:=hxx2.loc (lk0 (H:=H1) (p:=Blk.cells [.int .i64 0]) (t:=[])) (hk _ hH1l);have hNl:=(qBa.1 bN).1;have hH13:=(qBa.1 bW).1;have cW:=up (by omega) bW;have up3:∀{k:Nat} {x:Blk},H.length<=k->H1[k]?=some x->(H2.set H1.length (.cells [.int .i64 (t:Int)]))[k]?=some x:=fun {k x} hl hq=>by
    have:=(qBa.1 hq).1;rw[qBd (by omega)];exact up hl hq
   have dW:=up3 (by omega) bW;simp[zc,bN];rw[qP rfl];simp[zc,e2,e5,dW,cl,c1,c2,qo hw2l];refine qFC (rest (hx2.set hH1l _) hg2 ht2 hv2 up3 (qBg hNl) (hk _ hH1l)) ?_;rintro v ⟨H3,T3⟩ ⟨d3,V,rfl,hxx3,hg3,hV,hv3⟩;have hx3:=(hx2.set hH1l _).call hxx3;have hVl:=hV.1;have cZ:=hxx3.loc (up3 (by omega) bZ) (hk _ (by omega));have hl3:=(qBa.1 cZ).1;dsimp only at cZ hl3;simp[-getElem?_pos,zc,e4,cZ,qT,hVl,zp hVl hZ16,hl3,qo hVl];exact vU hx3 hg2 hg3 hV hv3
 . -- ranges
   obtain⟨w0,Wr,rfl⟩:∃w r,Ws=w::r:=by
    match Ws,hWl with
    |a::r,_=>exact⟨a,r,rfl⟩
    |[],h=>simp at h;omega
   have hw0:=hWs w0 (by simp);have hw0l:=hw0.1;have hWrl:Wr.length+1=e.args.length:=(by simpa using hWl);rw[<- hWrl]at e5;have hsl:zl (.ms (H.length+3) 0 (Wr.length+1) 16) (some (.int .i64 1)) none none=some (.ms (H.length+3) 16 Wr.length 16):=by
    have h2:(1:Int)<=((Wr.length+1:Nat):Int):=(by omega);show(if(0:Int)<=1/\(1:Int)<=((Wr.length+1:Nat):Int)/\((Wr.length+1:Nat):Int)<=((Wr.length+1:Nat):Int)/\((1:Int)=0\/(1:Int)<((Wr.length+1:Nat):Int)) then _ else _)=_;rw[if_pos ⟨by omega,h2,qEA _,.inr (by omega)⟩];simp
   have hpos1:(0:Int)<(Wr.length:Int)+1:=(by omega);have hin:=qkI hx.self hw0 (A:=H.length+3) (V:=w0) (Ws:=Wr) hw0l (fun w hw=>hWs w (by simp[hw])) (by simpa using bW) (hk _ (by omega)) (by omega) (T:=T1);simp only[qBC]at bW hflen;have c0:(qz w0++Wr.flatMap qz).take 16=qz w0:=(by rw[qCo (by simp[hw0l]),qo hw0l]);have cl:16<=(qz w0++Wr.flatMap qz).length:=(by simp[hw0l]);generalize qz w0++Wr.flatMap qz=F at *;simp[e3,e15,e16,bE,hop];rw[qP rfl];simp[zc,e2,e5,bB,bW,cl,c0,hsl,hpos1];refine qFC hin ?_;rintro v ⟨H2,T2⟩ ⟨d2,u,rfl,hxx2,hg2,hu,hv2⟩;dsimp only at hv2;have hx2:=hx.call hxx2;have cZ:=hxx2.loc bZ (hk _ (by omega));have hl3:=(qBa.1 cZ).1;dsimp only at cZ hl3;simp[zc];refine qFz (jp u) rfl ?_;have cut1:(qz (u::List.replicate 15 0)).take 16=qz (u::List.replicate 15 0):=qo rfl;have put1:zx (qz zg) 0 (qz (u::List.replicate 15 0))=qz (u::List.replicate 15 0):=zp rfl rfl;have k0:=fin (H4:=H2) (d4:=d2) (V:=u::List.replicate 15 0) (τ:=⟨H2.set (H.length+2) (.cells (qz (u::List.replicate 15 0))),T2⟩) rfl hx2 hg2 (qcE hx2.ok hu) (fun b=>by
    rw[qaO hx2.ok,hv2,hop];have:(Wr.map (z7 d1 b))=(Wr.map fun w=>zs (qq d1 b w) 16).map fun n:Nat=>(n:Int):=by
     rw[qCI];rfl
    simp only[opW,qBn,List.tail_cons,this];have hins:=qkK (x:=zs (qq d1 b w0) 16) (Wr.map fun w=>zs (qq d1 b w) 16);show _=b2i (jk (z7 d1 b w0) _);rw[<- hins];rfl)
   simp only[List.reduceReplicate]at k0 cut1 put1;simp[-getElem?_pos,zc,e4,cZ,qT,put1,hl3,cut1];exact k0
 -- two operands
 rw[h1]at hWl e5;obtain⟨w0,w1,rfl⟩:∃w w',Ws=[w,w']:=by
  match Ws,hWl with
  |[a,b],_=>exact⟨a,b,rfl⟩
 have hw0:=hWs w0 (by simp);have hw0l:=hw0.1;have hw1:=hWs w1 (by simp);have hw1l:=hw1.1;have c0:(qz w0++qz w1).take 16=qz w0:=by rw[qCo (by simp[hw0l]),qo hw0l]
 have c1:(qz w0++qz w1).drop 16=qz w1:=by rw[qC6,qBS (by simp[hw0l]),jL,hw0l];rfl
 have cl:(qz w0++qz w1).length=32:=by simp[hw0l,hw1l]
 simp only[qBC,qDQ,qBU]at bW;generalize qz w0++qz w1=F at *;have n23:¬e.op=23:=by omega
 have n22:¬e.op=22:=by omega
 simp[-getElem?_pos,e2,e3,e15,e16,bE,h1,show ¬e.op=1 by omega,show ¬e.op=2 by omega,show ¬e.op=4 by omega,show ¬e.op=5 by omega,show ¬e.op=6 by omega,show ¬e.op=25 by omega,n23,n22];rw[qP rfl];simp[-getElem?_pos,zc,e2,e3,e5,bB,bE,bW,cl,c0,c1,qo hw1l];refine qFC (qlR hx.self hw0 hw1 hop7 hop21) ?_;rintro v ⟨H2,T2⟩ ⟨d2,V,rfl,hxx2,hg2,hV,hv2⟩;dsimp only at hv2;have hVl:=hV.1;have cZ:=hxx2.loc bZ (hk _ (by omega));have hl3:=(qBa.1 cZ).1;dsimp only at cZ hl3;simp[-getElem?_pos,zc,e4,cZ,qT,hVl,zp hVl hZ16,hl3,qo hVl];refine fin rfl (hx.call hxx2) hg2 hV fun b=>?_
 rw[hv2 b];simp[opW,n22,n23]
def qqS{p lv}(hp:PB p lv c):∀(e),qiQ p e->∀d H T,BX c H d H->qj prog (XG c) 134 [.ptr c.B 0,.agg (qp e)] ⟨H,T⟩ (WQ c d H fun b=>yo (yp p.vars (QY p.vars lv b)) e):=by
 refine qFX fun e ih he d H T h=>?_
 by_cases h0:e.args=[]
 . exact qbN h hp e he h0
 exact qbM h hp e he h0 fun a ha d H T h=>ih a ha (he.arg ha) d H T h
end
