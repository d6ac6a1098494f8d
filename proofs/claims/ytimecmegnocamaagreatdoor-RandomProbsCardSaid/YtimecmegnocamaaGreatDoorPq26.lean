import Derived.Test.YtimecmegnocamaaGreatDoorPq25
import Derived.Tactics
import Derived.Tactics2
import Derived.WalkKit
import Derived.WalkSmall
import Derived.RowKit3
set_option maxRecDepth 100000
set_option maxHeartbeats 16000000
set_option linter.all false
set_option linter.defProp false
namespace Go.Abs
def zt(f:Nat->Bool):Nat->Nat
 |0=>0
 |n+1=>zt f n+cond (f n) (2^n) 0
def kR(f):∀n,zt f n<2^n
 |0=>by simp[zt]
 | n+1=>by
  have:=kR f n;simp only[zt,Nat.pow_succ];cases f n<;>simp<;>omega
def zc(f):∀(n k),(zt f n).testBit k=(decide (k<n)&&f k)
 |0,k=>by simp[zt]
 | n+1,k=>by
  have h:=kR f n;have ih:=zc f n;simp only[zt];by_cases hk:k=n
  . subst hk
    cases hf:f k with
    | true=>
     simp only[cond_true];rw[Nat.add_comm,Nat.testBit_two_pow_add_eq,Nat.testBit_lt_two_pow h];simp
    |false=>simp;rw[ih k];simp[hf]
  by_cases hl:k<n
  . cases hf:f n with
    | true=>
     simp only[cond_true];rw[Nat.add_comm,Nat.testBit_two_pow_add_gt hl,ih k];simp[hl,Nat.lt_succ_of_lt hl]
    |false=>simp[ih k,hl];intro;omega
  have hge:n+1<=k:=by omega
  have hb:zt f n+cond (f n) (2^n) 0<2^k:=by
   have:2^(n+1)<=2^k:=Nat.pow_le_pow_right (by omega) hge;rw[Nat.pow_succ]at this;cases f n<;>simp<;>omega
  rw[Nat.testBit_lt_two_pow hb];simp;omega
def zw{f g}:∀{n:Nat},(∀k,k<n->f k=g k)->zt f n=zt g n
 |0,_=>rfl
 |n+1,h=>by simp only[zt];rw[zw fun k hk=>h k (by omega),h n (by omega)]
def JV(m n):zt (fun k=>m.testBit k) n=m%2^n:=by
 apply Nat.eq_of_testBit_eq;intro k;rw[zc,Nat.testBit_mod_two_pow]
def kQ{f}:∀{n:Nat},(∀k,k<n->f k=false)->zt f n=0
 |0,_=>rfl
 |n+1,h=>by simp only[zt];rw[kQ fun k hk=>h k (by omega),h n (by omega)];simp
def qbw(x y:Nat->Bool)(c:Bool):Nat->Bool
 |0=>c
 |k+1=>(x k&&y k)||((x k ^^ y k)&&qbw x y c k)
def b2n(b:Bool):Nat:=cond b 1 0
def qbV(x y c):∀n,zt (fun k=>(x k ^^ y k) ^^ qbw x y c k) n+2^n*b2n (qbw x y c n)=zt x n+zt y n+b2n c
 |0=>by simp[zt,qbw]
 | n+1=>by
  have ih:=qbV x y c n;simp only[zt,qbw,Nat.pow_succ];generalize zt (fun k=>(x k ^^ y k) ^^ qbw x y c k) n=s at *;generalize qbw x y c n=q at *;generalize 2^n=p at *;cases hx:x n<;>cases hy:y n<;>cases q<;>simp[b2n]at ih⊢<;>omega
def wu(x y c n):zt (fun k=>(x k ^^ y k) ^^ qbw x y c k) n=(zt x n+zt y n+b2n c)%2^n:=by
 have h:=qbV x y c n;have h1:=kR (fun k=>(x k ^^ y k) ^^ qbw x y c k) n;rw[<- h,Nat.add_mul_mod_self_left,Nat.mod_eq_of_lt h1]
def qah(x):∀n,zt (fun k=>!x k) n=2^n-1-zt x n
 |0=>rfl
 | n+1=>by
  have:=kR x n;have:=qah x n;simp only[zt,Nat.pow_succ];cases x n<;>simp<;>omega
def qeu(x y:Nat->Bool):Nat->Bool
 |0=>false
 |k+1=>(!x k&&y k)||(!(x k ^^ y k)&&qeu x y k)
def QL(x y):∀n,qeu x y n=decide (zt x n<zt y n)
 |0=>by simp[qeu,zt]
 | n+1=>by
  have ih:=QL x y n;have h1:=kR x n;have h2:=kR y n;simp only[qeu,zt,ih];rcases Bool.eq_false_or_eq_true (x n) with hx|hx<;>rcases Bool.eq_false_or_eq_true (y n) with hy|hy<;>simp[hx,hy]<;>omega
def eqT(x y:Nat->Bool):Nat->Bool
 |0=>true
 |k+1=>eqT x y k&&!(x k ^^ y k)
def qa1(x y):∀n,eqT x y n=decide (zt x n=zt y n)
 |0=>by simp[eqT,zt]
 | n+1=>by
  have ih:=qa1 x y n;have h1:=kR x n;have h2:=kR y n;simp only[eqT,zt,ih];rcases Bool.eq_false_or_eq_true (x n) with hx|hx<;>rcases Bool.eq_false_or_eq_true (y n) with hy|hy<;>simp[hx,hy]<;>omega
def Je(x:Nat->Bool):Nat->Bool
 |0=>false
 |k+1=>Je x k||x k
def Jd(x):∀n,Je x n=decide (zt x n≠0)
 |0=>by simp[Je,zt]
 | n+1=>by
  have ih:=Jd x n;have:0<2^n:=Nat.pow_pos (by omega);simp only[Je,zt,ih];rcases Bool.eq_false_or_eq_true (x n) with hx|hx<;>simp[hx]<;>omega
def qja(x k n):zt (fun i=>decide (k<=i)&&x (i-k)) n=(zt x n*2^k)%2^n:=by
 apply Nat.eq_of_testBit_eq;intro i;rw[zc,Nat.testBit_mod_two_pow,Nat.testBit_mul_two_pow,zc];by_cases h1:i<n<;>by_cases h2:k<=i<;>simp[h1,h2];intro;omega
def qjb(x k n):zt (fun i=>decide (i+k<n)&&x (i+k)) n=zt x n/2^k:=by
 apply Nat.eq_of_testBit_eq;intro i;rw[zc,Nat.testBit_div_two_pow,zc];by_cases h1:i<n<;>by_cases h2:i+k<n<;>simp[h1,h2]
 . omega
def qr3(a:Nat)(y:Nat->Bool)(n:Nat):Nat->Nat
 |0=>0
 |k+1=>(qr3 a y n k+cond (y k) ((a*2^k)%2^n) 0)%2^n
def qcA(a y n):∀k,qr3 a y n k=(a*zt y k)%2^n
 |0=>by simp[qr3,zt]
 | k+1=>by
  simp only[qr3,zt,qcA a y n k,Nat.mul_add]
  cases y k with
  |true=>simp[Nat.add_mod]
  |false=>simp
def qay(x:Nat->Bool):Nat->Nat
 |0=>0
 |k+1=>qay x k+b2n (x k)
def qfZ(x):∀n,qay x n<=n
 |0=>Nat.le_refl _
 |n+1=>by have:=qfZ x n;simp only[qay,b2n];cases x n<;>simp<;>omega
def qmH(x y n):zt (fun k=>x k&&y k) n=zt x n &&& zt y n:=by
 apply Nat.eq_of_testBit_eq;intro i;rw[Nat.testBit_and,zc,zc,zc];cases decide (i<n)<;>simp
def qqV(x y n):zt (fun k=>x k||y k) n=zt x n ||| zt y n:=by
 apply Nat.eq_of_testBit_eq;intro i;rw[Nat.testBit_or,zc,zc,zc];cases decide (i<n)<;>simp
def qmG(x y n):zt (fun k=>x k ^^ y k) n=zt x n ^^^ zt y n:=by
 apply Nat.eq_of_testBit_eq;intro i;rw[Nat.testBit_xor,zc,zc,zc];cases decide (i<n)<;>simp
def qag(t):∀n,zt (fun k=>decide (k=0)&&t) (n+1)=b2n t
 |0=>by cases t<;>rfl
 | n+1=>by
  have:=qag t n;rw[zt,this];simp
end Go.Abs
namespace Go.Proofs.YtimecmegnocamaaGreatDoor
open Go Go.Abs Go.RowKit Tryz
def qct(f):zt f 16<65536:=kR f 16
def VD(f):∀k,k<=16->yR (zt f 16) k=qay f k
 |0,_=>rfl
 | k+1,h=>by
  simp only[yR,qay,VD f k (by omega),zc,b2n];have:decide (k<16)=true:=by simp;omega
  rw[this,qB7];cases f k<;>rfl
def vW(f):Je f 16 = !decide ((zt f 16:Int)=0):=by
 rw[Jd];simp
def qka(t):(zt (fun k=>decide (k=0)&&t) 16:Int)=b2i t:=by
 rw[qag t 15];cases t<;>rfl
section
variable {x y z:Nat->Bool}
def qxN:(zt (fun k=>(x k ^^ y k) ^^ qbw x y false k) 16:Int)=qy (zt x 16+zt y 16):=by
 rw[wu];unfold qy b2n;simp
def qt4:(zt (fun k=>(x k ^^ !y k) ^^ qbw x (fun k=>!y k) true k) 16:Int)=qy (zt x 16-zt y 16):=by
 rw[wu,qah];have:=qct x;have:=qct y;unfold qy b2n;simp;omega
def qxM:(zt (fun k=>!x k) 16:Int)=65535-qy (zt x 16):=by
 rw[qah];have:=qct x;unfold qy;omega
def qxL:((zt x 16*zt y 16%2^16:Nat):Int)=qy (zt x 16*zt y 16):=by unfold qy;simp
def qxK(n):((zt x 16*2^n%2^16:Nat):Int)=qy (zt x 16*2^n):=by unfold qy;simp
def qxJ(n):((zt x 16/2^n:Nat):Int)=qy (zt x 16)/2^n:=by
 have:=qct x;rw[show qy (zt x 16)=zt x 16 from QB (by omega) (by omega)];simp
end
def qu(d:List Nd)(b:Nat->Bool)(w:List Nat)(k:Nat):Bool:=evD d b (w.getD k 0)
def z7(d:List Nd)(b:Nat->Bool)(w:List Nat):Int:=(zt (qu d b w) 16:Nat)
def zd(d:List Nd)(w:List Nat):Prop:=w.length=16/\∀i∈w,i<d.length
def zd.at{d w}(h:zd d w){k}(hk:k<16):w.getD k 0<d.length:=by
 have hl:k<w.length:=by rwa[h.1]
 rw[qA8,qAW hl];exact h.2 _ (qDh hl)
def zd.grown{d d' w}(h:zd d w)(hg:ze d d'):zd d' w:=⟨h.1,fun i hi=>qBd (h.2 i hi) hg.len⟩
def zM{d d'}(hd:DagOk d)(hg:ze d d'){w}(h:zd d w)(b){k}(hk:k<16):qu d' b w k=qu d b w k:=hg.ev hd b (h.at hk)
def qhP{d d'}(hd:DagOk d)(hg:ze d d'){w}(h:zd d w)(b):z7 d' b w=z7 d b w:=by
 unfold z7;rw[zw fun k hk=>zM hd hg h b hk]
def qhO(d b w):0<=z7 d b w/\z7 d b w<=65535:=by
 unfold z7;have:=qct (qu d b w);omega
def kl{P G o env U ks Q}(n)(J:Nat->Env->St->Prop){c}(h0:J 0 env U)
 (hs:∀i env U (R:Env->St->Prop),(∀env U,J (i+1) env U->R env U)->i<n->J i env U->kC P G o c env U (.loop R::ks) Q)
 (he:∀env U,J n env U->kC P G o c env U (.loop (fun _ _=>False)::ks) Q) (hp:yj c=true:=by rfl):qJ P G o c env U ks Q :=
 qJ.count n J h0 (fun i env U h1 hJ=>hs i env U _ (fun _ _ h=>h) h1 hJ) he hp
structure Bc where
 B:Nat
 M:Nat
 rest:List AV
 mp:Blk
 H0:List Blk
abbrev XG(c:Bc):Glo:=⟨GG,fun cs τ=>cs=[{v:=.iface 230 (.agg #[.int .i64 2]),recovered:=false}]/\KpL [c.B] c.H0 τ.H⟩
structure BX(c:Bc)(E:List Blk)(d:List Nd)(H:List Blk):Prop where
 b:∃tok,H[c.B]?=some (.cells (.sl 3 (d.map qN) tok::c.rest))
 m:H[c.M]?=some c.mp
 ok:DagOk d
 kp0:KpL [c.B] c.H0 H
 kp:KpL [c.B] E H
 ne:c.M≠c.B
 b0:c.B<E.length
 m0:c.M<E.length
 h0:c.H0.length<=E.length
section
variable {c:Bc}{E H H':List Blk}{d d':List Nd}{U U':St}{T T':List (Option Nat)}
def BX.app(h:BX c E d H)(u):BX c E d (H++u):=by
 obtain⟨tok,hb⟩:=h.b;exact⟨⟨tok,qf hb _⟩,qf h.m _,h.ok,h.kp0.trans qFX,h.kp.trans qFX,h.ne,h.b0,h.m0,h.h0⟩
def BX.set(h:BX c E d H){k}(hk:E.length<=k)(y):BX c E d (H.set k y):=by
 obtain⟨tok,hb⟩:=h.b;have:=h.b0;have:=h.m0;have:=h.h0;exact⟨⟨tok,by rw[qAX (by omega)];exact hb⟩,by rw[qAX (by omega)];exact h.m,h.ok,h.kp0.setF (by omega),h.kp.setF hk,h.ne,h.b0,h.m0,h.h0⟩
def BX.self(h:BX c E d H):BX c H d H:=⟨h.b,h.m,h.ok,h.kp0,qFV,h.ne,qBd h.b0 h.kp.1,qBd h.m0 h.kp.1,qBN h.h0 h.kp.1⟩
def BX.same(h:BX c E d H)(hk:KpL [] H H'):BX c E d H':=by
 obtain⟨tok,hb⟩:=h.b;exact⟨⟨tok,hk.2 _ _ hb (by simp)⟩,hk.2 _ _ h.m (by simp),h.ok,h.kp0.trans (hk.sub (by simp)),h.kp.trans (hk.sub (by simp)),h.ne,h.b0,h.m0,h.h0⟩
def BX.call(h:BX c E d H)(h':BX c H d' H'):BX c E d' H':=⟨h'.b,h'.m,h'.ok,h'.kp0,h.kp.trans h'.kp,h.ne,h.b0,h.m0,h.h0⟩
def BX.at(h:BX c E d H){k}(hk:E.length<=k):k≠c.B/\k≠c.M:=by have:=h.b0;have:=h.m0;omega
def BX.loc(h:BX c H d H'){k x}(hx:H[k]?=some x)(hk:k≠c.B):H'[k]?=some x:=h.kp.2 _ _ hx (by simpa using hk)
end
def wW(c){H T Q}(hk:KpL [c.B] c.H0 H)(b n):
 qj prog (XG c) 266 [.ptr b 0,.agg [.sl 0 [] .nil],.int .i64 n,.int .i64 2] ⟨H,T⟩ Q:=by
 refine⟨by kernel_rfl,fun w0 ro0 K w vs hw hvs=>?_⟩;simp only[ql,qk]at hvs;obtain⟨v1,r1,e1,⟨B,hB,rfl⟩,v2,r2,rfl,⟨cs,rfl,v3,r3,e3,hsl,rfl⟩,v4,r4,rfl,rfl,v5,r5,rfl,rfl,rfl⟩:=hvs;have hv3:qk K (.sl 0 [] .nil) v3:=by simp only[qk];exact hsl
 clear hsl;have evs:vs = #[.pointer (some ⟨B,0,none⟩),.agg cs,.int .i64 n,.int .i64 2]:=by apply Array.ext';simpa using e1
 have ecs:cs = #[v3]:=by apply Array.ext';simpa using e3
 subst evs ecs
 go_enter func266,Tryz.ntmps266
 go_wp2
 simp only[bodyPost];have hw3:=hw.push (b:=.cells [.sl 0 [] .nil]) (o:=.cells #[v3] 70) ⟨#[v3],70,rfl,by simp,by simp,fun i a e=>by
  cases i with
  |zero=>simp at e;subst e;exact⟨_,rfl,hv3.mono (qFC hw w.heap.size (j9 (.cells #[v3] 70)))⟩
  |succ i=>simp at e⟩
 refine⟨trivial,.inr ⟨_,rfl,_,_,qFC hw w.heap.size (j9 (.cells #[v3] 70)),hw3,rfl,?_⟩⟩;exact hk.trans qFX
def Jt(c:Bc){E H:List Blk}{T:List (Option Nat)}{d d':List Nd}(h:BX c E d H)(hd:DagOk d')(i:Nat)(tok:Tok):
 qj prog (XG c) 266 [.ptr c.B 0,.agg [.sl 3 (d'.map qN) tok],.int .i64 i,.int .i64 0] ⟨H,T⟩ (fun r U'=>r=.int .i64 i/\BX c E d' U'.H):=by
 refine qFo qg func266 rfl (by kernel_rfl) ?_;obtain⟨t0,hb⟩:=h.b;have hbl:=(qAU.1 hb).1;simp[qf hb,ky hb];have:=h.b0;have:=h.h0;have:=h.ne;exact⟨⟨tok,qf (qA0 hbl) _⟩,qf (by rw[qAX (Ne.symm h.ne)];exact h.m) _,hd,(h.kp0.trans (qFY (by simp))).trans qFX,(h.kp.trans (qFY (by simp))).trans qFX,h.ne,h.b0,h.m0,h.h0⟩
def NQ(c:Bc)(d:List Nd)(H:List Blk)(v:(Nat->Bool)->Bool)(r:AV)(U':St):Prop :=
 ∃d' i,r=.int .i64 (i:Nat)/\BX c H d' U'.H/\ze d d'/\i<d'.length/\∀b,evD d' b i=v b
def Q9(c){d H T}(h:BX c H d H){f}(hf:f<d.length):
 qj prog (XG c) 195 [.ptr c.B 0,.int .i64 f] ⟨H,T⟩ (NQ c d H fun b=>!evD d b f):=by
 refine qFo qg func195 rfl (by kernel_rfl) ?_;obtain⟨t0,hb⟩:=h.b;simp[hb];refine qFs ((quW d h.ok f hf _ _).leq (args:=[.agg [.sl 3 (d.map qN) t0],.int .i64 f]) (by simp[zm,Leq,qFy])).glo ?_;rintro v ⟨H2,T2⟩ ⟨hk,rfl|⟨d2,i2,t2,rfl,g2,hd2,hi2,hm2,hs2⟩⟩
 . simp;exact qFs (wW c (Q:=fun _ _=>False) (h.same hk).kp0 _ _) fun _ _ h=>h.elim
 simp;refine qFs (Jt c (h.same hk) hd2 i2 _) ?_;rintro v ⟨H3,T3⟩ ⟨rfl,hx⟩;simp;exact⟨d2,i2,rfl,hx,g2,hi2,fun b=>by rw[hs2 b];rfl⟩
def Zb(c){d H T}(h:BX c H d H){f g}(hf:f<d.length)(hg:g<d.length):
 qj prog (XG c) 272 [.ptr c.B 0,.int .i64 f,.int .i64 g] ⟨H,T⟩ (NQ c d H fun b=>evD d b f&&evD d b g):=by
 refine qFo qg func272 rfl (by kernel_rfl) ?_;obtain⟨t0,hb⟩:=h.b;simp[hb];refine qFs ((qqp d h.ok f g hf hg _ _).leq (args:=[.agg [.sl 3 (d.map qN) t0],.int .i64 f,.int .i64 g]) (by simp[zm,Leq,qFy])).glo ?_;rintro v ⟨H2,T2⟩ ⟨hk,rfl|⟨d2,i2,t2,rfl,g2,hd2,hi2,hm2,hs2⟩⟩
 . simp;exact qFs (wW c (Q:=fun _ _=>False) (h.same hk).kp0 _ _) fun _ _ h=>h.elim
 simp;refine qFs (Jt c (h.same hk) hd2 i2 _) ?_;rintro v ⟨H3,T3⟩ ⟨rfl,hx⟩;simp;exact⟨d2,i2,rfl,hx,g2,hi2,fun b=>by rw[hs2 b];rfl⟩
def qcq(c){d H T}(h:BX c H d H){f g}(hf:f<d.length)(hg:g<d.length):
 qj prog (XG c) 191 [.ptr c.B 0,.int .i64 f,.int .i64 g] ⟨H,T⟩ (NQ c d H fun b=>evD d b f||evD d b g):=by
 refine qFo qg func191 rfl (by kernel_rfl) ?_;obtain⟨t0,hb⟩:=h.b;simp[hb];refine qFs ((qyk d h.ok f g hf hg _ _).leq (args:=[.agg [.sl 3 (d.map qN) t0],.int .i64 f,.int .i64 g]) (by simp[zm,Leq,qFy])).glo ?_;rintro v ⟨H2,T2⟩ ⟨hk,rfl|⟨d2,i2,t2,rfl,g2,hd2,hi2,hm2,hs2⟩⟩
 . simp;exact qFs (wW c (Q:=fun _ _=>False) (h.same hk).kp0 _ _) fun _ _ h=>h.elim
 simp;refine qFs (Jt c (h.same hk) hd2 i2 _) ?_;rintro v ⟨H3,T3⟩ ⟨rfl,hx⟩;simp;exact⟨d2,i2,rfl,hx,g2,hi2,fun b=>by rw[hs2 b];rfl⟩
def qby(c){d H T}(h:BX c H d H){f g}(hf:f<d.length)(hg:g<d.length):
 qj prog (XG c) 275 [.ptr c.B 0,.int .i64 f,.int .i64 g] ⟨H,T⟩ (NQ c d H fun b=>evD d b f ^^ evD d b g):=by
 refine qFo qg func275 rfl (by kernel_rfl) ?_;obtain⟨t0,hb⟩:=h.b;simp[hb];refine qFs ((qt2 d h.ok f g hf hg _ _).leq (args:=[.agg [.sl 3 (d.map qN) t0],.int .i64 f,.int .i64 g]) (by simp[zm,Leq,qFy])).glo ?_;rintro v ⟨H2,T2⟩ ⟨hk,rfl|⟨d2,i2,t2,rfl,g2,hd2,hi2,hm2,hs2⟩⟩
 . simp;exact qFs (wW c (Q:=fun _ _=>False) (h.same hk).kp0 _ _) fun _ _ h=>h.elim
 simp;refine qFs (Jt c (h.same hk) hd2 i2 _) ?_;rintro v ⟨H3,T3⟩ ⟨rfl,hx⟩;simp;exact⟨d2,i2,rfl,hx,g2,hi2,fun b=>by rw[hs2 b];rfl⟩
def qlD(c){d H T}(h:BX c H d H){f g e}(hf:f<d.length)(hg:g<d.length)(he:e<d.length):
 qj prog (XG c) 202 [.ptr c.B 0,.int .i64 f,.int .i64 g,.int .i64 e] ⟨H,T⟩ (NQ c d H fun b=>evD d b f&&evD d b g||!evD d b f&&evD d b e):=by
 refine qFo qg func202 rfl (by kernel_rfl) ?_;obtain⟨t0,hb⟩:=h.b;simp[hb];refine qFs ((qlC d h.ok f g e hf hg he _ _).leq (args:=[.agg [.sl 3 (d.map qN) t0],.int .i64 f,.int .i64 g,.int .i64 e]) (by simp[zm,Leq,qFy])).glo ?_;rintro v ⟨H2,T2⟩ ⟨hk,rfl|⟨d2,i2,t2,rfl,g2,hd2,hi2,hm2,hs2⟩⟩
 . simp;exact qFs (wW c (Q:=fun _ _=>False) (h.same hk).kp0 _ _) fun _ _ h=>h.elim
 simp;refine qFs (Jt c (h.same hk) hd2 i2 _) ?_;rintro v ⟨H3,T3⟩ ⟨rfl,hx⟩;simp;exact⟨d2,i2,rfl,hx,g2,hi2,fun b=>by rw[hs2 b];rfl⟩
section
variable {k:IntKind}{a b:Int}
def KE:zz .add k a b=some (.int k (k.wrap (a+b))):=rfl
def J2:zz .sub k a b=some (.int k (k.wrap (a-b))):=rfl
def quQ:zz .mul k a b=some (.int k (k.wrap (a*b))):=rfl
def VB:zz .lss k a b=some (.bool (decide (a<b))):=rfl
def qpL:zz .gtr k a b=some (.bool (decide (a > b))):=rfl
def VC:zz .eql k a b=some (.bool (a==b)):=rfl
def qj4:zz .neq k a b=some (.bool (a != b)):=rfl
end
def qB(w:List Nat):List AV:=w.map fun(n:Nat)=>.int .i64 (n:Int)
@[simp]def jG(w):(qB w).length=w.length:=by simp[qB]
@[simp]def qvL(w):(qB w).all AV.atom=true:=by simp[qB]
@[simp]def qsN:∀(w),qw (qB w)=true
 |[]=>rfl
 |a::r=>by simp only[qB,qA7,qw,qO,qB7];exact qsN r
@[simp]def qvK(H w):(qB w).map (yb H)=qB w:=by simp[qB]
def kF(w)(i n:Nat):(qB w).set i (.int .i64 (n:Int))=qB (w.set i n):=by simp[qB,qEf]
def z5{w:List Nat}{i x:Nat}(h:w[i]?=some x):(qB w).drop i=.int .i64 (x:Int)::(qB w).drop (i+1):=by
 have hl:i<(qB w).length:=by rw[jG];exact(qAU.1 h).1
 rw[qA9 hl];congr 1;obtain⟨_,h2⟩:=qAU.1 h;simp[qB,h2]
def qs{w}(h:w.length=16):(qB w).take 16=qB w:=qAZ (by simp[h])
def qru:∀(new Z),Z.length=new.length->zA Z 0 new=new:=fun new Z h=>by
 have:=vn new Z [] h;simpa using this
def zr{w}(h:w.length=16){Z}(hZ:Z.length=16):zA Z 0 (qB w)=qB w:=qru _ _ (by simp[*])
section
variable {α:Type}{H t:List α}{p q r s u v:α}
def lk0:(H++p::t)[H.length]?=some p:=by rw[qA4 (qA5 _),qBS];rfl
def lk1:(H++p::q::t)[H.length+1]?=some q:=by rw[qA4 (by omega),qB0];rfl
def lk2:(H++p::q::r::t)[H.length+2]?=some r:=by rw[qA4 (by omega),qB0];rfl
def lk3:(H++p::q::r::s::t)[H.length+3]?=some s:=by rw[qA4 (by omega),qB0];rfl
def lk4:(H++p::q::r::s::u::t)[H.length+4]?=some u:=by rw[qA4 (by omega),qB0];rfl
end
def zh:List Nat:=List.replicate 16 0
def qW:zh.length=16:=rfl
def wo{d}(h:DagOk d):zd d zh:=⟨rfl,fun i hi=>by rw[zh,qCL]at hi;rw[hi.2];have:=h.two;omega⟩
def jI:[AV.int .i64 0,.int .i64 0,.int .i64 0,.int .i64 0,.int .i64 0,.int .i64 0,.int .i64 0,.int .i64 0,.int .i64 0,.int .i64 0,.int .i64 0,.int .i64 0,.int .i64 0,.int .i64 0,.int .i64 0,.int .i64 0]=qB zh:=rfl
def kH{d}(h:DagOk d)(b k):qu d b zh k=false:=by
 unfold qu;have:zh.getD k 0=0:=by
  simp only[zh,qA8,qDy];split<;>rfl
 rw[this,Yo h]
def WQ(c:Bc)(d:List Nd)(H:List Blk)(v:(Nat->Bool)->Int)(r:AV)(U':St):Prop :=
 ∃d' W,r=.agg (qB W)/\BX c H d' U'.H/\ze d d'/\zd d' W/\∀b,z7 d' b W=v b
def BQ(c:Bc)(d:List Nd)(H:List Blk)(v:(Nat->Bool)->Nat->Bool)(r:AV)(U':St):Prop :=
 ∃d' W,r=.agg (qB W)/\BX c H d' U'.H/\ze d d'/\zd d' W/\∀b k,k<16->qu d' b W k=v b k
def zd.get{d w}(h:zd d w){k}(hk:k<16):∃x,w[k]?=some x/\x<d.length/\w.getD k 0=x/\∀b,qu d b w k=evD d b x:=by
 have hl:k<w.length:=by rwa[h.1]
 refine⟨w[k],qAW hl,h.2 _ (qDh hl),by simp[List.getD,hl],fun b=>by simp[qu,List.getD,hl]⟩
def zd.set{d w}(h:zd d w){k x}(hx:x<d.length):zd d (w.set k x):=⟨by simp[h.1],fun i hi=>by
 rcases qCF hi with hi|rfl
 . exact h.2 i hi
 exact hx⟩
def w6{d w k x j b}(hk:k<w.length):qu d b (w.set k x) j=if j=k then evD d b x else qu d b w j:=by
 unfold qu;by_cases h:j=k
 . subst h;simp[List.getD,hk]
 simp[List.getD,qAX (Ne.symm h),h]
section
variable {c:Bc}{d:List Nd}{H:List Blk}{T:List (Option Nat)}
def Z9(h:BX c H d H){X}(hX:zd d X):
 qj prog (XG c) 196 [.ptr c.B 0,.agg (qB X)] ⟨H,T⟩ (BQ c d H fun b k=>!qu d b X k):=by
 refine qFo qg func196 rfl (by kernel_rfl) ?_;simp;refine kl 16 (fun i ev U=>ev 0=.ptr c.B 0/\ev 3=.ptr H.length 0/\ev 4=.ptr (H.length+1) 0/\ev 6=.int .i64 (i:Int) /\
  ∃d' W,BX c H d' U.H/\ze d d'/\zd d' W/\U.H[H.length]?=some (.cells (qB W))/\(∃Z,Z.length=16/\U.H[H.length+1]?=some (.cells Z))/\∀b k,k<16->qu d' b W k=if k<i then !qu d b X k else qu d b X k) ?_ ?_ ?_
 . refine⟨by simp,by simp,by simp,by simp,d,X,(h.app _),qFU d,hX,by simp,⟨_,rfl,by simp;rfl⟩,fun b k hk=>by simp⟩
 . rintro i ev ⟨H1,T1⟩ R hR hi ⟨e0,e3,e4,e6,d1,W,hx,hg,hW,hH,⟨Z,hZ,hH2⟩,hb⟩;obtain⟨x,hx1,hx2,hx3,hx4⟩:=hW.get hi;simp only at hx hH hH2;have hWl:=hW.1;have hi':(i:Int)<16:=(by omega);have hi1:i+1<=16:=hi;have hdr:=z5 hx1;have hw:=wr (n:=(i:Int)+1) (by omega) (by omega);simp[*];refine qFs (Q9 c hx.self hx2) ?_;rintro v ⟨H2,T2⟩ ⟨d2,y,rfl,hxx,hg2,hy,hv⟩;dsimp only at hv;have hx2':=hx.call hxx;have hH2':=hxx.loc hH (h.at (qA5 _)).1;have hHl:=(qAU.1 hH2').1;have hZ2:=hxx.loc hH2 (h.at (by omega)).1;simp[e3,e6,hi',hi1,hH2',hWl,kF,hw];refine hR _ _ ⟨by simp[e0],by simp[e3],by simp[e4],by simp,d2,W.set i y,hx2'.set (qA5 _) _,hg.trans hg2,(hW.grown hg2).set hy,by simp[hHl],⟨Z,hZ,by rw[qAX (by omega)];exact hZ2⟩,fun b k hk=>?_⟩;rw[w6 (by omega)];by_cases hki:k=i
   . subst hki;have:=hb b k hk;rw[hx4,if_neg (by omega)]at this;rw[if_pos rfl,if_pos (by omega),hv,this]
   rw[if_neg hki,zM hx.ok hg2 hW b hk,hb b k hk];by_cases hk2:k<i
   . rw[if_pos hk2,if_pos (by omega)]
   rw[if_neg hk2,if_neg (by omega)]
 rintro ev ⟨H1,T1⟩ ⟨e0,e3,e4,e6,d1,W,hx,hg,hW,hH,⟨Z,hZ,hH2⟩,hb⟩;simp only at hx hH hH2;have hWl:=hW.1;have hHl:=(qAU.1 hH2).1;simp[*,-getElem?_pos,qs hWl,zr hWl hZ];refine⟨d1,W,rfl,hx.set (by omega) _,hg,hW,fun b k hk=>by rw[hb b k hk,if_pos hk]⟩
end
section
variable {c:Bc}{d:List Nd}{H:List Blk}{T:List (Option Nat)}
def zd.getG{d d' w}(h:zd d w)(hd:DagOk d)(hg:ze d d'){k}(hk:k<16):∃x,w[k]?=some x/\x<d'.length/\∀b,evD d' b x=qu d b w k:=by
 obtain⟨x,h1,h2,h3,h4⟩:=h.get hk;exact⟨x,h1,qBd h2 hg.len,fun b=>by rw[hg.ev hd b h2,h4 b]⟩
def QE(h:BX c H d H){X}(hX:zd d X):
 qj prog (XG c) 132 [.ptr c.B 0,.agg (qB X)] ⟨H,T⟩ (NQ c d H fun b=>Je (qu d b X) 16):=by
 refine qFo qg func132 rfl (by kernel_rfl) ?_;have hXl:=hX.1;simp[hXl,qs hXl];refine kl 16 (fun i ev U=>ev 0=.ptr c.B 0/\ev 8=.agg (qB X)/\ev 9=.int .i64 (i:Int) /\
  ∃d' t,ev 5=.int .i64 (t:Nat)/\BX c H d' U.H/\ze d d'/\t<d'.length/\∀b,evD d' b t=Je (qu d b X) i) ?_ ?_ ?_
 . exact⟨by simp,by simp,by simp,d,0,by simp,h.app _,qFU d,by have:=h.ok.two;omega,fun b=>Yo h.ok b⟩
 . rintro i ev ⟨H1,T1⟩ R hR hi ⟨e0,e8,e9,d1,t,e5,hx,hg,ht,hv⟩;obtain⟨x,hx1,hx2,hx3⟩:=hX.getG h.ok hg hi;have hi1:i+1<=16:=hi;have hw:=wr (n:=(i:Int)+1) (by omega) (by omega);simp[e0,e5,e8,e9,show(i:Int)<16 by omega,hi1,hXl,z5 hx1];refine qFs (qcq c hx.self ht hx2) ?_;rintro v ⟨H2,T2⟩ ⟨d2,y,rfl,hxx,hg2,hy,hv2⟩;dsimp only at hv2;simp[e9,hw];exact hR _ _ ⟨by simp[e0],by simp[e8],by simp,d2,y,by simp,hx.call hxx,hg.trans hg2,hy,fun b=>by rw[hv2,hv,hx3];rfl⟩
 rintro ev ⟨H1,T1⟩ ⟨e0,e8,e9,d1,t,e5,hx,hg,ht,hv⟩;simp[e5,e9];exact⟨d1,t,rfl,hx,hg,ht,hv⟩
def ql6(n i:Nat)(hn:n<2^63):zz .and .i64 ((n:Int).fdiv (2^i)) 1=some (.int .i64 ((if n.testBit i=true then 1 else 0:Nat):Int)):=by
 have h1:((n:Int).fdiv (2^i))=((n/2^i:Nat):Int):=by rw[qDm _ (Int.pow_nonneg (by omega))];simp
 have h2:n/2^i<2^64:=by have:=qBQ n (2^i);omega
 have h3:n/2^i%2=if n.testBit i=true then 1 else 0:=by
  rw[qD9];have:=qEA (n/2^i);rcases this with h|h<;>simp[h]
 rw[h1];generalize n/2^i=m at *;have h4:(BitVec.ofInt 64 (m:Int) &&& BitVec.ofInt 64 1).toNat=m%2:=by
  rw[BitVec.ofInt_natCast,show BitVec.ofInt 64 1=1#64 from rfl,BitVec.toNat_and,BitVec.toNat_ofNat,BitVec.toNat_ofNat,qDe h2];exact Nat.and_one_is_mod _
 show some (AV.int .i64 (IntKind.i64.wrap ((BitVec.ofInt 64 (m:Int) &&& BitVec.ofInt 64 1).toNat:Int)))=_;rw[h4,h3];split<;>rfl
def yw(n:Nat)(hn:n<65536):Pure prog GG 192 [.int .i64 (n:Int)] (.agg (qB ((List.range 16).map fun k=>if n.testBit k=true then 1 else 0))):=by
 refine qFm qg func192 rfl (by kernel_rfl) ?_;simp;refine kl 16 (fun i ev U=>ev 0=.int .i64 (n:Int)/\ev 2=.ptr 0 0/\ev 3=.ptr 1 0/\ev 5=.int .i64 (i:Int) /\
  ∃W Z,W.length=16/\U=⟨[.cells Z,.cells (qB W)],[]⟩/\Z.length=16/\∀k,k<i->W[k]?=some (if n.testBit k=true then 1 else 0)) ?_ ?_ ?_
 . exact⟨by simp,by simp,by simp,by simp,List.replicate 16 0,_,by simp,rfl,rfl,fun k hk=>absurd hk (by omega)⟩
 . rintro i ev U R hR hi ⟨e0,e2,e3,e5,W,Z,hW,rfl,hZ,hb⟩;have hi1:i+1<=16:=hi;have hw:=wr (n:=(i:Int)+1) (by omega) (by omega);have hmin:min i 64=i:=(by omega);have hneg:¬(i:Int)<0:=(by omega);have hand:=ql6 n i (by omega);obtain⟨v,hv⟩:∃v:Nat,v=if n.testBit i=true then 1 else 0:=⟨_,rfl⟩
   rw[<- hv]at hand;simp[-zz,VB,KE,e0,e3,e5,show(i:Int)<16 by omega,hi1,hW,hmin,IntKind.bits,hand,hneg];refine hR _ _ ⟨by simp[e0],by simp[e2],by simp[e3],by simp[hw],W.set i v,Z,by simp[hW],by simp[kF],hZ,fun k hk=>?_⟩;by_cases hki:k=i
   . subst hki;rw[qA0 (by omega),hv]
   rw[qAX (Ne.symm hki)];exact hb k (by omega)
 rintro ev U ⟨e0,e2,e3,e5,W,Z,hW,rfl,hZ,hb⟩;have:W=(List.range 16).map fun k=>if n.testBit k=true then 1 else 0:=by
  apply qB2;intro k;by_cases hk:k<16
  . rw[hb k hk];simp[hk]
  rw[qBs (by omega),qBs (by simp;omega)]
 rw[<- this];simp[e2,e3,e5,hW,qs hW,zr hW hZ,hZ]
end
section
variable {c:Bc}{d:List Nd}{H:List Blk}{T:List (Option Nat)}
def qpt(x y:Nat->Bool)(c:Bool)(k:Nat):Bool:=(x k ^^ y k) ^^ qbw x y c k
def qnm:List (Nat×Sch×List Nat):=[(5,.step 0 [8,7] (.step 1 [8,7,3,2] (.step 2 [8,7,3] (.step 3 [8,7] (.step 4 [8,7,6,5] (.step 5 [8,7,6] (.step 6 [8,7] (.step 7 [8] (.step 8 [] (.done))))))))),[7]),(8,.step 0 [8,7] (.step 1 [8,7,3,2] (.step 2 [8,7,3] (.step 3 [8,7] (.step 4 [8,7,6,5] (.step 5 [8,7,6] (.step 6 [8,7] (.step 7 [8] (.step 8 [] (.done))))))))),[7])]
def qfu(h:BX c H d H){X Y}(hX:zd d X)(hY:zd d Y){cn}(hc:cn<d.length):
 qj prog (XG c) 270 [.ptr c.B 0,.agg (qB X),.agg (qB Y),.int .i64 (cn:Int)] ⟨H,T⟩ (BQ c d H fun b=>qpt (qu d b X) (qu d b Y) (evD d b cn)):=by
 refine qFn ⟨false,qnm,[],[]⟩ qg func270 rfl (by kernel_rfl) ?_;have hXl:=hX.1;have hYl:=hY.1;simp;refine kl 16 (fun i ev U=>ev 0=.ptr c.B 0/\ev 5=.ptr H.length 0/\ev 6=.ptr (H.length+1) 0/\ev 8=.ptr (H.length+2) 0/\ev 9=.ptr (H.length+3) 0/\ev 14=.int .i64 (i:Int) /\
  ∃ d' W cn',ev 3=.int .i64 (cn':Nat)/\BX c H d' U.H/\ze d d'/\zd d' W/\cn'<d'.length/\U.H[H.length]?=some (.cells (qB X))/\U.H[H.length+1]?=some (.cells (qB Y))/\(∃Z,Z.length=16/\U.H[H.length+2]?=some (.cells Z))/\U.H[H.length+3]?=some (.cells (qB W)) /\
   (i<=15->∀b,evD d' b cn'=qbw (qu d b X) (qu d b Y) (evD d b cn) i) /\
   ∀b k,k<i->qu d' b W k=qpt (qu d b X) (qu d b Y) (evD d b cn) k) ?_ ?_ ?_
 . refine⟨by simp,by simp,by simp,by simp,by simp,by simp,d,zh,cn,by simp,h.app _,qFU d,wo h.ok,hc,lk0,lk1,⟨_,qW,lk2⟩,lk3,fun _ b=>rfl,fun b k hk=>absurd hk (by omega)⟩
 . rintro i ev ⟨H1,T1⟩ R hR hi ⟨e0,e5,e6,e8,e9,e14,d1,W,cn1,e3,hx,hg,hW,hc1,hHX,hHY,⟨Z,hZ,hHZ⟩,hHW,hcar,hb⟩;obtain⟨x,hx1,hx2,hx3⟩:=hX.getG h.ok hg hi;obtain⟨y,hy1,hy2,hy3⟩:=hY.getG h.ok hg hi;simp only at hx hHX hHY hHZ hHW;have hWl:=hW.1;have hi':(i:Int)<16:=(by omega);have hi1:i+1<=16:=hi;have hdx:=z5 hx1;have hdy:=z5 hy1;have hw:=wr (n:=(i:Int)+1) (by omega) (by omega);simp[e14,hi',hi1];rw[qU rfl];simp[zg,e0,e5,e6,hi',hi1,hHX,hHY,hXl,hYl,hdx,hdy];refine qFs (qby c hx.self hx2 hy2) ?_;rintro v ⟨H2,T2⟩ ⟨d2,z,rfl,hxx,hg2,hz,hv2⟩;dsimp only at hv2;have hk:∀j,H.length+j≠c.B:=fun j=>(h.at (by omega)).1
   have hX2:=hxx.loc hHX (hk 0);have hY2:=hxx.loc hHY (hk 1);have hZ2:=hxx.loc hHZ (hk 2);have hW2:=hxx.loc hHW (hk 3);have hx2':=hx.call hxx;have hc2:=qBd hc1 hg2.len;simp[e0,e3,hi1];refine qFs (qby c hx2'.self hz hc2) ?_;rintro v ⟨H3,T3⟩ ⟨d3,o,rfl,hxx3,hg3,ho,hv3⟩;dsimp only at hv3;have hX3:=hxx3.loc hX2 (hk 0);have hY3:=hxx3.loc hY2 (hk 1);have hZ3:=hxx3.loc hZ2 (hk 2);have hW3:=hxx3.loc hW2 (hk 3);have hx3':=hx2'.call hxx3;have hl3:=(qAU.1 hW3).1;have hx4:=hx3'.set (k:=H.length+3) (by omega) (.cells (qB (W.set i o)));have hX4:(H3.set (H.length+3) (.cells (qB (W.set i o))))[H.length]?=some (.cells (qB X)):=(by rw[qAX (by omega)];exact hX3);have hY4:(H3.set (H.length+3) (.cells (qB (W.set i o))))[H.length+1]?=some (.cells (qB Y)):=(by rw[qAX (by omega)];exact hY3);have hZ4:(H3.set (H.length+3) (.cells (qB (W.set i o))))[H.length+2]?=some (.cells Z):=(by rw[qAX (by omega)];exact hZ3);have hW4:(H3.set (H.length+3) (.cells (qB (W.set i o))))[H.length+3]?=some (.cells (qB (W.set i o))):=qA0 hl3;have hg3':=hg.trans (hg2.trans hg3);have hWok:=(hW.grown (hg2.trans hg3)).set (k:=i) ho;have hcar1:=hcar (by omega);have hhv:∀b,evD d2 b z=(qu d b X i ^^ qu d b Y i):=fun b=>by rw[hv2,hx3,hy3]
   have hov:∀b,evD d3 b o=qpt (qu d b X) (qu d b Y) (evD d b cn) i:=fun b=>by
    rw[hv3,hhv,hg2.ev hx.ok b hc1,hcar1];rfl
   have hbits:∀b k,k<i+1->qu d3 b (W.set i o) k=qpt (qu d b X) (qu d b Y) (evD d b cn) k:=fun b k hk=>by
    rw[w6 (by omega)];by_cases hki:k=i
    . subst hki;rw[if_pos rfl,hov]
    rw[if_neg hki,zM hx.ok (hg2.trans hg3) hW b (by omega),hb b k (by omega)]
   by_cases h15:i<15
   . have h15':(i:Int)<15:=(by omega);simp[e9,hi',hi1,hW3,hWl,kF,h15'];generalize H3.set (H.length+3) (.cells (qB (W.set i o)))=H4 at *;rw[qU rfl];simp[zg,e0,e5,e6,hi',hi1,hX4,hY4,hXl,hYl,hdx,hdy];refine qFs (Zb c hx4.self (qBd hx2 (hg2.trans hg3).len) (qBd hy2 (hg2.trans hg3).len)) ?_;rintro v ⟨H5,T5⟩ ⟨d5,g,rfl,hxx5,hg5,hgl,hv5⟩;dsimp only at hv5;have hx5:=hx4.call hxx5;simp[e0,e3,e14];refine qFs (Zb c hx5.self (f:=z) (g:=cn1) (qBd hz (hg3.trans hg5).len) (qBd hc2 (hg3.trans hg5).len)) ?_;rintro v ⟨H6,T6⟩ ⟨d6,hh,rfl,hxx6,hg6,hhl,hv6⟩;dsimp only at hv6;have hx6:=hx5.call hxx6;simp[e0,e14];refine qFs (qcq c hx6.self (f:=g) (g:=hh) (qBd hgl hg6.len) hhl) ?_;rintro v ⟨H7,T7⟩ ⟨d7,c7,rfl,hxx7,hg7,hc7,hv7⟩;dsimp only at hv7;have hx7:=hx6.call hxx7;simp[e14,hw];have hgg:=hg5.trans (hg6.trans hg7);have up:∀{k:Nat} {x:Blk},H4[H.length+k]?=some x->H7[H.length+k]?=some x:=fun {k x} hq=>hxx7.loc (hxx6.loc (hxx5.loc hq (hk k)) (hk k)) (hk k)
     refine hR _ _ ⟨by simp[e0],by simp[e5],by simp[e6],by simp[e8],by simp[e9],by simp,d7,W.set i o,c7,by simp,hx7,hg3'.trans hgg,hWok.grown hgg,hc7,up (k:=0) hX4,up hY4,⟨Z,hZ,up hZ4⟩,up hW4,fun _ b=>?_,fun b k hk=>?_⟩
     . rw[hv7,hg6.ev hx5.ok b hgl,hv5,hv6,(hg3.trans hg5).ev hx2'.ok b hz,(hg3.trans hg5).ev hx2'.ok b hc2,hhv,(hg2.trans hg3).ev hx.ok b hx2,(hg2.trans hg3).ev hx.ok b hy2,hx3,hy3,hg2.ev hx.ok b hc1,hcar1];rfl
     rw[zM hx4.ok hgg hWok b (by omega),hbits b k hk]
   have h15':¬(i:Int)<15:=(by omega);simp[e9,e14,hi',hi1,hW3,hWl,kF,h15',hw];generalize H3.set (H.length+3) (.cells (qB (W.set i o)))=H4 at *;refine hR _ _ ⟨by simp[e0],by simp[e5],by simp[e6],by simp[e8],by simp[e9],by simp,d3,W.set i o,cn1,by simp[e3],hx4,hg3',hWok,qBd hc2 hg3.len,hX4,hY4,⟨Z,hZ,hZ4⟩,hW4,fun hi=>absurd hi (by omega),hbits⟩
 rintro ev ⟨H1,T1⟩ ⟨e0,e5,e6,e8,e9,e14,d1,W,cn1,e3,hx,hg,hW,hc1,hHX,hHY,⟨Z,hZ,hHZ⟩,hHW,hcar,hb⟩;simp only at hx hHX hHY hHZ hHW;have hWl:=hW.1;have hHl:=(qAU.1 hHZ).1;simp[-getElem?_pos,e8,e9,e14,hHW,hHZ,hWl,qs hWl,zr hWl hZ,hZ,hHl];exact⟨d1,W,rfl,hx.set (by omega) _,hg,hW,fun b k hk=>hb b k hk⟩
end
def JM{x x' y y' c}:∀{k:Nat},(∀j,j<k->x j=x' j)->(∀j,j<k->y j=y' j)->qbw x y c k=qbw x' y' c k
 |0,_,_=>rfl
 | k+1,hx,hy=>by
  unfold qbw;rw[hx k (by omega),hy k (by omega),JM (k:=k) (fun j hj=>hx j (by omega)) (fun j hj=>hy j (by omega))]
section
variable {c:Bc}{d:List Nd}{H:List Blk}{T:List (Option Nat)}
def jo(n:Nat):Pure prog GG 194 [.int .i64 (n:Int)] (.agg (qB (n::List.replicate 15 0))):=by
 refine qFm qg func194 rfl (by kernel_rfl) ?_;simp[zu,zZ];exact qFx _
def qni:List (Nat×Sch×List Nat):=[(5,.step 0 [13,12] (.step 1 [13,12] (.step 2 [13,12,11] (.step 3 [13,12,11,10] (.step 4 [13,12,11,10,6,5] (.step 5 [13,12,11,10,6] (.step 6 [13,12,11,10] (.step 7 [13,12,11,10,9,8] (.step 8 [13,12,11,10,9] (.step 9 [13,12,11,10] (.step 10 [13,12,11] (.step 11 [13,12] (.step 12 [13] (.step 13 [] (.done)))))))))))))),[10,11,12])]
def qa0(h:BX c H d H){X Y}(hX:zd d X)(hY:zd d Y):
 qj prog (XG c) 320 [.ptr c.B 0,.agg (qB X),.agg (qB Y)] ⟨H,T⟩ (NQ c d H fun b=>eqT (qu d b X) (qu d b Y) 16):=by
 refine qFn ⟨false,qni,[],[]⟩ qg func320 rfl (by kernel_rfl) ?_;have hXl:=hX.1;have hYl:=hY.1;have hk:∀j,H.length+j≠c.B:=fun j=>(h.at (by omega)).1
 simp;refine kl 16 (fun i ev U=>ev 0=.ptr c.B 0/\ev 4=.ptr H.length 0/\ev 5=.ptr (H.length+1) 0/\ev 9=.int .i64 (i:Int) /\
  ∃ d' t,ev 7=.int .i64 (t:Nat)/\BX c H d' U.H/\ze d d'/\t<d'.length/\U.H[H.length]?=some (.cells (qB X))/\U.H[H.length+1]?=some (.cells (qB Y)) /\
   ∀b,evD d' b t=eqT (qu d b X) (qu d b Y) i) ?_ ?_ ?_
 . exact⟨by simp,by simp,by simp,by simp,d,1,by simp,h.app _,qFU d,by have:=h.ok.two;omega,lk0,lk1,fun b=>qeN h.ok b⟩
 . rintro i ev ⟨H1,T1⟩ R hR hi ⟨e0,e4,e5,e9,d1,t,e7,hx,hg,ht,hHX,hHY,hv⟩;obtain⟨x,hx1,hx2,hx3⟩:=hX.getG h.ok hg hi;obtain⟨y,hy1,hy2,hy3⟩:=hY.getG h.ok hg hi;simp only at hx hHX hHY;have hi':(i:Int)<16:=(by omega);have hi1:i+1<=16:=hi;have hdx:=z5 hx1;have hdy:=z5 hy1;have hw:=wr (n:=(i:Int)+1) (by omega) (by omega);simp[*];rw[qU rfl];simp[*,zg];refine qFs (qby c hx.self hx2 hy2) ?_;rintro v ⟨H2,T2⟩ ⟨d2,z,rfl,hxx2,hg2,hz,hv2⟩;dsimp only at hv2;have hx2':=hx.call hxx2;simp[zg];refine qFs (Q9 c hx2'.self hz) ?_;rintro v ⟨H3,T3⟩ ⟨d3,u,rfl,hxx3,hg3,hu,hv3⟩;dsimp only at hv3;have hx3':=hx2'.call hxx3;simp[zg];have hg23:=hg2.trans hg3;refine qFs (Zb c hx3'.self (f:=t) (g:=u) (qBd ht hg23.len) hu) ?_;rintro v ⟨H4,T4⟩ ⟨d4,w,rfl,hxx4,hg4,hw4,hv4⟩;dsimp only at hv4;have hx4':=hx3'.call hxx4;have up:∀{k:Nat} {x:Blk},H1[H.length+k]?=some x->H4[H.length+k]?=some x:=fun {k x} hq=>hxx4.loc (hxx3.loc (hxx2.loc hq (hk k)) (hk k)) (hk k)
   simp[*,zg];refine hR _ _ ⟨by simp[e0],by simp[e4],by simp[e5],by simp,d4,w,by simp,hx4',hg.trans (hg23.trans hg4),hw4,up (k:=0) hHX,up hHY,fun b=>?_⟩;rw[hv4,hg23.ev hx.ok b ht,hv3,hv2,hv,hx3,hy3];rfl
 rintro ev ⟨H1,T1⟩ ⟨e0,e4,e5,e9,d1,t,e7,hx,hg,ht,hHX,hHY,hv⟩;simp[*];exact⟨d1,t,rfl,hx,hg,ht,hv⟩
def qnl:List (Nat×Sch×List Nat):=[(5,.step 0 [10,9] (.step 1 [10,9,5] (.step 2 [10,9,5,4,3] (.step 3 [10,9,5,4] (.step 4 [10,9,5] (.step 6 [10,9,8,7] (.step 7 [10,9,8] (.fork (.cons 5 (.step 8 [10,9] (.step 9 [10] (.step 10 [] (.done)))) (.cons 8 (.step 5 [10,9] (.step 9 [10] (.step 10 [] (.done)))) (.nil)))))))))),[5,9]),(6,.step 0 [13,12] (.step 1 [13,12,10] (.step 2 [13,12,10,9] (.step 3 [13,12,10,9,5,4] (.step 4 [13,12,10,9,5] (.step 5 [13,12,10,9] (.step 6 [13,12,10,9,8,7] (.step 7 [13,12,10,9,8] (.step 8 [13,12,10,9] (.step 11 [13,12] (.step 9 [13,12,10] (.step 10 [13,12] (.step 12 [13] (.step 13 [] (.done)))))))))))))),[9,10,12])]
def qaL(h:BX c H d H){X Y}(hX:zd d X)(hY:zd d Y):
 qj prog (XG c) 271 [.ptr c.B 0,.agg (qB X),.agg (qB Y)] ⟨H,T⟩ (NQ c d H fun b=>qeu (qu d b X) (qu d b Y) 16):=by
 refine qFn ⟨false,qnl,[],[]⟩ qg func271 rfl (by kernel_rfl) ?_;have hXl:=hX.1;have hYl:=hY.1;have hk:∀j,H.length+j≠c.B:=fun j=>(h.at (by omega)).1
 simp;refine kl 16 (fun i ev U=>ev 0=.ptr c.B 0/\ev 4=.ptr H.length 0/\ev 5=.ptr (H.length+1) 0/\ev 11=.int .i64 (i:Int) /\
  ∃ d' t,ev 7=.int .i64 (t:Nat)/\BX c H d' U.H/\ze d d'/\t<d'.length/\U.H[H.length]?=some (.cells (qB X))/\U.H[H.length+1]?=some (.cells (qB Y)) /\
   ∀b,evD d' b t=qeu (qu d b X) (qu d b Y) i) ?_ ?_ ?_
 . exact⟨by simp,by simp,by simp,by simp,d,0,by simp,h.app _,qFU d,by have:=h.ok.two;omega,lk0,lk1,fun b=>Yo h.ok b⟩
 . rintro i ev ⟨H1,T1⟩ R hR hi ⟨e0,e4,e5,e11,d1,t,e7,hx,hg,ht,hHX,hHY,hv⟩;obtain⟨x,hx1,hx2,hx3⟩:=hX.getG h.ok hg hi;obtain⟨y,hy1,hy2,hy3⟩:=hY.getG h.ok hg hi;simp only at hx hHX hHY;have hi':(i:Int)<16:=(by omega);have hi1:i+1<=16:=hi;have hdx:=z5 hx1;have hdy:=z5 hy1;have hw:=wr (n:=(i:Int)+1) (by omega) (by omega);simp[*];rw[qU rfl];simp[*,zg];have key:=Q9 c hx.self hx2 (T:=T1);refine⟨qFs key ?_,qFs key ?_⟩
   all_goals
    rintro v ⟨H2,T2⟩ ⟨d2,z,rfl,hxx2,hg2,hz,hv2⟩;dsimp only at hv2;have hx2':=hx.call hxx2;have hX2:=hxx2.loc hHX (hk 0);have hY2:=hxx2.loc hHY (hk 1);dsimp only at hX2 hY2;simp[*,zg];refine qFs (Zb c hx2'.self (f:=z) (g:=y) hz (qBd hy2 hg2.len)) ?_;rintro v ⟨H3,T3⟩ ⟨d3,u,rfl,hxx3,hg3,hu,hv3⟩;dsimp only at hv3;have hx3':=hx2'.call hxx3;have hX3:=hxx3.loc hX2 (hk 0);have hY3:=hxx3.loc hY2 (hk 1);have hg23:=hg2.trans hg3;simp;rw[qU rfl];simp[*,zg];refine qFs (qby c hx3'.self (f:=x) (g:=y) (qBd hx2 hg23.len) (qBd hy2 hg23.len)) ?_;rintro v ⟨H4,T4⟩ ⟨d4,q,rfl,hxx4,hg4,hq,hv4⟩;dsimp only at hv4;have hx4':=hx3'.call hxx4;simp[zg];refine qFs (Q9 c hx4'.self hq) ?_;rintro v ⟨H5,T5⟩ ⟨d5,nq,rfl,hxx5,hg5,hnq,hv5⟩;dsimp only at hv5;have hx5':=hx4'.call hxx5;simp[zg];have hg35:=hg4.trans hg5;have hg15:=hg23.trans hg35;refine qFs (Zb c hx5'.self (f:=nq) (g:=t) hnq (qBd ht hg15.len)) ?_;rintro v ⟨H6,T6⟩ ⟨d6,a6,rfl,hxx6,hg6,ha6,hv6⟩;dsimp only at hv6;have hx6':=hx5'.call hxx6;simp[zg,e0];have hg36:=hg35.trans hg6;refine qFs (qcq c hx6'.self (f:=u) (g:=a6) (qBd hu hg36.len) ha6) ?_;rintro v ⟨H7,T7⟩ ⟨d7,a7,rfl,hxx7,hg7,ha7,hv7⟩;dsimp only at hv7;have hx7':=hx6'.call hxx7;have up:∀{k:Nat} {x:Blk},H3[H.length+k]?=some x->H7[H.length+k]?=some x:=fun {k x} hq=>hxx7.loc (hxx6.loc (hxx5.loc (hxx4.loc hq (hk k)) (hk k)) (hk k)) (hk k)
    simp[*];refine hR _ _ ⟨by simp[e0],by simp[e4],by simp[e5],by simp,d7,a7,by simp,hx7',hg.trans (hg15.trans (hg6.trans hg7)),ha7,up (k:=0) hX3,up hY3,fun b=>?_⟩;rw[hv7,hg36.ev hx3'.ok b hu,hv3,hv2,hg2.ev hx.ok b hy2,hv6,hv5,hv4,hg23.ev hx.ok b hx2,hg23.ev hx.ok b hy2,hg15.ev hx.ok b ht,hv,hx3,hy3];rfl
 rintro ev ⟨H1,T1⟩ ⟨e0,e4,e5,e11,d1,t,e7,hx,hg,ht,hHX,hHY,hv⟩;simp[*];exact⟨d1,t,rfl,hx,hg,ht,hv⟩
def qns:List (Nat×Sch×List Nat):=[(1,.step 0 [6,5] (.step 2 [6,5,4] (.step 3 [6,5,4] (.fork (.cons 1 (.step 4 [6,5] (.step 5 [6] (.step 6 [] (.done)))) (.cons 4 (.step 1 [6,5] (.step 5 [6] (.step 6 [] (.done)))) (.nil)))))),[4,5])]
def Z6(h:BX c H d H){X Y}(hX:zd d X)(hY:zd d Y):
 qj prog (XG c) 197 [.ptr c.B 0,.agg (qB X),.agg (qB Y)] ⟨H,T⟩ (BQ c d H fun b=>qpt (qu d b X) (fun k=>!qu d b Y k) true):=by
 refine qFn ⟨false,qns,[],[]⟩ qg func197 rfl (by kernel_rfl) ?_;have hXl:=hX.1;have hYl:=hY.1;have hk:∀j,H.length+j≠c.B:=fun j=>(h.at (by omega)).1
 simp;rw[qU rfl,jI];have hx1:=h.app [.cells (qB X),.cells (qB Y),.cells (qB zh)];have hHX:(H++[Blk.cells (qB X),.cells (qB Y),.cells (qB zh)])[H.length]?=some (.cells (qB X)):=lk0;have hHY:(H++[Blk.cells (qB X),.cells (qB Y),.cells (qB zh)])[H.length+1]?=some (.cells (qB Y)):=lk1;have hHZ:(H++[Blk.cells (qB X),.cells (qB Y),.cells (qB zh)])[H.length+2]?=some (.cells (qB zh)):=lk2;generalize H++[Blk.cells (qB X),.cells (qB Y),.cells (qB zh)]=H1 at *;simp[*,zg,qs hXl,qs hYl];have key:=Z9 hx1.self hY (T:=T);refine⟨qFs key ?_,qFs key ?_⟩
 all_goals
  rintro v ⟨H2,T2⟩ ⟨d2,W,rfl,hxx2,hg2,hW,hv2⟩;have hx2':=hx1.call hxx2;have hX2:=hxx2.loc hHX (hk 0);have hZ2:=hxx2.loc hHZ (hk 2);simp[*,zg,qs hXl];have ht:=hx2'.ok.two;refine qFs (qfu hx2'.self (hX.grown hg2) hW (cn:=1) (by omega)) ?_;rintro v ⟨H3,T3⟩ ⟨d3,V,rfl,hxx3,hg3,hV,hv3⟩;dsimp only at hv3;have hx3':=hx2'.call hxx3;have hZ3:=hxx3.loc hZ2 (hk 2);dsimp only at hZ3;have hVl:=hV.1;have hl3:=(qAU.1 hZ3).1;simp[*,-getElem?_pos,zg,qs hVl,zr hVl (show(qB zh).length=16 from rfl),qW];refine⟨d3,V,rfl,hx3'.set (by omega) _,hg2.trans hg3,hV,fun b k hk=>?_⟩;rw[hv3 b k hk];unfold qpt;rw[hv2 b k hk,zM h.ok hg2 hX b hk,qeN hx2'.ok];congr 1;exact JM (fun j hj=>zM h.ok hg2 hX b (by omega)) (fun j hj=>hv2 b j (by omega))
end
def UQ(c:Bc)(d:List Nd)(H:List Blk)(v:(Nat->Bool)->Nat)(r:AV)(U':St):Prop :=
 ∃d' W,r=.agg (qB W)/\BX c H d' U'.H/\ze d d'/\zd d' W/\∀b,zt (qu d' b W) 16=v b
def qgF:((List.range 16).map fun k=>if Nat.testBit 0 k=true then 1 else 0)=zh:=by decide
def wO{d d'}(hd:DagOk d)(hg:ze d d'){w}(h:zd d w)(b):zt (qu d' b w) 16=zt (qu d b w) 16:=zw fun k hk=>zM hd hg h b hk
section
variable {c:Bc}{d:List Nd}{H:List Blk}{T:List (Option Nat)}
def qnk:List (Nat×Sch×List Nat):=[(9,.step 0 [12,11] (.step 1 [12,11,10] (.step 2 [12,11,10,6,5,4] (.step 3 [12,11,10,6,5,4] (.step 4 [12,11,10,6,5] (.step 5 [12,11,10,6] (.step 6 [12,11,10] (.step 7 [12,11,10,9,8] (.step 8 [12,11,10,9] (.step 9 [12,11,10] (.step 10 [12,11] (.step 11 [12] (.step 12 [] (.done))))))))))))),[10])]
def qhE(h:BX c H d H){X Y}(hX:zd d X)(hY:zd d Y):
 qj prog (XG c) 274 [.ptr c.B 0,.agg (qB X),.agg (qB Y)] ⟨H,T⟩ (UQ c d H fun b=>qr3 (zt (qu d b X) 16) (qu d b Y) 16 16):=by
 refine qFn ⟨false,qnk,[],[]⟩ qg func274 rfl (by kernel_rfl) ?_;have hXl:=hX.1;have hYl:=hY.1;have hk:∀j,H.length<=j->j≠c.B:=fun j hj=>(h.at hj).1
 have hc0:=yw 0 (by omega);rw[qgF]at hc0;simp at hc0;simp;refine qFp hc0 rfl ?_;simp[jI,zr (w:=zh) rfl (show(qB zh).length=16 from rfl),qW];refine kl 16 (fun i ev U=>ev 0=.ptr c.B 0/\ev 4=.ptr H.length 0/\ev 5=.ptr (H.length+1) 0/\ev 6=.ptr (H.length+2) 0/\ev 7=.ptr (H.length+3) 0/\ev 12=.int .i64 (i:Int) /\
  ∃ d' S,BX c H d' U.H/\ze d d'/\zd d' S/\U.H[H.length]?=some (.cells (qB X))/\U.H[H.length+1]?=some (.cells (qB Y))/\U.H[H.length+2]?=some (.cells (qB zh))/\U.H[H.length+3]?=some (.cells (qB S)) /\
   ∀b,zt (qu d' b S) 16=qr3 (zt (qu d b X) 16) (qu d b Y) 16 i) ?_ ?_ ?_
 . refine⟨by simp,by simp,by simp,by simp,by simp,by simp,d,zh,h.app _,qFU d,wo h.ok,lk0,lk1,lk2,lk3,fun b=>?_⟩
   . rw[kQ fun k _=>kH h.ok b k];rfl
 . rintro i ev ⟨H1,T1⟩ R hR hi ⟨e0,e4,e5,e6,e7,e12,d1,S,hx,hg,hS,hHX,hHY,hHZ,hHS,hv⟩;obtain⟨y,hy1,hy2,hy3⟩:=hY.getG h.ok hg hi;have hi':(i:Int)<16:=(by omega);have hi1:i+1<=16:=hi;have hdy:=z5 hy1;have hw:=wr (n:=(i:Int)+1) (by omega) (by omega);have hHl:=hx.kp.1;simp[*,jI];have hx0:=hx.app [.cells (qB zh)];have aHX:=qf hHX [.cells (qB zh)];have aHY:=qf hHY [.cells (qB zh)];have aHZ:=qf hHZ [.cells (qB zh)];have aHS:=qf hHS [.cells (qB zh)];have aHP:(H1++[Blk.cells (qB zh)])[H1.length]?=some (.cells (qB zh)):=lk0;have hSl:=(qAU.1 hHS).1;generalize H1.length=N at *;generalize H1++[Blk.cells (qB zh)]=H1' at *;refine qFu (fun n ev U=>ev 0=.ptr c.B 0/\ev 4=.ptr H.length 0/\ev 5=.ptr (H.length+1) 0/\ev 6=.ptr (H.length+2) 0/\ev 7=.ptr (H.length+3) 0/\ev 8=.int .i64 (i:Int)/\ev 9=.ptr N 0/\ev 12=.int .i64 (i:Int) /\
    ∃j d' P,n=16-j/\i<=j/\j<=16/\ev 10=.int .i64 (j:Int)/\BX c H d' U.H/\ze d1 d'/\zd d' P/\U.H[H.length]?=some (.cells (qB X))/\U.H[H.length+1]?=some (.cells (qB Y))/\U.H[H.length+2]?=some (.cells (qB zh))/\U.H[H.length+3]?=some (.cells (qB S))/\U.H[N]?=some (.cells (qB P)) /\
    ∀b k,k<16->qu d' b P k=(decide (k<j)&&(qu d b Y i&&(decide (i<=k)&&qu d b X (k-i))))) (16-i) ?_ ?_
   . refine⟨by simp[e0],by simp[e4],by simp[e5],by simp[e6],by simp[e7],by simp,by simp,by simp[e12],i,d1,zh,rfl,qA5 _,by omega,by simp,hx0,qFU d1,wo hx.ok,aHX,aHY,aHZ,aHS,aHP,fun b k hk=>?_⟩;rw[kH hx.ok];by_cases h1:k<i
     . have:¬i<=k:=by omega
       simp[this]
     simp[h1]
   rintro n ev ⟨H2,T2⟩ R2 hR2 ⟨e0,e4,e5,e6,e7,e8,e9,e12,j,d2,P,rfl,hij,hj16,e10,hx2,hg2,hP,bX,bY,bZ,bS,bP,hb⟩;have hPl:=hP.1;have hSl2:=hS.1;have hg02:=hg.trans hg2;by_cases hj:j<16
   . have hj':(j:Int)<16:=(by omega);have hj1:j+1<=16:=hj;have hwj:=wr (n:=(j:Int)+1) (by omega) (by omega);have hwd:=wr (n:=(j:Int)-i) (by omega) (by omega);have hsub:(j:Int)-i=((j-i:Nat):Int):=(by omega);rw[hsub]at hwd;have hjl:j-i<16:=(by omega);have hjl1:j-i+1<=16:=(by omega);have hjl2:((j-i:Nat):Int)<16:=(by omega);obtain⟨x,hx1,hx2',hx3⟩:=hX.getG h.ok hg02 hjl;have hdx:=z5 hx1;have hyl:y<d2.length:=qBd hy2 hg2.len;generalize hm:j-i=m at *;simp[*];rw[qU rfl];simp[*,zg];refine qFs (Zb c hx2.self hx2' hyl) ?_;rintro v ⟨H3,T3⟩ ⟨d3,z,rfl,hxx3,hg3,hz,hv3⟩;dsimp only at hv3;have hx3':=hx2.call hxx3;have up:∀{k:Nat} {x:Blk},H.length<=k->H2[k]?=some x->H3[k]?=some x:=fun {k x} hl hq=>hxx3.loc hq (hk k hl)
     have cP:=up (by omega) bP;have hPl3:=(qAU.1 cP).1;simp[zg,e9,e10,hj',hj1,cP,hPl,kF,hwj];refine hR2 (16-(j+1)) _ _ (by omega) ⟨by simp[e0],by simp[e4],by simp[e5],by simp[e6],by simp[e7],by simp[e8],by simp[e9],by simp[e12],j+1,d3,P.set j z,rfl,by omega,by omega,by simp,hx3'.set (by omega) _,hg2.trans hg3,(hP.grown hg3).set hz,?_,?_,?_,?_,qA0 hPl3,fun b k hk=>?_⟩
     . rw[qAX (by omega)];exact up (by omega) bX
     . rw[qAX (by omega)];exact up (by omega) bY
     . rw[qAX (by omega)];exact up (by omega) bZ
     . rw[qAX (by omega)];exact up (by omega) bS
     rw[w6 (by omega)];by_cases hkj:k=j
     . subst hkj;rw[if_pos rfl,hv3,hx3,hg2.ev hx.ok b hy2,hy3,hm];simp[hij,Bool.and_comm]
     rw[if_neg hkj,zM hx2.ok hg3 hP b hk,hb b k hk];by_cases h1:k<j
     . have h2:k<j+1:=(by omega);simp[*]
     have h2:¬k<j+1:=(by omega);simp[*]
   have hj0:j=16:=(by omega);subst hj0;simp[*,qs hSl2,qs hPl];have ht:=hx2.ok.two;have hSS:=hS.grown hg2;refine qFs (qfu hx2.self hSS hP (cn:=0) (by omega)) ?_;rintro v ⟨H3,T3⟩ ⟨d3,V,rfl,hxx3,hg3,hV,hv3⟩;dsimp only at hv3;have hx3':=hx2.call hxx3;have up:∀{k:Nat} {x:Blk},H.length<=k->H2[k]?=some x->H3[k]?=some x:=fun {k x} hl hq=>hxx3.loc hq (hk k hl)
   have cS:=up (by omega) bS;have hSl3:=(qAU.1 cS).1;have hVl:=hV.1;simp[e7,e12,cS,hVl,hSl2,zr hVl (show(qB S).length=16 by rw[jG,hSl2]),hw];refine hR _ _ ⟨by simp[e0],by simp[e4],by simp[e5],by simp[e6],by simp[e7],by simp,d3,V,hx3'.set (by omega) _,hg02.trans hg3,hV,?_,?_,?_,qA0 hSl3,fun b=>?_⟩
   . rw[qAX (by omega)];exact up (by omega) bX
   . rw[qAX (by omega)];exact up (by omega) bY
   . rw[qAX (by omega)];exact up (by omega) bZ
   have hs:zt (qu d3 b V) 16=zt (fun k=>(qu d2 b S k ^^ qu d2 b P k) ^^ qbw (qu d2 b S) (qu d2 b P) false k) 16:=zw fun k hk=>by rw[hv3 b k hk,Yo hx2.ok];rfl
   have hp:zt (qu d2 b P) 16=cond (qu d b Y i) ((zt (qu d b X) 16*2^i)%2^16) 0:=by
    cases hy:qu d b Y i with
    | true=>
     rw[cond_true,<- qja];exact zw fun k hk=>by rw[hb b k hk,hy];simp[hk]
    | false=>
     rw[cond_false];exact kQ fun k hk=>by rw[hb b k hk,hy];simp
   rw[hs,wu,hp,wO hx.ok hg2 hS b,hv b];simp[qr3,b2n]
 rintro ev ⟨H1,T1⟩ ⟨e0,e4,e5,e6,e7,e12,d1,S,hx,hg,hS,hHX,hHY,hHZ,hHS,hv⟩;have hSl:=hS.1;have hHl:=(qAU.1 hHZ).1;simp[*,-getElem?_pos,qs hSl,zr hSl (show(qB zh).length=16 from rfl),qW];exact⟨d1,S,rfl,hx.set (by omega) _,hg,hS,hv⟩
end
section
variable {c:Bc}{d:List Nd}{H:List Blk}{T:List (Option Nat)}
def qnp:List (Nat×Sch×List Nat):=[(4,.step 0 [10,9] (.step 1 [10,9,8] (.step 2 [10,9,8,4,3] (.step 3 [10,9,8,4] (.step 4 [10,9,8] (.step 5 [10,9,8,7,6] (.step 6 [10,9,8,7] (.step 7 [10,9,8] (.step 8 [10,9] (.step 9 [10] (.step 10 [] (.done))))))))))),[8])]
def YC(h:BX c H d H){X Y:List Nat}(hX:zd d X)(hY:zd d Y){g:Nat}{first cap:List AV}{F:(Nat->Bool)->Bool->Bool->Bool}
 (hF:∀d1 H1 T1 (x y:Nat),BX c H d1 H1->ze d d1->x<d1.length->y<d1.length->qj prog (XG c) g (ke first [.int .i64 x,.int .i64 y] cap) ⟨H1,T1⟩ (NQ c d1 H1 fun b=>F b (evD d1 b x) (evD d1 b y))):
 qj prog (XG c) 200 [.agg (qB X),.agg (qB Y),.fn g first cap] ⟨H,T⟩ (BQ c d H fun b k=>F b (qu d b X k) (qu d b Y k)):=by
 refine qFn ⟨false,qnp,[],[]⟩ qg func200 rfl (by kernel_rfl) ?_;have hYl:=hY.1;have hk:∀j,H.length<=j->j≠c.B:=fun j hj=>(h.at hj).1
 simp[jI];refine kl 16 (fun i ev U=>ev 2=.fn g first cap/\ev 3=.ptr H.length 0/\ev 4=.ptr (H.length+1) 0/\ev 6=.ptr (H.length+2) 0/\ev 8=.int .i64 (i:Int) /\
  ∃ d' W,BX c H d' U.H/\ze d d'/\zd d' W/\U.H[H.length]?=some (.cells (qB W))/\U.H[H.length+1]?=some (.cells (qB Y))/\U.H[H.length+2]?=some (.cells (qB zh)) /\
   ∀b k,k<16->qu d' b W k=if k<i then F b (qu d b X k) (qu d b Y k) else qu d b X k) ?_ ?_ ?_
 . exact⟨by simp,by simp,by simp,by simp,by simp,d,X,h.app _,qFU d,hX,lk0,lk1,lk2,fun b k hk=>by simp⟩
 . rintro i ev ⟨H1,T1⟩ R hR hi ⟨e2,e3,e4,e6,e8,d1,W,hx,hg,hW,hHX,hHY,hHZ,hb⟩;obtain⟨x,hx1,hx2,_,hx3⟩:=hW.get hi;obtain⟨y,hy1,hy2,hy3⟩:=hY.getG h.ok hg hi;have hWl:=hW.1;have hi':(i:Int)<16:=(by omega);have hi1:i+1<=16:=hi;have hdx:=z5 hx1;have hdy:=z5 hy1;have hw:=wr (n:=(i:Int)+1) (by omega) (by omega);simp[*];rw[qU rfl];simp[*,-ke,zg];refine qFs (hF d1 H1 T1 x y hx hg hx2 hy2) ?_;rintro v ⟨H2,T2⟩ ⟨d2,z,rfl,hxx2,hg2,hz,hv2⟩;dsimp only at hv2;have hx2':=hx.call hxx2;have up:∀{k:Nat} {x:Blk},H.length<=k->H1[k]?=some x->H2[k]?=some x:=fun {k x} hl hq=>hxx2.loc hq (hk k hl)
   have cX:=up (by omega) hHX;have hl2:=(qAU.1 cX).1;simp[zg,e3,e8,hi',hi1,cX,hWl,kF,hw];refine hR _ _ ⟨by simp[e2],by simp[e3],by simp[e4],by simp[e6],by simp,d2,W.set i z,hx2'.set (by omega) _,hg.trans hg2,(hW.grown hg2).set hz,qA0 hl2,?_,?_,fun b k hk=>?_⟩
   . rw[qAX (by omega)];exact up (by omega) hHY
   . rw[qAX (by omega)];exact up (by omega) hHZ
   rw[w6 (by omega)];by_cases hki:k=i
   . subst hki;have hbk:=hb b k hk;rw[if_neg (by omega)]at hbk;rw[if_pos rfl,if_pos (by omega),hv2,hy3,<- hx3,hbk]
   rw[if_neg hki,zM hx.ok hg2 hW b hk,hb b k hk];by_cases h1:k<i
   . rw[if_pos h1,if_pos (by omega)]
   rw[if_neg h1,if_neg (by omega)]
 rintro ev ⟨H1,T1⟩ ⟨e2,e3,e4,e6,e8,d1,W,hx,hg,hW,hHX,hHY,hHZ,hb⟩;have hWl:=hW.1;have hHl:=(qAU.1 hHZ).1;simp[*,-getElem?_pos,qs hWl,zr hWl (show(qB zh).length=16 from rfl),qW];exact⟨d1,W,rfl,hx.set (by omega) _,hg,hW,fun b k hk=>by rw[hb b k hk,if_pos hk]⟩
def qnr:List (Nat×Sch×List Nat):=[(5,.step 0 [5,4] (.step 1 [5,4] (.step 2 [5,4,3] (.step 3 [5,4] (.step 4 [5] (.step 5 [] (.done)))))),[4])]
def qcr{d}(h:DagOk d){n}(hn:n<d.length):zd d (n::List.replicate 15 0):=⟨rfl,fun i hi=>by
 rcases qBt.1 hi with rfl|hi
 . exact hn
 rw[qCL]at hi;rw[hi.2];have:=h.two;omega⟩
def qf2{d}(h:DagOk d)(b n k):qu d b (n::List.replicate 15 0) k=(decide (k=0)&&evD d b n):=by
 unfold qu
 cases k with
 |zero=>simp
 | succ k=>
  have:(n::List.replicate 15 0).getD (k+1) 0=0:=by
   simp only[qA8,qDx,qDy];split<;>rfl
  rw[this,Yo h];simp
def qrN(h:BX c H d H){X}(hX:zd d X):
 qj prog (XG c) 198 [.ptr c.B 0,.agg (qB X)] ⟨H,T⟩ (UQ c d H fun b=>qay (qu d b X) 16):=by
 refine qFn ⟨false,qnr,[],[]⟩ qg func198 rfl (by kernel_rfl) ?_;have hXl:=hX.1;have hk:∀j,H.length<=j->j≠c.B:=fun j hj=>(h.at hj).1
 have hc0:=yw 0 (by omega);rw[qgF]at hc0;simp at hc0;simp;refine qFp hc0 rfl ?_;simp[hXl,qs hXl,jI,zr (w:=zh) rfl (show(qB zh).length=16 from rfl),qW];refine kl 16 (fun i ev U=>ev 0=.ptr c.B 0/\ev 4=.ptr (H.length+1) 0/\ev 5=.ptr (H.length+2) 0/\ev 9=.agg (qB X)/\ev 10=.int .i64 (i:Int) /\
  ∃ d' S,BX c H d' U.H/\ze d d'/\zd d' S/\U.H[H.length+1]?=some (.cells (qB zh))/\U.H[H.length+2]?=some (.cells (qB S)) /\
   ∀b,zt (qu d' b S) 16=qay (qu d b X) i) ?_ ?_ ?_
 . exact⟨by simp,by simp,by simp,by simp,by simp,d,zh,h.app _,qFU d,wo h.ok,lk1,lk2,fun b=>by rw[kQ fun k _=>kH h.ok b k];rfl⟩
 . rintro i ev ⟨H1,T1⟩ R hR hi ⟨e0,e4,e5,e9,e10,d1,S,hx,hg,hS,hHZ,hHS,hv⟩;obtain⟨x,hx1,hx2,hx3⟩:=hX.getG h.ok hg hi;have hSl:=hS.1;have hi1:i+1<=16:=hi;have hdx:=z5 hx1;have hw:=wr (n:=(i:Int)+1) (by omega) (by omega);simp[*,show(i:Int)<16 by omega];rw[qU rfl];simp[*,zg,qs hSl];refine qFp (jo x) rfl ?_;simp[zg,e10];have h1:=qcr hx.ok hx2;have hs:=qfu hx.self hS h1 (cn:=0) (T:=T1) (by omega);simp at hs;refine qFs hs ?_;rintro v ⟨H2,T2⟩ ⟨d2,V,rfl,hxx2,hg2,hV,hv2⟩;dsimp only at hv2;have hx2':=hx.call hxx2;have up:∀{k:Nat} {x:Blk},H.length<=k->H1[k]?=some x->H2[k]?=some x:=fun {k x} hl hq=>hxx2.loc hq (hk k hl)
   have cS:=up (by omega) hHS;have hl2:=(qAU.1 cS).1;have hVl:=hV.1;simp[zg,e5,e10,cS,hVl,hSl,zr hVl (show(qB S).length=16 by rw[jG,hSl]),hw];refine hR _ _ ⟨by simp[e0],by simp[e4],by simp[e5],by simp[e9],by simp,d2,V,hx2'.set (by omega) _,hg.trans hg2,hV,?_,qA0 hl2,fun b=>?_⟩
   . rw[qAX (by omega)];exact up (by omega) hHZ
   have e1:zt (qu d2 b V) 16=zt (fun k=>(qu d1 b S k ^^ (decide (k=0)&&evD d1 b x)) ^^ qbw (qu d1 b S) (fun k=>decide (k=0)&&evD d1 b x) false k) 16:=zw fun k hk=>by
    rw[hv2 b k hk,Yo hx.ok];have:=qf2 hx.ok b x;simp at this;unfold qpt;rw[this k,JM (x':=qu d1 b S) (y':=fun k=>decide (k=0)&&evD d1 b x) (fun j _=>rfl) (fun j _=>this j)]
   rw[e1,wu,qag _ 15,hv b,hx3];have:=qfZ (qu d b X) i;have h2:b2n (qu d b X i)<=1:=(by cases qu d b X i<;>simp[b2n]);show(qay _ i+b2n _+0)%2^16=qay _ i+b2n _;rw[qCy];exact qDe (by omega)
 rintro ev ⟨H1,T1⟩ ⟨e0,e4,e5,e9,e10,d1,S,hx,hg,hS,hHZ,hHS,hv⟩;have hSl:=hS.1;have hHl:=(qAU.1 hHZ).1;simp[*,-getElem?_pos,qs hSl,zr hSl (show(qB zh).length=16 from rfl),qW];exact⟨d1,S,rfl,hx.set (by omega) _,hg,hS,hv⟩
end
