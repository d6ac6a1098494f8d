import Derived.Test.YtafbccendejkeaaGreatDoorPt20
import Derived.Tactics
import Derived.Tactics2
import Derived.WalkKit
import Derived.WalkSmall
import Derived.RowKit3
set_option maxRecDepth 100000
set_option maxHeartbeats 16000000
set_option linter.all false
set_option linter.defProp false
namespace Go.Abs
def zr(f:Nat->Bool):Nat->Nat
 |0=>0
 |n+1=>zr f n+cond (f n) (2^n) 0
def kK(f):∀n,zr f n<2^n
 |0=>by simp[zr]
 | n+1=>by
  have:=kK f n;simp only[zr,Nat.pow_succ];cases f n<;>simp<;>omega
def qX(f):∀(n k),(zr f n).testBit k=(decide (k<n)&&f k)
 |0,k=>by simp[zr]
 | n+1,k=>by
  have h:=kK f n;have ih:=qX f n;simp only[zr];by_cases hk:k=n
  . subst hk
    cases hf:f k with
    | true=>
     simp only[cond_true];rw[Nat.add_comm,Nat.testBit_two_pow_add_eq,Nat.testBit_lt_two_pow h];simp
    |false=>simp;rw[ih k];simp[hf]
  by_cases hl:k<n
  . cases hf:f n with
    | true=>
     simp only[cond_true];rw[Nat.add_comm,Nat.testBit_two_pow_add_gt hl,ih k];simp[hl,Nat.lt_succ_of_lt hl]
    |false=>simp[ih k,hl];intro;omega
  have hge:n+1<=k:=by omega
  have hb:zr f n+cond (f n) (2^n) 0<2^k:=by
   have:2^(n+1)<=2^k:=Nat.pow_le_pow_right (by omega) hge;rw[Nat.pow_succ]at this;cases f n<;>simp<;>omega
  rw[Nat.testBit_lt_two_pow hb];simp;omega
def zt{f g}:∀{n:Nat},(∀k,k<n->f k=g k)->zr f n=zr g n
 |0,_=>rfl
 |n+1,h=>by simp only[zr];rw[zt fun k hk=>h k (by omega),h n (by omega)]
def JP(m n):zr (fun k=>m.testBit k) n=m%2^n:=by
 apply Nat.eq_of_testBit_eq;intro k;rw[qX,Nat.testBit_mod_two_pow]
def kJ{f}:∀{n:Nat},(∀k,k<n->f k=false)->zr f n=0
 |0,_=>rfl
 |n+1,h=>by simp only[zr];rw[kJ fun k hk=>h k (by omega),h n (by omega)];simp
def qbr(x y:Nat->Bool)(c:Bool):Nat->Bool
 |0=>c
 |k+1=>(x k&&y k)||((x k ^^ y k)&&qbr x y c k)
def b2n(b:Bool):Nat:=cond b 1 0
def qbO(x y c):∀n,zr (fun k=>(x k ^^ y k) ^^ qbr x y c k) n+2^n*b2n (qbr x y c n)=zr x n+zr y n+b2n c
 |0=>by simp[zr,qbr]
 | n+1=>by
  have ih:=qbO x y c n;simp only[zr,qbr,Nat.pow_succ];generalize zr (fun k=>(x k ^^ y k) ^^ qbr x y c k) n=s at *;generalize qbr x y c n=q at *;generalize 2^n=p at *;cases hx:x n<;>cases hy:y n<;>cases q<;>simp[b2n]at ih⊢<;>omega
def wk(x y c n):zr (fun k=>(x k ^^ y k) ^^ qbr x y c k) n=(zr x n+zr y n+b2n c)%2^n:=by
 have h:=qbO x y c n;have h1:=kK (fun k=>(x k ^^ y k) ^^ qbr x y c k) n;rw[<- h,Nat.add_mul_mod_self_left,Nat.mod_eq_of_lt h1]
def qab(x):∀n,zr (fun k=>!x k) n=2^n-1-zr x n
 |0=>rfl
 | n+1=>by
  have:=kK x n;have:=qab x n;simp only[zr,Nat.pow_succ];cases x n<;>simp<;>omega
def qer(x y:Nat->Bool):Nat->Bool
 |0=>false
 |k+1=>(!x k&&y k)||(!(x k ^^ y k)&&qer x y k)
def QC(x y):∀n,qer x y n=decide (zr x n<zr y n)
 |0=>by simp[qer,zr]
 | n+1=>by
  have ih:=QC x y n;have h1:=kK x n;have h2:=kK y n;simp only[qer,zr,ih];rcases Bool.eq_false_or_eq_true (x n) with hx|hx<;>rcases Bool.eq_false_or_eq_true (y n) with hy|hy<;>simp[hx,hy]<;>omega
def eqT(x y:Nat->Bool):Nat->Bool
 |0=>true
 |k+1=>eqT x y k&&!(x k ^^ y k)
def qaW(x y):∀n,eqT x y n=decide (zr x n=zr y n)
 |0=>by simp[eqT,zr]
 | n+1=>by
  have ih:=qaW x y n;have h1:=kK x n;have h2:=kK y n;simp only[eqT,zr,ih];rcases Bool.eq_false_or_eq_true (x n) with hx|hx<;>rcases Bool.eq_false_or_eq_true (y n) with hy|hy<;>simp[hx,hy]<;>omega
def Jc(x:Nat->Bool):Nat->Bool
 |0=>false
 |k+1=>Jc x k||x k
def Jb(x):∀n,Jc x n=decide (zr x n≠0)
 |0=>by simp[Jc,zr]
 | n+1=>by
  have ih:=Jb x n;have:0<2^n:=Nat.pow_pos (by omega);simp only[Jc,zr,ih];rcases Bool.eq_false_or_eq_true (x n) with hx|hx<;>simp[hx]<;>omega
def qiV(x k n):zr (fun i=>decide (k<=i)&&x (i-k)) n=(zr x n*2^k)%2^n:=by
 apply Nat.eq_of_testBit_eq;intro i;rw[qX,Nat.testBit_mod_two_pow,Nat.testBit_mul_two_pow,qX];by_cases h1:i<n<;>by_cases h2:k<=i<;>simp[h1,h2];intro;omega
def qiW(x k n):zr (fun i=>decide (i+k<n)&&x (i+k)) n=zr x n/2^k:=by
 apply Nat.eq_of_testBit_eq;intro i;rw[qX,Nat.testBit_div_two_pow,qX];by_cases h1:i<n<;>by_cases h2:i+k<n<;>simp[h1,h2]
 . omega
def qrK(a:Nat)(y:Nat->Bool)(n:Nat):Nat->Nat
 |0=>0
 |k+1=>(qrK a y n k+cond (y k) ((a*2^k)%2^n) 0)%2^n
def qcu(a y n):∀k,qrK a y n k=(a*zr y k)%2^n
 |0=>by simp[qrK,zr]
 | k+1=>by
  simp only[qrK,zr,qcu a y n k,Nat.mul_add]
  cases y k with
  |true=>simp[Nat.add_mod]
  |false=>simp
def qav(x:Nat->Bool):Nat->Nat
 |0=>0
 |k+1=>qav x k+b2n (x k)
def qfV(x):∀n,qav x n<=n
 |0=>Nat.le_refl _
 |n+1=>by have:=qfV x n;simp only[qav,b2n];cases x n<;>simp<;>omega
def qmo(x y n):zr (fun k=>x k&&y k) n=zr x n &&& zr y n:=by
 apply Nat.eq_of_testBit_eq;intro i;rw[Nat.testBit_and,qX,qX,qX];cases decide (i<n)<;>simp
def qqC(x y n):zr (fun k=>x k||y k) n=zr x n ||| zr y n:=by
 apply Nat.eq_of_testBit_eq;intro i;rw[Nat.testBit_or,qX,qX,qX];cases decide (i<n)<;>simp
def qmn(x y n):zr (fun k=>x k ^^ y k) n=zr x n ^^^ zr y n:=by
 apply Nat.eq_of_testBit_eq;intro i;rw[Nat.testBit_xor,qX,qX,qX];cases decide (i<n)<;>simp
def qaa(t):∀n,zr (fun k=>decide (k=0)&&t) (n+1)=b2n t
 |0=>by cases t<;>rfl
 | n+1=>by
  have:=qaa t n;rw[zr,this];simp
end Go.Abs
namespace Go.Proofs.YtafbccendejkeaaGreatDoor
open Go Go.Abs Go.RowKit Tryz
def qco(f):zr f 16<65536:=kK f 16
def Vv(f):∀k,k<=16->yJ (zr f 16) k=qav f k
 |0,_=>rfl
 | k+1,h=>by
  simp only[yJ,qav,Vv f k (by omega),qX,b2n];have:decide (k<16)=true:=by simp;omega
  rw[this,qBC];cases f k<;>rfl
def vQ(f):Jc f 16 = !decide ((zr f 16:Int)=0):=by
 rw[Jb];simp
def qjT(t):(zr (fun k=>decide (k=0)&&t) 16:Int)=b2i t:=by
 rw[qaa t 15];cases t<;>rfl
section
variable {x y z:Nat->Bool}
def qxf:(zr (fun k=>(x k ^^ y k) ^^ qbr x y false k) 16:Int)=qv (zr x 16+zr y 16):=by
 rw[wk];unfold qv b2n;simp
def qtG:(zr (fun k=>(x k ^^ !y k) ^^ qbr x (fun k=>!y k) true k) 16:Int)=qv (zr x 16-zr y 16):=by
 rw[wk,qab];have:=qco x;have:=qco y;unfold qv b2n;simp;omega
def qxe:(zr (fun k=>!x k) 16:Int)=65535-qv (zr x 16):=by
 rw[qab];have:=qco x;unfold qv;omega
def qxd:((zr x 16*zr y 16%2^16:Nat):Int)=qv (zr x 16*zr y 16):=by unfold qv;simp
def qxc(n):((zr x 16*2^n%2^16:Nat):Int)=qv (zr x 16*2^n):=by unfold qv;simp
def qxb(n):((zr x 16/2^n:Nat):Int)=qv (zr x 16)/2^n:=by
 have:=qco x;have e:qv (zr x 16)=zr x 16:=Qu (by omega) (by omega);rw[e];simp
end
def qq(d:List Nd)(b:Nat->Bool)(w:List Nat)(k:Nat):Bool:=evD d b (w.getD k 0)
def z5(d:List Nd)(b:Nat->Bool)(w:List Nat):Int:=(zr (qq d b w) 16:Nat)
def q9(d:List Nd)(w:List Nat):Prop:=w.length=16/\∀i∈w,i<d.length
def q9.at{d w}(h:q9 d w){k}(hk:k<16):w.getD k 0<d.length:=by
 have hl:k<w.length:=by rw[h.1];exact hk
 rw[qAx,qAo hl];exact h.2 _ (qCN hl)
def q9.grown{d d' w}(h:q9 d w)(hg:za d d'):q9 d' w:=⟨h.1,fun i hi=>qAF (h.2 i hi) hg.len⟩
def zJ{d d'}(hd:DagOk d)(hg:za d d'){w}(h:q9 d w)(b){k}(hk:k<16):qq d' b w k=qq d b w k:=hg.ev hd b (h.at hk)
def qhI{d d'}(hd:DagOk d)(hg:za d d'){w}(h:q9 d w)(b):z5 d' b w=z5 d b w:=by
 unfold z5;rw[zt fun k hk=>zJ hd hg h b hk]
def qhH(d b w):0<=z5 d b w/\z5 d b w<=65535:=by
 unfold z5;have:=qco (qq d b w);omega
def kf{P G o env U ks Q}(n)(J:Nat->Env->St->Prop){c}(h0:J 0 env U)
 (hs:∀i env U (R:Env->St->Prop),(∀env U,J (i+1) env U->R env U)->i<n->J i env U->kC P G o c env U (.loop R::ks) Q)
 (he:∀env U,J n env U->kC P G o c env U (.loop (fun _ _=>False)::ks) Q) (hp:yc c=true:=by rfl):qL P G o c env U ks Q :=
 qL.count n J h0 (fun i env U h1 hJ=>hs i env U _ (fun _ _ h=>h) h1 hJ) he hp
structure Bc where
 B:Nat
 M:Nat
 rest:List AV
 mp:Blk
 H0:List Blk
abbrev XG(c:Bc):Glo:=⟨GG,fun cs τ=>cs=[{ v:=.iface 237 (.agg #[.int .i64 2]),recovered:=false }]/\KpL [c.B] c.H0 τ.H⟩
structure BX(c:Bc)(E:List Blk)(d:List Nd)(H:List Blk):Prop where
 b:∃tok,H[c.B]?=some (.cells (.sl 3 (d.map qH) tok::c.rest))
 m:H[c.M]?=some c.mp
 ok:DagOk d
 kp0:KpL [c.B] c.H0 H
 kp:KpL [c.B] E H
 ne:c.M≠c.B
 b0:c.B<E.length
 m0:c.M<E.length
 h0:c.H0.length<=E.length
section
variable {c:Bc}{E H H':List Blk}{d d':List Nd}{U U':St}{T T':List (Option Nat)}
def BX.app(h:BX c E d H)(u):BX c E d (H++u):=by
 obtain⟨tok,hb⟩:=h.b;exact⟨⟨tok,qd hb _⟩,qd h.m _,h.ok,h.kp0.trans qFh,h.kp.trans qFh,h.ne,h.b0,h.m0,h.h0⟩
def BX.set(h:BX c E d H){k}(hk:E.length<=k)(y):BX c E d (H.set k y):=by
 obtain⟨tok,hb⟩:=h.b;have:=h.b0;have:=h.m0;have:=h.h0;exact⟨⟨tok,by rw[qAp (by omega)];exact hb⟩,by rw[qAp (by omega)];exact h.m,h.ok,h.kp0.setF (by omega),h.kp.setF hk,h.ne,h.b0,h.m0,h.h0⟩
def BX.self(h:BX c E d H):BX c H d H:=⟨h.b,h.m,h.ok,h.kp0,qFf,h.ne,qAF h.b0 h.kp.1,qAF h.m0 h.kp.1,qBf h.h0 h.kp.1⟩
def BX.same(h:BX c E d H)(hk:KpL [] H H'):BX c E d H':=by
 obtain⟨tok,hb⟩:=h.b;exact⟨⟨tok,hk.2 _ _ hb (by simp)⟩,hk.2 _ _ h.m (by simp),h.ok,h.kp0.trans (hk.sub (by simp)),h.kp.trans (hk.sub (by simp)),h.ne,h.b0,h.m0,h.h0⟩
def BX.call(h:BX c E d H)(h':BX c H d' H'):BX c E d' H':=⟨h'.b,h'.m,h'.ok,h'.kp0,h.kp.trans h'.kp,h.ne,h.b0,h.m0,h.h0⟩
def BX.at(h:BX c E d H){k}(hk:E.length<=k):k≠c.B/\k≠c.M:=by have:=h.b0;have:=h.m0;omega
def BX.loc(h:BX c H d H'){k x}(hx:H[k]?=some x)(hk:k≠c.B):H'[k]?=some x:=h.kp.2 _ _ hx (by simpa using hk)
end
def wR(c){H T Q}(hk:KpL [c.B] c.H0 H)(b n) :
 qg prog (XG c) 263 [.ptr b 0,.agg [.sl 0 [] .nil],.int .i64 n,.int .i64 2] ⟨H,T⟩ Q:=by
 refine⟨by kernel_rfl,fun w0 ro0 K w vs hw hvs=>?_⟩;simp only[qj,qi]at hvs;obtain⟨v1,r1,e1,⟨B,hB,rfl⟩,v2,r2,rfl,⟨cs,rfl,v3,r3,e3,hsl,rfl⟩,v4,r4,rfl,rfl,v5,r5,rfl,rfl,rfl⟩:=hvs;have hv3:qi K (.sl 0 [] .nil) v3:=by simp only[qi];exact hsl
 clear hsl;have evs:vs = #[.pointer (some ⟨B,0,none⟩),.agg cs,.int .i64 n,.int .i64 2]:=by apply Array.ext';simpa using e1
 have ecs:cs = #[v3]:=by apply Array.ext';simpa using e3
 subst evs ecs
 go_enter func263,Tryz.ntmps263
 go_wp2
 simp only[bodyPost];have hw3:=hw.push (b:=.cells [.sl 0 [] .nil]) (o:=.cells #[v3] 64) ⟨#[v3],64,rfl,by simp,by simp,fun i a e=>by
  cases i with
  |zero=>simp at e;subst e;exact⟨_,rfl,hv3.mono (qEW hw w.heap.size (j5 (.cells #[v3] 64)))⟩
  |succ i=>simp at e⟩
 refine⟨trivial,.inr ⟨_,rfl,_,_,qEW hw w.heap.size (j5 (.cells #[v3] 64)),hw3,rfl,?_⟩⟩;exact hk.trans qFh
def Jq(c:Bc){E H:List Blk}{T:List (Option Nat)}{d d':List Nd}(h:BX c E d H)(hd:DagOk d')(i:Nat)(tok:Tok) :
 qg prog (XG c) 263 [.ptr c.B 0,.agg [.sl 3 (d'.map qH) tok],.int .i64 i,.int .i64 0] ⟨H,T⟩ (fun r U'=>r=.int .i64 i/\BX c E d' U'.H):=by
 refine qEI qe func263 rfl (by kernel_rfl) ?_;obtain⟨t0,hb⟩:=h.b;have hbl:=(qAm.1 hb).1;simp[qd hb,ku hb];have:=h.b0;have:=h.h0;have:=h.ne;exact⟨⟨tok,qd (qAt hbl) _⟩,qd (by rw[qAp (Ne.symm h.ne)];exact h.m) _,hd,(h.kp0.trans (qFi (by simp))).trans qFh,(h.kp.trans (qFi (by simp))).trans qFh,h.ne,h.b0,h.m0,h.h0⟩
def NQ(c:Bc)(d:List Nd)(H:List Blk)(v:(Nat->Bool)->Bool)(r:AV)(U':St):Prop :=
 ∃d' i,r=.int .i64 (i:Nat)/\BX c H d' U'.H/\za d d'/\i<d'.length/\∀b,evD d' b i=v b
def Q4(c){d H T}(h:BX c H d H){f}(hf:f<d.length) :
 qg prog (XG c) 195 [.ptr c.B 0,.int .i64 f] ⟨H,T⟩ (NQ c d H fun b=>!evD d b f):=by
 refine qEI qe func195 rfl (by kernel_rfl) ?_;obtain⟨t0,hb⟩:=h.b;simp[hb];refine qEM ((quw d h.ok f hf _ _).leq (args:=[.agg [.sl 3 (d.map qH) t0],.int .i64 f]) (by simp[zn,Leq,qES])).glo ?_;rintro v ⟨H2,T2⟩ ⟨hk,rfl|⟨d2,i2,t2,rfl,g2,hd2,hi2,hm2,hs2⟩⟩
 . simp;exact qEM (wR c (Q:=fun _ _=>False) (h.same hk).kp0 _ _) fun _ _ h=>h.elim
 simp;refine qEM (Jq c (h.same hk) hd2 i2 _) ?_;rintro v ⟨H3,T3⟩ ⟨rfl,hx⟩;simp;exact⟨d2,i2,rfl,hx,g2,hi2,fun b=>by rw[hs2 b];rfl⟩
def Q6(c){d H T}(h:BX c H d H){f g}(hf:f<d.length)(hg:g<d.length) :
 qg prog (XG c) 269 [.ptr c.B 0,.int .i64 f,.int .i64 g] ⟨H,T⟩ (NQ c d H fun b=>evD d b f&&evD d b g):=by
 refine qEI qe func269 rfl (by kernel_rfl) ?_;obtain⟨t0,hb⟩:=h.b;simp[hb];refine qEM ((qp6 d h.ok f g hf hg _ _).leq (args:=[.agg [.sl 3 (d.map qH) t0],.int .i64 f,.int .i64 g]) (by simp[zn,Leq,qES])).glo ?_;rintro v ⟨H2,T2⟩ ⟨hk,rfl|⟨d2,i2,t2,rfl,g2,hd2,hi2,hm2,hs2⟩⟩
 . simp;exact qEM (wR c (Q:=fun _ _=>False) (h.same hk).kp0 _ _) fun _ _ h=>h.elim
 simp;refine qEM (Jq c (h.same hk) hd2 i2 _) ?_;rintro v ⟨H3,T3⟩ ⟨rfl,hx⟩;simp;exact⟨d2,i2,rfl,hx,g2,hi2,fun b=>by rw[hs2 b];rfl⟩
def qcl(c){d H T}(h:BX c H d H){f g}(hf:f<d.length)(hg:g<d.length) :
 qg prog (XG c) 191 [.ptr c.B 0,.int .i64 f,.int .i64 g] ⟨H,T⟩ (NQ c d H fun b=>evD d b f||evD d b g):=by
 refine qEI qe func191 rfl (by kernel_rfl) ?_;obtain⟨t0,hb⟩:=h.b;simp[hb];refine qEM ((qxL d h.ok f g hf hg _ _).leq (args:=[.agg [.sl 3 (d.map qH) t0],.int .i64 f,.int .i64 g]) (by simp[zn,Leq,qES])).glo ?_;rintro v ⟨H2,T2⟩ ⟨hk,rfl|⟨d2,i2,t2,rfl,g2,hd2,hi2,hm2,hs2⟩⟩
 . simp;exact qEM (wR c (Q:=fun _ _=>False) (h.same hk).kp0 _ _) fun _ _ h=>h.elim
 simp;refine qEM (Jq c (h.same hk) hd2 i2 _) ?_;rintro v ⟨H3,T3⟩ ⟨rfl,hx⟩;simp;exact⟨d2,i2,rfl,hx,g2,hi2,fun b=>by rw[hs2 b];rfl⟩
def qbt(c){d H T}(h:BX c H d H){f g}(hf:f<d.length)(hg:g<d.length) :
 qg prog (XG c) 272 [.ptr c.B 0,.int .i64 f,.int .i64 g] ⟨H,T⟩ (NQ c d H fun b=>evD d b f ^^ evD d b g):=by
 refine qEI qe func272 rfl (by kernel_rfl) ?_;obtain⟨t0,hb⟩:=h.b;simp[hb];refine qEM ((qtD d h.ok f g hf hg _ _).leq (args:=[.agg [.sl 3 (d.map qH) t0],.int .i64 f,.int .i64 g]) (by simp[zn,Leq,qES])).glo ?_;rintro v ⟨H2,T2⟩ ⟨hk,rfl|⟨d2,i2,t2,rfl,g2,hd2,hi2,hm2,hs2⟩⟩
 . simp;exact qEM (wR c (Q:=fun _ _=>False) (h.same hk).kp0 _ _) fun _ _ h=>h.elim
 simp;refine qEM (Jq c (h.same hk) hd2 i2 _) ?_;rintro v ⟨H3,T3⟩ ⟨rfl,hx⟩;simp;exact⟨d2,i2,rfl,hx,g2,hi2,fun b=>by rw[hs2 b];rfl⟩
def qlj(c){d H T}(h:BX c H d H){f g e}(hf:f<d.length)(hg:g<d.length)(he:e<d.length) :
 qg prog (XG c) 202 [.ptr c.B 0,.int .i64 f,.int .i64 g,.int .i64 e] ⟨H,T⟩ (NQ c d H fun b=>evD d b f&&evD d b g||!evD d b f&&evD d b e):=by
 refine qEI qe func202 rfl (by kernel_rfl) ?_;obtain⟨t0,hb⟩:=h.b;simp[hb];refine qEM ((qli d h.ok f g e hf hg he _ _).leq (args:=[.agg [.sl 3 (d.map qH) t0],.int .i64 f,.int .i64 g,.int .i64 e]) (by simp[zn,Leq,qES])).glo ?_;rintro v ⟨H2,T2⟩ ⟨hk,rfl|⟨d2,i2,t2,rfl,g2,hd2,hi2,hm2,hs2⟩⟩
 . simp;exact qEM (wR c (Q:=fun _ _=>False) (h.same hk).kp0 _ _) fun _ _ h=>h.elim
 simp;refine qEM (Jq c (h.same hk) hd2 i2 _) ?_;rintro v ⟨H3,T3⟩ ⟨rfl,hx⟩;simp;exact⟨d2,i2,rfl,hx,g2,hi2,fun b=>by rw[hs2 b];rfl⟩
section
variable {k:IntKind}{a b:Int}
def Kx:zw .add k a b=some (.int k (k.wrap (a+b))):=rfl
def JY:zw .sub k a b=some (.int k (k.wrap (a-b))):=rfl
def quq:zw .mul k a b=some (.int k (k.wrap (a*b))):=rfl
def Vt:zw .lss k a b=some (.bool (decide (a<b))):=rfl
def qpr:zw .gtr k a b=some (.bool (decide (a > b))):=rfl
def Vu:zw .eql k a b=some (.bool (a==b)):=rfl
def qjN:zw .neq k a b=some (.bool (a != b)):=rfl
end
def qy(w:List Nat):List AV:=w.map fun(n:Nat)=>.int .i64 (n:Int)
@[simp]def jG(w):(qy w).length=w.length:=by simp[qy]
@[simp]def qvf(w):(qy w).all AV.atom=true:=by simp[qy]
@[simp]def qst:∀(w),qz (qy w)=true
 |[]=>rfl
 |a::r=>by simp only[qy,qAz,qz,qO,qBC];exact qst r
@[simp]def qve(H w):(qy w).map (ky H)=qy w:=by simp[qy]
def kz(w)(i n:Nat):(qy w).set i (.int .i64 (n:Int))=qy (w.set i n):=by simp[qy,qDg]
def zZ{w:List Nat}{i x:Nat}(h:w[i]?=some x):(qy w).drop i=.int .i64 (x:Int)::(qy w).drop (i+1):=by
 have hl:i<(qy w).length:=by rw[jG];exact(qAm.1 h).1
 rw[qAJ hl];congr 1;obtain⟨_,h2⟩:=qAm.1 h;simp[qy,h2]
def qo{w}(h:w.length=16):(qy w).take 16=qy w:=qAs (by simp[h])
def qrd:∀(new Z),Z.length=new.length->zx Z 0 new=new:=fun new Z h=>by
 have:=vd new Z [] h;simpa using this
def zo{w}(h:w.length=16){Z}(hZ:Z.length=16):zx Z 0 (qy w)=qy w:=qrd _ _ (by simp[h,hZ])
section
variable {α:Type}{H t:List α}{p q r s u v:α}
def lk0:(H++p::t)[H.length]?=some p:=by rw[qAw (qAy _),qBm];rfl
def lk1:(H++p::q::t)[H.length+1]?=some q:=by rw[qAw (by omega),qBr];rfl
def lk2:(H++p::q::r::t)[H.length+2]?=some r:=by rw[qAw (by omega),qBr];rfl
def lk3:(H++p::q::r::s::t)[H.length+3]?=some s:=by rw[qAw (by omega),qBr];rfl
def lk4:(H++p::q::r::s::u::t)[H.length+4]?=some u:=by rw[qAw (by omega),qBr];rfl
end
def zf:List Nat:=List.replicate 16 0
def qT:zf.length=16:=rfl
def wh{d}(h:DagOk d):q9 d zf:=⟨rfl,fun i hi=>by rw[zf,qCc]at hi;rw[hi.2];have:=h.two;omega⟩
def jH : [AV.int .i64 0,.int .i64 0,.int .i64 0,.int .i64 0,.int .i64 0,.int .i64 0,.int .i64 0,.int .i64 0,.int .i64 0,.int .i64 0,.int .i64 0,.int .i64 0,.int .i64 0,.int .i64 0,.int .i64 0,.int .i64 0]=qy zf:=rfl
def kE{d}(h:DagOk d)(b k):qq d b zf k=false:=by
 unfold qq;have:zf.getD k 0=0:=by
  simp only[zf,qAx,qDn];split<;>rfl
 rw[this,Ym h]
def WQ(c:Bc)(d:List Nd)(H:List Blk)(v:(Nat->Bool)->Int)(r:AV)(U':St):Prop :=
 ∃d' W,r=.agg (qy W)/\BX c H d' U'.H/\za d d'/\q9 d' W/\∀b,z5 d' b W=v b
def BQ(c:Bc)(d:List Nd)(H:List Blk)(v:(Nat->Bool)->Nat->Bool)(r:AV)(U':St):Prop :=
 ∃d' W,r=.agg (qy W)/\BX c H d' U'.H/\za d d'/\q9 d' W/\∀b k,k<16->qq d' b W k=v b k
def q9.get{d w}(h:q9 d w){k}(hk:k<16):∃x,w[k]?=some x/\x<d.length/\w.getD k 0=x/\∀b,qq d b w k=evD d b x:=by
 have hl:k<w.length:=by rw[h.1];exact hk
 refine⟨w[k],qAo hl,h.2 _ (qCN hl),by simp[List.getD,hl],fun b=>by simp[qq,List.getD,hl]⟩
def q9.set{d w}(h:q9 d w){k x}(hx:x<d.length):q9 d (w.set k x):=⟨by simp[h.1],fun i hi=>by
 rcases qCr hi with hi|rfl
 . exact h.2 i hi
 exact hx⟩
def wU{d w k x j b}(hk:k<w.length):qq d b (w.set k x) j=if j=k then evD d b x else qq d b w j:=by
 unfold qq;by_cases h:j=k
 . subst h;simp[List.getD,hk]
 simp[List.getD,qAp (Ne.symm h),h]
section
variable {c:Bc}{d:List Nd}{H:List Blk}{T:List (Option Nat)}
def Z7(h:BX c H d H){X}(hX:q9 d X) :
 qg prog (XG c) 196 [.ptr c.B 0,.agg (qy X)] ⟨H,T⟩ (BQ c d H fun b k=>!qq d b X k):=by
 refine qEI qe func196 rfl (by kernel_rfl) ?_;simp;refine kf 16 (fun i ev U=>ev 0=.ptr c.B 0/\ev 3=.ptr H.length 0/\ev 4=.ptr (H.length+1) 0/\ev 6=.int .i64 (i:Int) /\
  ∃d' W,BX c H d' U.H/\za d d'/\q9 d' W/\U.H[H.length]?=some (.cells (qy W))/\(∃Z,Z.length=16/\U.H[H.length+1]?=some (.cells Z))/\∀b k,k<16->qq d' b W k=if k<i then !qq d b X k else qq d b X k) ?_ ?_ ?_
 . refine⟨by simp,by simp,by simp,by simp,d,X,(h.app _),qFe d,hX,by simp,⟨_,rfl,by simp;rfl⟩,fun b k hk=>by simp⟩
 . rintro i ev ⟨H1,T1⟩ R hR hi ⟨e0,e3,e4,e6,d1,W,hx,hg,hW,hH,⟨Z,hZ,hH2⟩,hb⟩;obtain⟨x,hx1,hx2,hx3,hx4⟩:=hW.get hi;simp only at hx hH hH2;have hWl:=hW.1;have hi':(i:Int)<16:=(by omega);have hi1:i+1<=16:=hi;have hdr:=zZ hx1;have hw:=wr (n:=(i:Int)+1) (by omega) (by omega);simp[e0,e3,e6,hi',hi1,hH,hWl,hdr];refine qEM (Q4 c hx.self hx2) ?_;rintro v ⟨H2,T2⟩ ⟨d2,y,rfl,hxx,hg2,hy,hv⟩;dsimp only at hv;have hx2':=hx.call hxx;have hH2':=hxx.loc hH (h.at (qAy _)).1;have hHl:=(qAm.1 hH2').1;have hZ2:=hxx.loc hH2 (h.at (by omega)).1;simp[e3,e6,hi',hi1,hH2',hWl,kz,hw];refine hR _ _ ⟨by simp[e0],by simp[e3],by simp[e4],by simp,d2,W.set i y,hx2'.set (qAy _) _,hg.trans hg2,(hW.grown hg2).set hy,by simp[hHl],⟨Z,hZ,by rw[qAp (by omega)];exact hZ2⟩,fun b k hk=>?_⟩;rw[wU (by omega)];by_cases hki:k=i
   . subst hki;have:=hb b k hk;rw[hx4,if_neg (by omega)]at this;rw[if_pos rfl,if_pos (by omega),hv,this]
   rw[if_neg hki,zJ hx.ok hg2 hW b hk,hb b k hk];by_cases hk2:k<i
   . rw[if_pos hk2,if_pos (by omega)]
   rw[if_neg hk2,if_neg (by omega)]
 rintro ev ⟨H1,T1⟩ ⟨e0,e3,e4,e6,d1,W,hx,hg,hW,hH,⟨Z,hZ,hH2⟩,hb⟩;simp only at hx hH hH2;have hWl:=hW.1;have hHl:=(qAm.1 hH2).1;simp[-getElem?_pos,e3,e4,e6,hH,hH2,hWl,qo hWl,zo hWl hZ,hZ,hHl];refine⟨d1,W,rfl,hx.set (by omega) _,hg,hW,fun b k hk=>by rw[hb b k hk,if_pos hk]⟩
end
section
variable {c:Bc}{d:List Nd}{H:List Blk}{T:List (Option Nat)}
def q9.getG{d d' w}(h:q9 d w)(hd:DagOk d)(hg:za d d'){k}(hk:k<16):∃x,w[k]?=some x/\x<d'.length/\∀b,evD d' b x=qq d b w k:=by
 obtain⟨x,h1,h2,h3,h4⟩:=h.get hk;exact⟨x,h1,qAF h2 hg.len,fun b=>by rw[hg.ev hd b h2,h4 b]⟩
def Qx(h:BX c H d H){X}(hX:q9 d X) :
 qg prog (XG c) 133 [.ptr c.B 0,.agg (qy X)] ⟨H,T⟩ (NQ c d H fun b=>Jc (qq d b X) 16):=by
 refine qEI qe func133 rfl (by kernel_rfl) ?_;have hXl:=hX.1;simp[hXl,qo hXl];refine kf 16 (fun i ev U=>ev 0=.ptr c.B 0/\ev 8=.agg (qy X)/\ev 9=.int .i64 (i:Int) /\
  ∃d' t,ev 5=.int .i64 (t:Nat)/\BX c H d' U.H/\za d d'/\t<d'.length/\∀b,evD d' b t=Jc (qq d b X) i) ?_ ?_ ?_
 . exact⟨by simp,by simp,by simp,d,0,by simp,h.app _,qFe d,by have:=h.ok.two;omega,fun b=>Ym h.ok b⟩
 . rintro i ev ⟨H1,T1⟩ R hR hi ⟨e0,e8,e9,d1,t,e5,hx,hg,ht,hv⟩;obtain⟨x,hx1,hx2,hx3⟩:=hX.getG h.ok hg hi;have hi1:i+1<=16:=hi;have hw:=wr (n:=(i:Int)+1) (by omega) (by omega);simp[e0,e5,e8,e9,show(i:Int)<16 by omega,hi1,hXl,zZ hx1];refine qEM (qcl c hx.self ht hx2) ?_;rintro v ⟨H2,T2⟩ ⟨d2,y,rfl,hxx,hg2,hy,hv2⟩;dsimp only at hv2;simp[e9,hw];exact hR _ _ ⟨by simp[e0],by simp[e8],by simp,d2,y,by simp,hx.call hxx,hg.trans hg2,hy,fun b=>by rw[hv2,hv,hx3];rfl⟩
 rintro ev ⟨H1,T1⟩ ⟨e0,e8,e9,d1,t,e5,hx,hg,ht,hv⟩;simp[e5,e9];exact⟨d1,t,rfl,hx,hg,ht,hv⟩
def qlM(n i:Nat)(hn:n<2^63):zw .and .i64 ((n:Int).fdiv (2^i)) 1=some (.int .i64 ((if n.testBit i=true then 1 else 0:Nat):Int)):=by
 have h1:((n:Int).fdiv (2^i))=((n/2^i:Nat):Int):=by rw[qCF _ (Int.pow_nonneg (by omega))];simp
 have h2:n/2^i<2^64:=by have:=qBy n (2^i);omega
 have h3:n/2^i%2=if n.testBit i=true then 1 else 0:=by
  rw[qDu];have:=qDR (n/2^i);rcases this with h|h<;>simp[h]
 rw[h1];generalize n/2^i=m at *;have h4:(BitVec.ofInt 64 (m:Int) &&& BitVec.ofInt 64 1).toNat=m%2:=by
  rw[BitVec.ofInt_natCast,show BitVec.ofInt 64 1=1#64 from rfl,BitVec.toNat_and,BitVec.toNat_ofNat,BitVec.toNat_ofNat,qCy h2];exact Nat.and_one_is_mod _
 show some (AV.int .i64 (IntKind.i64.wrap ((BitVec.ofInt 64 (m:Int) &&& BitVec.ofInt 64 1).toNat:Int)))=_;rw[h4,h3];split<;>rfl
def ym(n:Nat)(hn:n<65536):Pure prog GG 192 [.int .i64 (n:Int)] (.agg (qy ((List.range 16).map fun k=>if n.testBit k=true then 1 else 0))):=by
 refine qEG qe func192 rfl (by kernel_rfl) ?_;simp;refine kf 16 (fun i ev U=>ev 0=.int .i64 (n:Int)/\ev 2=.ptr 0 0/\ev 3=.ptr 1 0/\ev 5=.int .i64 (i:Int) /\
  ∃W Z,W.length=16/\U=⟨[.cells Z,.cells (qy W)],[]⟩/\Z.length=16/\∀k,k<i->W[k]?=some (if n.testBit k=true then 1 else 0)) ?_ ?_ ?_
 . exact⟨by simp,by simp,by simp,by simp,List.replicate 16 0,_,by simp,rfl,rfl,fun k hk=>absurd hk (by omega)⟩
 . rintro i ev U R hR hi ⟨e0,e2,e3,e5,W,Z,hW,rfl,hZ,hb⟩;have hi1:i+1<=16:=hi;have hw:=wr (n:=(i:Int)+1) (by omega) (by omega);have hmin:min i 64=i:=(by omega);have hneg:¬(i:Int)<0:=(by omega);have hand:=qlM n i (by omega);obtain⟨v,hv⟩:∃v:Nat,v=if n.testBit i=true then 1 else 0:=⟨_,rfl⟩
   rw[<- hv]at hand;simp[-zw,Vt,Kx,e0,e3,e5,show(i:Int)<16 by omega,hi1,hW,hmin,IntKind.bits,hand,hneg];refine hR _ _ ⟨by simp[e0],by simp[e2],by simp[e3],by simp[hw],W.set i v,Z,by simp[hW],by simp[kz],hZ,fun k hk=>?_⟩;by_cases hki:k=i
   . subst hki;rw[qAt (by omega),hv]
   rw[qAp (Ne.symm hki)];exact hb k (by omega)
 rintro ev U ⟨e0,e2,e3,e5,W,Z,hW,rfl,hZ,hb⟩;have:W=(List.range 16).map fun k=>if n.testBit k=true then 1 else 0:=by
  apply qBn;intro k;by_cases hk:k<16
  . rw[hb k hk];simp[hk]
  rw[qAU (by omega),qAU (by simp;omega)]
 rw[<- this];simp[e2,e3,e5,hW,qo hW,zo hW hZ,hZ]
end
section
variable {c:Bc}{d:List Nd}{H:List Blk}{T:List (Option Nat)}
def qo7(x y:Nat->Bool)(c:Bool)(k:Nat):Bool:=(x k ^^ y k) ^^ qbr x y c k
def qm2:List (Nat×Sch×List Nat):=[(5,.step 0 [8,7] (.step 1 [8,7,3,2] (.step 2 [8,7,3] (.step 3 [8,7] (.step 4 [8,7,6,5] (.step 5 [8,7,6] (.step 6 [8,7] (.step 7 [8] (.step 8 [] (.done))))))))),[7]),(8,.step 0 [8,7] (.step 1 [8,7,3,2] (.step 2 [8,7,3] (.step 3 [8,7] (.step 4 [8,7,6,5] (.step 5 [8,7,6] (.step 6 [8,7] (.step 7 [8] (.step 8 [] (.done))))))))),[7])]
def qfp(h:BX c H d H){X Y}(hX:q9 d X)(hY:q9 d Y){cn}(hc:cn<d.length) :
 qg prog (XG c) 267 [.ptr c.B 0,.agg (qy X),.agg (qy Y),.int .i64 (cn:Int)] ⟨H,T⟩ (BQ c d H fun b=>qo7 (qq d b X) (qq d b Y) (evD d b cn)):=by
 refine qEH ⟨false,qm2,[],[]⟩ qe func267 rfl (by kernel_rfl) ?_;have hXl:=hX.1;have hYl:=hY.1;simp;refine kf 16 (fun i ev U=>ev 0=.ptr c.B 0/\ev 5=.ptr H.length 0/\ev 6=.ptr (H.length+1) 0/\ev 8=.ptr (H.length+2) 0/\ev 9=.ptr (H.length+3) 0/\ev 14=.int .i64 (i:Int) /\
  ∃ d' W cn',ev 3=.int .i64 (cn':Nat)/\BX c H d' U.H/\za d d'/\q9 d' W/\cn' < d'.length/\U.H[H.length]?=some (.cells (qy X))/\U.H[H.length+1]?=some (.cells (qy Y))/\(∃Z,Z.length=16/\U.H[H.length+2]?=some (.cells Z))/\U.H[H.length+3]?=some (.cells (qy W)) /\
   (i<=15->∀b,evD d' b cn'=qbr (qq d b X) (qq d b Y) (evD d b cn) i) /\
   ∀b k,k<i->qq d' b W k=qo7 (qq d b X) (qq d b Y) (evD d b cn) k) ?_ ?_ ?_
 . refine⟨by simp,by simp,by simp,by simp,by simp,by simp,d,zf,cn,by simp,h.app _,qFe d,wh h.ok,hc,lk0,lk1,⟨_,qT,lk2⟩,lk3,fun _ b=>rfl,fun b k hk=>absurd hk (by omega)⟩
 . rintro i ev ⟨H1,T1⟩ R hR hi ⟨e0,e5,e6,e8,e9,e14,d1,W,cn1,e3,hx,hg,hW,hc1,hHX,hHY,⟨Z,hZ,hHZ⟩,hHW,hcar,hb⟩;obtain⟨x,hx1,hx2,hx3⟩:=hX.getG h.ok hg hi;obtain⟨y,hy1,hy2,hy3⟩:=hY.getG h.ok hg hi;simp only at hx hHX hHY hHZ hHW;have hWl:=hW.1;have hi':(i:Int)<16:=(by omega);have hi1:i+1<=16:=hi;have hdx:=zZ hx1;have hdy:=zZ hy1;have hw:=wr (n:=(i:Int)+1) (by omega) (by omega);simp[e14,hi',hi1];rw[qR rfl];simp[ze,e0,e5,e6,hi',hi1,hHX,hHY,hXl,hYl,hdx,hdy];refine qEM (qbt c hx.self hx2 hy2) ?_;rintro v ⟨H2,T2⟩ ⟨d2,z,rfl,hxx,hg2,hz,hv2⟩;dsimp only at hv2;have hk:∀j,H.length+j≠c.B:=fun j=>(h.at (by omega)).1
   have hX2:=hxx.loc hHX (hk 0);have hY2:=hxx.loc hHY (hk 1);have hZ2:=hxx.loc hHZ (hk 2);have hW2:=hxx.loc hHW (hk 3);have hx2':=hx.call hxx;have hc2:=qAF hc1 hg2.len;simp[e0,e3,hi1];refine qEM (qbt c hx2'.self hz hc2) ?_;rintro v ⟨H3,T3⟩ ⟨d3,o,rfl,hxx3,hg3,ho,hv3⟩;dsimp only at hv3;have hX3:=hxx3.loc hX2 (hk 0);have hY3:=hxx3.loc hY2 (hk 1);have hZ3:=hxx3.loc hZ2 (hk 2);have hW3:=hxx3.loc hW2 (hk 3);have hx3':=hx2'.call hxx3;have hl3:=(qAm.1 hW3).1;have hx4:=hx3'.set (k:=H.length+3) (by omega) (.cells (qy (W.set i o)));have hX4:(H3.set (H.length+3) (.cells (qy (W.set i o))))[H.length]?=some (.cells (qy X)):=(by rw[qAp (by omega)];exact hX3);have hY4:(H3.set (H.length+3) (.cells (qy (W.set i o))))[H.length+1]?=some (.cells (qy Y)):=(by rw[qAp (by omega)];exact hY3);have hZ4:(H3.set (H.length+3) (.cells (qy (W.set i o))))[H.length+2]?=some (.cells Z):=(by rw[qAp (by omega)];exact hZ3);have hW4:(H3.set (H.length+3) (.cells (qy (W.set i o))))[H.length+3]?=some (.cells (qy (W.set i o))):=qAt hl3;have hg3':=hg.trans (hg2.trans hg3);have hWok:=(hW.grown (hg2.trans hg3)).set (k:=i) ho;have hcar1:=hcar (by omega);have hhv:∀b,evD d2 b z=(qq d b X i ^^ qq d b Y i):=fun b=>by rw[hv2,hx3,hy3]
   have hov:∀b,evD d3 b o=qo7 (qq d b X) (qq d b Y) (evD d b cn) i:=fun b=>by
    rw[hv3,hhv,hg2.ev hx.ok b hc1,hcar1];rfl
   have hbits:∀b k,k<i+1->qq d3 b (W.set i o) k=qo7 (qq d b X) (qq d b Y) (evD d b cn) k:=fun b k hk=>by
    rw[wU (by omega)];by_cases hki:k=i
    . subst hki;rw[if_pos rfl,hov]
    rw[if_neg hki,zJ hx.ok (hg2.trans hg3) hW b (by omega),hb b k (by omega)]
   by_cases h15:i<15
   . have h15':(i:Int)<15:=(by omega);simp[e9,hi',hi1,hW3,hWl,kz,h15'];generalize H3.set (H.length+3) (.cells (qy (W.set i o)))=H4 at *;rw[qR rfl];simp[ze,e0,e5,e6,hi',hi1,hX4,hY4,hXl,hYl,hdx,hdy];refine qEM (Q6 c hx4.self (qAF hx2 (hg2.trans hg3).len) (qAF hy2 (hg2.trans hg3).len)) ?_;rintro v ⟨H5,T5⟩ ⟨d5,g,rfl,hxx5,hg5,hgl,hv5⟩;dsimp only at hv5;have hx5:=hx4.call hxx5;simp[e0,e3,e14];refine qEM (Q6 c hx5.self (f:=z) (g:=cn1) (qAF hz (hg3.trans hg5).len) (qAF hc2 (hg3.trans hg5).len)) ?_;rintro v ⟨H6,T6⟩ ⟨d6,hh,rfl,hxx6,hg6,hhl,hv6⟩;dsimp only at hv6;have hx6:=hx5.call hxx6;simp[e0,e14];refine qEM (qcl c hx6.self (f:=g) (g:=hh) (qAF hgl hg6.len) hhl) ?_;rintro v ⟨H7,T7⟩ ⟨d7,c7,rfl,hxx7,hg7,hc7,hv7⟩;dsimp only at hv7;have hx7:=hx6.call hxx7;simp[e14,hw];have hgg:=hg5.trans (hg6.trans hg7);have up:∀{k:Nat} {x:Blk},H4[H.length+k]?=some x->H7[H.length+k]?=some x:=fun {k x} hq=>hxx7.loc (hxx6.loc (hxx5.loc hq (hk k)) (hk k)) (hk k)
     refine hR _ _ ⟨by simp[e0],by simp[e5],by simp[e6],by simp[e8],by simp[e9],by simp,d7,W.set i o,c7,by simp,hx7,hg3'.trans hgg,hWok.grown hgg,hc7,up (k:=0) hX4,up hY4,⟨Z,hZ,up hZ4⟩,up hW4,fun _ b=>?_,fun b k hk=>?_⟩
     . rw[hv7,hg6.ev hx5.ok b hgl,hv5,hv6,(hg3.trans hg5).ev hx2'.ok b hz,(hg3.trans hg5).ev hx2'.ok b hc2,hhv,(hg2.trans hg3).ev hx.ok b hx2,(hg2.trans hg3).ev hx.ok b hy2,hx3,hy3,hg2.ev hx.ok b hc1,hcar1];rfl
     rw[zJ hx4.ok hgg hWok b (by omega),hbits b k hk]
   have h15':¬(i:Int)<15:=(by omega);simp[e9,e14,hi',hi1,hW3,hWl,kz,h15',hw];generalize H3.set (H.length+3) (.cells (qy (W.set i o)))=H4 at *;refine hR _ _ ⟨by simp[e0],by simp[e5],by simp[e6],by simp[e8],by simp[e9],by simp,d3,W.set i o,cn1,by simp[e3],hx4,hg3',hWok,qAF hc2 hg3.len,hX4,hY4,⟨Z,hZ,hZ4⟩,hW4,fun hi=>absurd hi (by omega),hbits⟩
 rintro ev ⟨H1,T1⟩ ⟨e0,e5,e6,e8,e9,e14,d1,W,cn1,e3,hx,hg,hW,hc1,hHX,hHY,⟨Z,hZ,hHZ⟩,hHW,hcar,hb⟩;simp only at hx hHX hHY hHZ hHW;have hWl:=hW.1;have hHl:=(qAm.1 hHZ).1;simp[-getElem?_pos,e8,e9,e14,hHW,hHZ,hWl,qo hWl,zo hWl hZ,hZ,hHl];exact⟨d1,W,rfl,hx.set (by omega) _,hg,hW,fun b k hk=>hb b k hk⟩
end
def JH{x x' y y' c}:∀{k:Nat},(∀j,j<k->x j=x' j)->(∀j,j<k->y j=y' j)->qbr x y c k=qbr x' y' c k
 |0,_,_=>rfl
 | k+1,hx,hy=>by
  unfold qbr;rw[hx k (by omega),hy k (by omega),JH (k:=k) (fun j hj=>hx j (by omega)) (fun j hj=>hy j (by omega))]
section
variable {c:Bc}{d:List Nd}{H:List Blk}{T:List (Option Nat)}
def jl(n:Nat):Pure prog GG 194 [.int .i64 (n:Int)] (.agg (qy (n::List.replicate 15 0))):=by
 refine qEG qe func194 rfl (by kernel_rfl) ?_;simp[zs,zW];exact qER _
def qmY:List (Nat×Sch×List Nat):=[(5,.step 0 [13,12] (.step 1 [13,12] (.step 2 [13,12,11] (.step 3 [13,12,11,10] (.step 4 [13,12,11,10,6,5] (.step 5 [13,12,11,10,6] (.step 6 [13,12,11,10] (.step 7 [13,12,11,10,9,8] (.step 8 [13,12,11,10,9] (.step 9 [13,12,11,10] (.step 10 [13,12,11] (.step 11 [13,12] (.step 12 [13] (.step 13 [] (.done)))))))))))))),[10,11,12])]
def qaV(h:BX c H d H){X Y}(hX:q9 d X)(hY:q9 d Y) :
 qg prog (XG c) 318 [.ptr c.B 0,.agg (qy X),.agg (qy Y)] ⟨H,T⟩ (NQ c d H fun b=>eqT (qq d b X) (qq d b Y) 16):=by
 refine qEH ⟨false,qmY,[],[]⟩ qe func318 rfl (by kernel_rfl) ?_;have hXl:=hX.1;have hYl:=hY.1;have hk:∀j,H.length+j≠c.B:=fun j=>(h.at (by omega)).1
 simp;refine kf 16 (fun i ev U=>ev 0=.ptr c.B 0/\ev 4=.ptr H.length 0/\ev 5=.ptr (H.length+1) 0/\ev 9=.int .i64 (i:Int) /\
  ∃ d' t,ev 7=.int .i64 (t:Nat)/\BX c H d' U.H/\za d d'/\t<d'.length/\U.H[H.length]?=some (.cells (qy X))/\U.H[H.length+1]?=some (.cells (qy Y)) /\
   ∀b,evD d' b t=eqT (qq d b X) (qq d b Y) i) ?_ ?_ ?_
 . exact⟨by simp,by simp,by simp,by simp,d,1,by simp,h.app _,qFe d,by have:=h.ok.two;omega,lk0,lk1,fun b=>qeM h.ok b⟩
 . rintro i ev ⟨H1,T1⟩ R hR hi ⟨e0,e4,e5,e9,d1,t,e7,hx,hg,ht,hHX,hHY,hv⟩;obtain⟨x,hx1,hx2,hx3⟩:=hX.getG h.ok hg hi;obtain⟨y,hy1,hy2,hy3⟩:=hY.getG h.ok hg hi;simp only at hx hHX hHY;have hi':(i:Int)<16:=(by omega);have hi1:i+1<=16:=hi;have hdx:=zZ hx1;have hdy:=zZ hy1;have hw:=wr (n:=(i:Int)+1) (by omega) (by omega);simp[e9,hi'];rw[qR rfl];simp[ze,e0,e4,e5,e7,hi',hi1,hHX,hHY,hXl,hYl,hdx,hdy];refine qEM (qbt c hx.self hx2 hy2) ?_;rintro v ⟨H2,T2⟩ ⟨d2,z,rfl,hxx2,hg2,hz,hv2⟩;dsimp only at hv2;have hx2':=hx.call hxx2;simp[ze];refine qEM (Q4 c hx2'.self hz) ?_;rintro v ⟨H3,T3⟩ ⟨d3,u,rfl,hxx3,hg3,hu,hv3⟩;dsimp only at hv3;have hx3':=hx2'.call hxx3;simp[ze];have hg23:=hg2.trans hg3;refine qEM (Q6 c hx3'.self (f:=t) (g:=u) (qAF ht hg23.len) hu) ?_;rintro v ⟨H4,T4⟩ ⟨d4,w,rfl,hxx4,hg4,hw4,hv4⟩;dsimp only at hv4;have hx4':=hx3'.call hxx4;have up:∀{k:Nat} {x:Blk},H1[H.length+k]?=some x->H4[H.length+k]?=some x:=fun {k x} hq=>hxx4.loc (hxx3.loc (hxx2.loc hq (hk k)) (hk k)) (hk k)
   simp[ze,e9,hw];refine hR _ _ ⟨by simp[e0],by simp[e4],by simp[e5],by simp,d4,w,by simp,hx4',hg.trans (hg23.trans hg4),hw4,up (k:=0) hHX,up hHY,fun b=>?_⟩;rw[hv4,hg23.ev hx.ok b ht,hv3,hv2,hv,hx3,hy3];rfl
 rintro ev ⟨H1,T1⟩ ⟨e0,e4,e5,e9,d1,t,e7,hx,hg,ht,hHX,hHY,hv⟩;simp[e7,e9];exact⟨d1,t,rfl,hx,hg,ht,hv⟩
def qm1:List (Nat×Sch×List Nat):=[(5,.step 0 [10,9] (.step 1 [10,9,5] (.step 2 [10,9,5,4,3] (.step 3 [10,9,5,4] (.step 4 [10,9,5] (.step 6 [10,9,8,7] (.step 7 [10,9,8] (.fork (.cons 5 (.step 8 [10,9] (.step 9 [10] (.step 10 [] (.done)))) (.cons 8 (.step 5 [10,9] (.step 9 [10] (.step 10 [] (.done)))) (.nil)))))))))),[5,9]),(6,.step 0 [13,12] (.step 1 [13,12,10] (.step 2 [13,12,10,9] (.step 3 [13,12,10,9,5,4] (.step 4 [13,12,10,9,5] (.step 5 [13,12,10,9] (.step 6 [13,12,10,9,8,7] (.step 7 [13,12,10,9,8] (.step 8 [13,12,10,9] (.step 11 [13,12] (.step 9 [13,12,10] (.step 10 [13,12] (.step 12 [13] (.step 13 [] (.done)))))))))))))),[9,10,12])]
def qaI(h:BX c H d H){X Y}(hX:q9 d X)(hY:q9 d Y) :
 qg prog (XG c) 268 [.ptr c.B 0,.agg (qy X),.agg (qy Y)] ⟨H,T⟩ (NQ c d H fun b=>qer (qq d b X) (qq d b Y) 16):=by
 refine qEH ⟨false,qm1,[],[]⟩ qe func268 rfl (by kernel_rfl) ?_;have hXl:=hX.1;have hYl:=hY.1;have hk:∀j,H.length+j≠c.B:=fun j=>(h.at (by omega)).1
 simp;refine kf 16 (fun i ev U=>ev 0=.ptr c.B 0/\ev 4=.ptr H.length 0/\ev 5=.ptr (H.length+1) 0/\ev 11=.int .i64 (i:Int) /\
  ∃ d' t,ev 7=.int .i64 (t:Nat)/\BX c H d' U.H/\za d d'/\t<d'.length/\U.H[H.length]?=some (.cells (qy X))/\U.H[H.length+1]?=some (.cells (qy Y)) /\
   ∀b,evD d' b t=qer (qq d b X) (qq d b Y) i) ?_ ?_ ?_
 . exact⟨by simp,by simp,by simp,by simp,d,0,by simp,h.app _,qFe d,by have:=h.ok.two;omega,lk0,lk1,fun b=>Ym h.ok b⟩
 . rintro i ev ⟨H1,T1⟩ R hR hi ⟨e0,e4,e5,e11,d1,t,e7,hx,hg,ht,hHX,hHY,hv⟩;obtain⟨x,hx1,hx2,hx3⟩:=hX.getG h.ok hg hi;obtain⟨y,hy1,hy2,hy3⟩:=hY.getG h.ok hg hi;simp only at hx hHX hHY;have hi':(i:Int)<16:=(by omega);have hi1:i+1<=16:=hi;have hdx:=zZ hx1;have hdy:=zZ hy1;have hw:=wr (n:=(i:Int)+1) (by omega) (by omega);simp[e11,hi'];rw[qR rfl];simp[ze,e0,e4,e5,hi',hi1,hHX,hHY,hXl,hYl,hdx,hdy];have key:=Q4 c hx.self hx2 (T:=T1);refine⟨qEM key ?_,qEM key ?_⟩
   all_goals
    rintro v ⟨H2,T2⟩ ⟨d2,z,rfl,hxx2,hg2,hz,hv2⟩;dsimp only at hv2;have hx2':=hx.call hxx2;have hX2:=hxx2.loc hHX (hk 0);have hY2:=hxx2.loc hHY (hk 1);dsimp only at hX2 hY2;simp[ze,hi1,hY2,hYl,hdy];refine qEM (Q6 c hx2'.self (f:=z) (g:=y) hz (qAF hy2 hg2.len)) ?_;rintro v ⟨H3,T3⟩ ⟨d3,u,rfl,hxx3,hg3,hu,hv3⟩;dsimp only at hv3;have hx3':=hx2'.call hxx3;have hX3:=hxx3.loc hX2 (hk 0);have hY3:=hxx3.loc hY2 (hk 1);have hg23:=hg2.trans hg3;simp;rw[qR rfl];simp[ze,e0,e4,e5,e7,hi',hi1,hX3,hY3,hXl,hYl,hdx,hdy];refine qEM (qbt c hx3'.self (f:=x) (g:=y) (qAF hx2 hg23.len) (qAF hy2 hg23.len)) ?_;rintro v ⟨H4,T4⟩ ⟨d4,q,rfl,hxx4,hg4,hq,hv4⟩;dsimp only at hv4;have hx4':=hx3'.call hxx4;simp[ze];refine qEM (Q4 c hx4'.self hq) ?_;rintro v ⟨H5,T5⟩ ⟨d5,nq,rfl,hxx5,hg5,hnq,hv5⟩;dsimp only at hv5;have hx5':=hx4'.call hxx5;simp[ze];have hg35:=hg4.trans hg5;have hg15:=hg23.trans hg35;refine qEM (Q6 c hx5'.self (f:=nq) (g:=t) hnq (qAF ht hg15.len)) ?_;rintro v ⟨H6,T6⟩ ⟨d6,a6,rfl,hxx6,hg6,ha6,hv6⟩;dsimp only at hv6;have hx6':=hx5'.call hxx6;simp[ze,e0];have hg36:=hg35.trans hg6;refine qEM (qcl c hx6'.self (f:=u) (g:=a6) (qAF hu hg36.len) ha6) ?_;rintro v ⟨H7,T7⟩ ⟨d7,a7,rfl,hxx7,hg7,ha7,hv7⟩;dsimp only at hv7;have hx7':=hx6'.call hxx7;have up:∀{k:Nat} {x:Blk},H3[H.length+k]?=some x->H7[H.length+k]?=some x:=fun {k x} hq=>hxx7.loc (hxx6.loc (hxx5.loc (hxx4.loc hq (hk k)) (hk k)) (hk k)) (hk k)
    simp[e11,hw];refine hR _ _ ⟨by simp[e0],by simp[e4],by simp[e5],by simp,d7,a7,by simp,hx7',hg.trans (hg15.trans (hg6.trans hg7)),ha7,up (k:=0) hX3,up hY3,fun b=>?_⟩;rw[hv7,hg36.ev hx3'.ok b hu,hv3,hv2,hg2.ev hx.ok b hy2,hv6,hv5,hv4,hg23.ev hx.ok b hx2,hg23.ev hx.ok b hy2,hg15.ev hx.ok b ht,hv,hx3,hy3];rfl
 rintro ev ⟨H1,T1⟩ ⟨e0,e4,e5,e11,d1,t,e7,hx,hg,ht,hHX,hHY,hv⟩;simp[e7,e11];exact⟨d1,t,rfl,hx,hg,ht,hv⟩
def qm8:List (Nat×Sch×List Nat):=[(1,.step 0 [6,5] (.step 2 [6,5,4] (.step 3 [6,5,4] (.fork (.cons 1 (.step 4 [6,5] (.step 5 [6] (.step 6 [] (.done)))) (.cons 4 (.step 1 [6,5] (.step 5 [6] (.step 6 [] (.done)))) (.nil)))))),[4,5])]
def Z4(h:BX c H d H){X Y}(hX:q9 d X)(hY:q9 d Y) :
 qg prog (XG c) 197 [.ptr c.B 0,.agg (qy X),.agg (qy Y)] ⟨H,T⟩ (BQ c d H fun b=>qo7 (qq d b X) (fun k=>!qq d b Y k) true):=by
 refine qEH ⟨false,qm8,[],[]⟩ qe func197 rfl (by kernel_rfl) ?_;have hXl:=hX.1;have hYl:=hY.1;have hk:∀j,H.length+j≠c.B:=fun j=>(h.at (by omega)).1
 simp;rw[qR rfl,jH];have hx1:=h.app [.cells (qy X),.cells (qy Y),.cells (qy zf)];have hHX:(H++[Blk.cells (qy X),.cells (qy Y),.cells (qy zf)])[H.length]?=some (.cells (qy X)):=lk0;have hHY:(H++[Blk.cells (qy X),.cells (qy Y),.cells (qy zf)])[H.length+1]?=some (.cells (qy Y)):=lk1;have hHZ:(H++[Blk.cells (qy X),.cells (qy Y),.cells (qy zf)])[H.length+2]?=some (.cells (qy zf)):=lk2;generalize H++[Blk.cells (qy X),.cells (qy Y),.cells (qy zf)]=H1 at *;simp[ze,hHX,hHY,hXl,hYl,qo hXl,qo hYl];have key:=Z7 hx1.self hY (T:=T);refine⟨qEM key ?_,qEM key ?_⟩
 all_goals
  rintro v ⟨H2,T2⟩ ⟨d2,W,rfl,hxx2,hg2,hW,hv2⟩;have hx2':=hx1.call hxx2;have hX2:=hxx2.loc hHX (hk 0);have hZ2:=hxx2.loc hHZ (hk 2);simp[ze,hX2,hXl,qo hXl];have ht:=hx2'.ok.two;refine qEM (qfp hx2'.self (hX.grown hg2) hW (cn:=1) (by omega)) ?_;rintro v ⟨H3,T3⟩ ⟨d3,V,rfl,hxx3,hg3,hV,hv3⟩;dsimp only at hv3;have hx3':=hx2'.call hxx3;have hZ3:=hxx3.loc hZ2 (hk 2);dsimp only at hZ3;have hVl:=hV.1;have hl3:=(qAm.1 hZ3).1;simp[-getElem?_pos,ze,hZ3,hVl,qo hVl,zo hVl (show(qy zf).length=16 from rfl),qT,hl3];refine⟨d3,V,rfl,hx3'.set (by omega) _,hg2.trans hg3,hV,fun b k hk=>?_⟩;rw[hv3 b k hk];unfold qo7;rw[hv2 b k hk,zJ h.ok hg2 hX b hk,qeM hx2'.ok];congr 1;exact JH (fun j hj=>zJ h.ok hg2 hX b (by omega)) (fun j hj=>hv2 b j (by omega))
end
def UQ(c:Bc)(d:List Nd)(H:List Blk)(v:(Nat->Bool)->Nat)(r:AV)(U':St):Prop :=
 ∃d' W,r=.agg (qy W)/\BX c H d' U'.H/\za d d'/\q9 d' W/\∀b,zr (qq d' b W) 16=v b
def qgB:((List.range 16).map fun k=>if Nat.testBit 0 k=true then 1 else 0)=zf:=by decide
def wI{d d'}(hd:DagOk d)(hg:za d d'){w}(h:q9 d w)(b):zr (qq d' b w) 16=zr (qq d b w) 16:=zt fun k hk=>zJ hd hg h b hk
section
variable {c:Bc}{d:List Nd}{H:List Blk}{T:List (Option Nat)}
def qm0:List (Nat×Sch×List Nat):=[(9,.step 0 [12,11] (.step 1 [12,11,10] (.step 2 [12,11,10,6,5,4] (.step 3 [12,11,10,6,5,4] (.step 4 [12,11,10,6,5] (.step 5 [12,11,10,6] (.step 6 [12,11,10] (.step 7 [12,11,10,9,8] (.step 8 [12,11,10,9] (.step 9 [12,11,10] (.step 10 [12,11] (.step 11 [12] (.step 12 [] (.done))))))))))))),[10])]
def qhC(h:BX c H d H){X Y}(hX:q9 d X)(hY:q9 d Y) :
 qg prog (XG c) 271 [.ptr c.B 0,.agg (qy X),.agg (qy Y)] ⟨H,T⟩ (UQ c d H fun b=>qrK (zr (qq d b X) 16) (qq d b Y) 16 16):=by
 refine qEH ⟨false,qm0,[],[]⟩ qe func271 rfl (by kernel_rfl) ?_;have hXl:=hX.1;have hYl:=hY.1;have hk:∀j,H.length<=j->j≠c.B:=fun j hj=>(h.at hj).1
 have hc0:=ym 0 (by omega);rw[qgB]at hc0;simp only[qBG]at hc0;simp;refine qEJ hc0 (by simp) ?_;simp[jH,zo (w:=zf) rfl (show(qy zf).length=16 from rfl),qT];refine kf 16 (fun i ev U=>ev 0=.ptr c.B 0/\ev 4=.ptr H.length 0/\ev 5=.ptr (H.length+1) 0/\ev 6=.ptr (H.length+2) 0/\ev 7=.ptr (H.length+3) 0/\ev 12=.int .i64 (i:Int) /\
  ∃ d' S,BX c H d' U.H/\za d d'/\q9 d' S/\U.H[H.length]?=some (.cells (qy X))/\U.H[H.length+1]?=some (.cells (qy Y))/\U.H[H.length+2]?=some (.cells (qy zf))/\U.H[H.length+3]?=some (.cells (qy S)) /\
   ∀b,zr (qq d' b S) 16=qrK (zr (qq d b X) 16) (qq d b Y) 16 i) ?_ ?_ ?_
 . refine⟨by simp,by simp,by simp,by simp,by simp,by simp,d,zf,h.app _,qFe d,wh h.ok,lk0,lk1,lk2,lk3,fun b=>?_⟩
   . rw[kJ fun k _=>kE h.ok b k];rfl
 . rintro i ev ⟨H1,T1⟩ R hR hi ⟨e0,e4,e5,e6,e7,e12,d1,S,hx,hg,hS,hHX,hHY,hHZ,hHS,hv⟩;obtain⟨y,hy1,hy2,hy3⟩:=hY.getG h.ok hg hi;have hi':(i:Int)<16:=(by omega);have hi1:i+1<=16:=hi;have hdy:=zZ hy1;have hw:=wr (n:=(i:Int)+1) (by omega) (by omega);have hHl:=hx.kp.1;simp[e12,hi',jH];have hx0:=hx.app [.cells (qy zf)];have aHX:=qd hHX [.cells (qy zf)];have aHY:=qd hHY [.cells (qy zf)];have aHZ:=qd hHZ [.cells (qy zf)];have aHS:=qd hHS [.cells (qy zf)];have aHP:(H1++[Blk.cells (qy zf)])[H1.length]?=some (.cells (qy zf)):=lk0;have hSl:=(qAm.1 hHS).1;generalize H1.length=N at *;generalize H1++[Blk.cells (qy zf)]=H1' at *;refine qEO (fun n ev U=>ev 0=.ptr c.B 0/\ev 4=.ptr H.length 0/\ev 5=.ptr (H.length+1) 0/\ev 6=.ptr (H.length+2) 0/\ev 7=.ptr (H.length+3) 0/\ev 8=.int .i64 (i:Int)/\ev 9=.ptr N 0/\ev 12=.int .i64 (i:Int) /\
    ∃j d' P,n=16-j/\i<=j/\j<=16/\ev 10=.int .i64 (j:Int)/\BX c H d' U.H/\za d1 d'/\q9 d' P/\U.H[H.length]?=some (.cells (qy X))/\U.H[H.length+1]?=some (.cells (qy Y))/\U.H[H.length+2]?=some (.cells (qy zf))/\U.H[H.length+3]?=some (.cells (qy S))/\U.H[N]?=some (.cells (qy P)) /\
    ∀b k,k<16->qq d' b P k=(decide (k<j)&&(qq d b Y i&&(decide (i<=k)&&qq d b X (k-i))))) (16-i) ?_ ?_
   . refine⟨by simp[e0],by simp[e4],by simp[e5],by simp[e6],by simp[e7],by simp,by simp,by simp[e12],i,d1,zf,rfl,qAy _,by omega,by simp,hx0,qFe d1,wh hx.ok,aHX,aHY,aHZ,aHS,aHP,fun b k hk=>?_⟩;rw[kE hx.ok];by_cases h1:k<i
     . have:¬i<=k:=by omega
       simp[this]
     simp[h1]
   rintro n ev ⟨H2,T2⟩ R2 hR2 ⟨e0,e4,e5,e6,e7,e8,e9,e12,j,d2,P,rfl,hij,hj16,e10,hx2,hg2,hP,bX,bY,bZ,bS,bP,hb⟩;have hPl:=hP.1;have hSl2:=hS.1;have hg02:=hg.trans hg2;by_cases hj:j<16
   . have hj':(j:Int)<16:=(by omega);have hj1:j+1<=16:=hj;have hwj:=wr (n:=(j:Int)+1) (by omega) (by omega);have hwd:=wr (n:=(j:Int)-i) (by omega) (by omega);have hsub:(j:Int)-i=((j-i:Nat):Int):=(by omega);rw[hsub]at hwd;have hjl:j-i<16:=(by omega);have hjl1:j-i+1<=16:=(by omega);have hjl2:((j-i:Nat):Int)<16:=(by omega);obtain⟨x,hx1,hx2',hx3⟩:=hX.getG h.ok hg02 hjl;have hdx:=zZ hx1;have hyl:y<d2.length:=qAF hy2 hg2.len;generalize hm:j-i=m at *;simp[e10,hj'];rw[qR rfl];simp[ze,e0,e4,e5,e8,e10,hi',hi1,hsub,hwd,hjl1,hjl2,bX,bY,hXl,hYl,hdx,hdy];refine qEM (Q6 c hx2.self hx2' hyl) ?_;rintro v ⟨H3,T3⟩ ⟨d3,z,rfl,hxx3,hg3,hz,hv3⟩;dsimp only at hv3;have hx3':=hx2.call hxx3;have up:∀{k:Nat} {x:Blk},H.length<=k->H2[k]?=some x->H3[k]?=some x:=fun {k x} hl hq=>hxx3.loc hq (hk k hl)
     have cP:=up (by omega) bP;have hPl3:=(qAm.1 cP).1;simp[ze,e9,e10,hj',hj1,cP,hPl,kz,hwj];refine hR2 (16-(j+1)) _ _ (by omega) ⟨by simp[e0],by simp[e4],by simp[e5],by simp[e6],by simp[e7],by simp[e8],by simp[e9],by simp[e12],j+1,d3,P.set j z,rfl,by omega,by omega,by simp,hx3'.set (by omega) _,hg2.trans hg3,(hP.grown hg3).set hz,?_,?_,?_,?_,qAt hPl3,fun b k hk=>?_⟩
     . rw[qAp (by omega)];exact up (by omega) bX
     . rw[qAp (by omega)];exact up (by omega) bY
     . rw[qAp (by omega)];exact up (by omega) bZ
     . rw[qAp (by omega)];exact up (by omega) bS
     rw[wU (by omega)];by_cases hkj:k=j
     . subst hkj;rw[if_pos rfl,hv3,hx3,hg2.ev hx.ok b hy2,hy3,hm];simp[hij,Bool.and_comm]
     rw[if_neg hkj,zJ hx2.ok hg3 hP b hk,hb b k hk];by_cases h1:k<j
     . have h2:k<j+1:=(by omega);simp[h1,h2]
     have h2:¬k<j+1:=(by omega);simp[h1,h2]
   have hj0:j=16:=(by omega);subst hj0;simp[e0,e7,e9,e10,bS,bP,hSl2,hPl,qo hSl2,qo hPl];have ht:=hx2.ok.two;have hSS:=hS.grown hg2;refine qEM (qfp hx2.self hSS hP (cn:=0) (by omega)) ?_;rintro v ⟨H3,T3⟩ ⟨d3,V,rfl,hxx3,hg3,hV,hv3⟩;dsimp only at hv3;have hx3':=hx2.call hxx3;have up:∀{k:Nat} {x:Blk},H.length<=k->H2[k]?=some x->H3[k]?=some x:=fun {k x} hl hq=>hxx3.loc hq (hk k hl)
   have cS:=up (by omega) bS;have hSl3:=(qAm.1 cS).1;have hVl:=hV.1;simp[e7,e12,cS,hVl,hSl2,zo hVl (show(qy S).length=16 by rw[jG,hSl2]),hw];refine hR _ _ ⟨by simp[e0],by simp[e4],by simp[e5],by simp[e6],by simp[e7],by simp,d3,V,hx3'.set (by omega) _,hg02.trans hg3,hV,?_,?_,?_,qAt hSl3,fun b=>?_⟩
   . rw[qAp (by omega)];exact up (by omega) bX
   . rw[qAp (by omega)];exact up (by omega) bY
   . rw[qAp (by omega)];exact up (by omega) bZ
   have hs:zr (qq d3 b V) 16=zr (fun k=>(qq d2 b S k ^^ qq d2 b P k) ^^ qbr (qq d2 b S) (qq d2 b P) false k) 16:=zt fun k hk=>by rw[hv3 b k hk,Ym hx2.ok];rfl
   have hp:zr (qq d2 b P) 16=cond (qq d b Y i) ((zr (qq d b X) 16*2^i)%2^16) 0:=by
    cases hy:qq d b Y i with
    | true=>
     rw[cond_true,<- qiV];exact zt fun k hk=>by rw[hb b k hk,hy];simp[hk]
    | false=>
     rw[cond_false];exact kJ fun k hk=>by rw[hb b k hk,hy];simp
   rw[hs,wk,hp,wI hx.ok hg2 hS b,hv b];simp[qrK,b2n]
 rintro ev ⟨H1,T1⟩ ⟨e0,e4,e5,e6,e7,e12,d1,S,hx,hg,hS,hHX,hHY,hHZ,hHS,hv⟩;have hSl:=hS.1;have hHl:=(qAm.1 hHZ).1;simp[-getElem?_pos,e6,e7,e12,hHS,hHZ,hSl,qo hSl,zo hSl (show(qy zf).length=16 from rfl),qT,hHl];exact⟨d1,S,rfl,hx.set (by omega) _,hg,hS,hv⟩
end
section
variable {c:Bc}{d:List Nd}{H:List Blk}{T:List (Option Nat)}
def qm5:List (Nat×Sch×List Nat):=[(4,.step 0 [10,9] (.step 1 [10,9,8] (.step 2 [10,9,8,4,3] (.step 3 [10,9,8,4] (.step 4 [10,9,8] (.step 5 [10,9,8,7,6] (.step 6 [10,9,8,7] (.step 7 [10,9,8] (.step 8 [10,9] (.step 9 [10] (.step 10 [] (.done))))))))))),[8])]
def Yz(h:BX c H d H){X Y:List Nat}(hX:q9 d X)(hY:q9 d Y){g:Nat}{first cap:List AV}{F:(Nat->Bool)->Bool->Bool->Bool}
 (hF:∀d1 H1 T1 (x y:Nat),BX c H d1 H1->za d d1->x<d1.length->y<d1.length->qg prog (XG c) g (yY first [.int .i64 x,.int .i64 y] cap) ⟨H1,T1⟩ (NQ c d1 H1 fun b=>F b (evD d1 b x) (evD d1 b y))) :
 qg prog (XG c) 200 [.agg (qy X),.agg (qy Y),.fn g first cap] ⟨H,T⟩ (BQ c d H fun b k=>F b (qq d b X k) (qq d b Y k)):=by
 refine qEH ⟨false,qm5,[],[]⟩ qe func200 rfl (by kernel_rfl) ?_;have hYl:=hY.1;have hk:∀j,H.length<=j->j≠c.B:=fun j hj=>(h.at hj).1
 simp[jH];refine kf 16 (fun i ev U=>ev 2=.fn g first cap/\ev 3=.ptr H.length 0/\ev 4=.ptr (H.length+1) 0/\ev 6=.ptr (H.length+2) 0/\ev 8=.int .i64 (i:Int) /\
  ∃ d' W,BX c H d' U.H/\za d d'/\q9 d' W/\U.H[H.length]?=some (.cells (qy W))/\U.H[H.length+1]?=some (.cells (qy Y))/\U.H[H.length+2]?=some (.cells (qy zf)) /\
   ∀b k,k<16->qq d' b W k=if k<i then F b (qq d b X k) (qq d b Y k) else qq d b X k) ?_ ?_ ?_
 . exact⟨by simp,by simp,by simp,by simp,by simp,d,X,h.app _,qFe d,hX,lk0,lk1,lk2,fun b k hk=>by simp⟩
 . rintro i ev ⟨H1,T1⟩ R hR hi ⟨e2,e3,e4,e6,e8,d1,W,hx,hg,hW,hHX,hHY,hHZ,hb⟩;obtain⟨x,hx1,hx2,_,hx3⟩:=hW.get hi;obtain⟨y,hy1,hy2,hy3⟩:=hY.getG h.ok hg hi;have hWl:=hW.1;have hi':(i:Int)<16:=(by omega);have hi1:i+1<=16:=hi;have hdx:=zZ hx1;have hdy:=zZ hy1;have hw:=wr (n:=(i:Int)+1) (by omega) (by omega);simp[e8,hi',hi1];rw[qR rfl];simp[-yY,ze,e2,e3,e4,hi',hi1,hHX,hHY,hWl,hYl,hdx,hdy];refine qEM (hF d1 H1 T1 x y hx hg hx2 hy2) ?_;rintro v ⟨H2,T2⟩ ⟨d2,z,rfl,hxx2,hg2,hz,hv2⟩;dsimp only at hv2;have hx2':=hx.call hxx2;have up:∀{k:Nat} {x:Blk},H.length<=k->H1[k]?=some x->H2[k]?=some x:=fun {k x} hl hq=>hxx2.loc hq (hk k hl)
   have cX:=up (by omega) hHX;have hl2:=(qAm.1 cX).1;simp[ze,e3,e8,hi',hi1,cX,hWl,kz,hw];refine hR _ _ ⟨by simp[e2],by simp[e3],by simp[e4],by simp[e6],by simp,d2,W.set i z,hx2'.set (by omega) _,hg.trans hg2,(hW.grown hg2).set hz,qAt hl2,?_,?_,fun b k hk=>?_⟩
   . rw[qAp (by omega)];exact up (by omega) hHY
   . rw[qAp (by omega)];exact up (by omega) hHZ
   rw[wU (by omega)];by_cases hki:k=i
   . subst hki;have hbk:=hb b k hk;rw[if_neg (by omega)]at hbk;rw[if_pos rfl,if_pos (by omega),hv2,hy3,<- hx3,hbk]
   rw[if_neg hki,zJ hx.ok hg2 hW b hk,hb b k hk];by_cases h1:k<i
   . rw[if_pos h1,if_pos (by omega)]
   rw[if_neg h1,if_neg (by omega)]
 rintro ev ⟨H1,T1⟩ ⟨e2,e3,e4,e6,e8,d1,W,hx,hg,hW,hHX,hHY,hHZ,hb⟩;have hWl:=hW.1;have hHl:=(qAm.1 hHZ).1;simp[-getElem?_pos,e3,e6,e8,hHX,hHZ,hWl,qo hWl,zo hWl (show(qy zf).length=16 from rfl),qT,hHl];exact⟨d1,W,rfl,hx.set (by omega) _,hg,hW,fun b k hk=>by rw[hb b k hk,if_pos hk]⟩
def qm7:List (Nat×Sch×List Nat):=[(5,.step 0 [5,4] (.step 1 [5,4] (.step 2 [5,4,3] (.step 3 [5,4] (.step 4 [5] (.step 5 [] (.done)))))),[4])]
def qcm{d}(h:DagOk d){n}(hn:n<d.length):q9 d (n::List.replicate 15 0):=⟨rfl,fun i hi=>by
 rcases qAM.1 hi with rfl|hi
 . exact hn
 rw[qCc]at hi;rw[hi.2];have:=h.two;omega⟩
def qfY{d}(h:DagOk d)(b n k):qq d b (n::List.replicate 15 0) k=(decide (k=0)&&evD d b n):=by
 unfold qq
 cases k with
 |zero=>simp
 | succ k=>
  have:(n::List.replicate 15 0).getD (k+1) 0=0:=by
   simp only[qAx,qCR,qDn];split<;>rfl
  rw[this,Ym h];simp
def qrw(h:BX c H d H){X}(hX:q9 d X) :
 qg prog (XG c) 198 [.ptr c.B 0,.agg (qy X)] ⟨H,T⟩ (UQ c d H fun b=>qav (qq d b X) 16):=by
 refine qEH ⟨false,qm7,[],[]⟩ qe func198 rfl (by kernel_rfl) ?_;have hXl:=hX.1;have hk:∀j,H.length<=j->j≠c.B:=fun j hj=>(h.at hj).1
 have hc0:=ym 0 (by omega);rw[qgB]at hc0;simp only[qBG]at hc0;simp;refine qEJ hc0 (by simp) ?_;simp[hXl,qo hXl,jH,zo (w:=zf) rfl (show(qy zf).length=16 from rfl),qT];refine kf 16 (fun i ev U=>ev 0=.ptr c.B 0/\ev 4=.ptr (H.length+1) 0/\ev 5=.ptr (H.length+2) 0/\ev 9=.agg (qy X)/\ev 10=.int .i64 (i:Int) /\
  ∃ d' S,BX c H d' U.H/\za d d'/\q9 d' S/\U.H[H.length+1]?=some (.cells (qy zf))/\U.H[H.length+2]?=some (.cells (qy S)) /\
   ∀b,zr (qq d' b S) 16=qav (qq d b X) i) ?_ ?_ ?_
 . exact⟨by simp,by simp,by simp,by simp,by simp,d,zf,h.app _,qFe d,wh h.ok,lk1,lk2,fun b=>by rw[kJ fun k _=>kE h.ok b k];rfl⟩
 . rintro i ev ⟨H1,T1⟩ R hR hi ⟨e0,e4,e5,e9,e10,d1,S,hx,hg,hS,hHZ,hHS,hv⟩;obtain⟨x,hx1,hx2,hx3⟩:=hX.getG h.ok hg hi;have hSl:=hS.1;have hi1:i+1<=16:=hi;have hdx:=zZ hx1;have hw:=wr (n:=(i:Int)+1) (by omega) (by omega);simp[e9,e10,show(i:Int)<16 by omega,hi1,hXl,hdx];rw[qR rfl];simp[ze,e0,e5,hHS,hSl,qo hSl];refine qEJ (jl x) (by simp) ?_;simp[ze,e10];have h1:=qcm hx.ok hx2;have hs:=qfp hx.self hS h1 (cn:=0) (T:=T1) (by omega);simp only[List.reduceReplicate,qBG]at hs;refine qEM hs ?_;rintro v ⟨H2,T2⟩ ⟨d2,V,rfl,hxx2,hg2,hV,hv2⟩;dsimp only at hv2;have hx2':=hx.call hxx2;have up:∀{k:Nat} {x:Blk},H.length<=k->H1[k]?=some x->H2[k]?=some x:=fun {k x} hl hq=>hxx2.loc hq (hk k hl)
   have cS:=up (by omega) hHS;have hl2:=(qAm.1 cS).1;have hVl:=hV.1;simp[ze,e5,e10,cS,hVl,hSl,zo hVl (show(qy S).length=16 by rw[jG,hSl]),hw];refine hR _ _ ⟨by simp[e0],by simp[e4],by simp[e5],by simp[e9],by simp,d2,V,hx2'.set (by omega) _,hg.trans hg2,hV,?_,qAt hl2,fun b=>?_⟩
   . rw[qAp (by omega)];exact up (by omega) hHZ
   have e1:zr (qq d2 b V) 16=zr (fun k=>(qq d1 b S k ^^ (decide (k=0)&&evD d1 b x)) ^^ qbr (qq d1 b S) (fun k=>decide (k=0)&&evD d1 b x) false k) 16:=zt fun k hk=>by
    rw[hv2 b k hk,Ym hx.ok];have:=qfY hx.ok b x;simp only[List.reduceReplicate]at this;unfold qo7;rw[this k,JH (x':=qq d1 b S) (y':=fun k=>decide (k=0)&&evD d1 b x) (fun j _=>rfl) (fun j _=>this j)]
   rw[e1,wk,qaa _ 15,hv b,hx3];have:=qfV (qq d b X) i;have h2:b2n (qq d b X i)<=1:=(by cases qq d b X i<;>simp[b2n]);show(qav _ i+b2n _+0)%2^16=qav _ i+b2n _;rw[qBP];exact qCy (by omega)
 rintro ev ⟨H1,T1⟩ ⟨e0,e4,e5,e9,e10,d1,S,hx,hg,hS,hHZ,hHS,hv⟩;have hSl:=hS.1;have hHl:=(qAm.1 hHZ).1;simp[-getElem?_pos,e4,e5,e10,hHS,hHZ,hSl,qo hSl,zo hSl (show(qy zf).length=16 from rfl),qT,hHl];exact⟨d1,S,rfl,hx.set (by omega) _,hg,hS,hv⟩
end
def shB(up:Bool)(x:Nat->Bool)(s k:Nat):Bool:=if up=true then decide (s<=k)&&x (k-s) else decide (k+s<16)&&x (k+s)
def qgA(up:Bool):Int:=if up=true then 1 else -1
def Yl(up:Bool)(s k:Nat):Int:=(k:Int)-qgA up*s
def qsa{up s k}(hs:s<16)(hk:k<16)(h:0<=Yl up s k/\Yl up s k<16):∃m:Nat,Yl up s k=m/\m<16/\∀x,shB up x s k=x m:=by
 unfold Yl qgA shB at *
 cases up with
 | true=>
  simp at h⊢;exact⟨k-s,by omega,by omega,fun x=>by
   have:s<=k:=by omega
   simp[this]⟩
 | false=>
  simp at h⊢;exact⟨k+s,by omega,by omega,fun x=>by
   have:k+s<16:=by omega
   simp[this]⟩
def qsb{up s k}(hs:s<16)(hk:k<16)(h:¬(0<=Yl up s k/\Yl up s k<16)):∀x,shB up x s k=false:=by
 unfold Yl qgA shB at *;intro x
 cases up with
 | true=>
  simp at h⊢;intro h1;omega
 | false=>
  simp at h⊢;intro h1;omega
def Wl{d}(h:DagOk d)(n:Nat):q9 d ((List.range 16).map fun k=>if n.testBit k=true then 1 else 0):=⟨by simp,fun i hi=>by
 obtain⟨k,_,rfl⟩:=qAN.1 hi;have:=h.two;split<;>omega⟩
def qeQ{d}(h:DagOk d)(b)(n:Nat){k}(hk:k<16):qq d b ((List.range 16).map fun k=>if n.testBit k=true then 1 else 0) k=n.testBit k:=by
 unfold qq;have:((List.range 16).map fun k=>if n.testBit k=true then 1 else 0).getD k 0=if n.testBit k=true then 1 else 0:=by
  rw[qAx,qAR,qC5 hk];rfl
 rw[this]
 cases n.testBit k with
 |true=>simpa using qeM h b
 |false=>simpa using Ym h b
def JE{d}(h:DagOk d)(b){n}(hn:n<65536):zr (qq d b ((List.range 16).map fun k=>if n.testBit k=true then 1 else 0)) 16=n:=by
 rw[zt fun k hk=>qeQ h b n hk,JP];exact qCy hn
section
variable {c:Bc}{d:List Nd}{H:List Blk}{T:List (Option Nat)}
def qmZ:List (Nat×Sch×List Nat):=[(5,.step 0 [5,4] (.step 1 [5,4] (.step 2 [5,4,3] (.step 3 [5,4] (.step 4 [5] (.step 5 [] (.done)))))),[4]),(11,.step 0 [13,12] (.step 1 [13,12,11] (.step 2 [13,12,11,4,3] (.step 3 [13,12,11,4] (.step 5 [13,12,11,10] (.step 6 [13,12,11,10] (.step 7 [13,12,11,10,9,8] (.step 8 [13,12,11,10,9] (.step 9 [13,12,11,10] (.fork (.cons 4 (.step 10 [13,12,11] (.step 11 [13,12] (.step 12 [13] (.step 13 [] (.done))))) (.cons 10 (.step 4 [13,12,11] (.step 11 [13,12] (.step 12 [13] (.step 13 [] (.done))))) (.nil)))))))))))),[10,11])]
def qfv(h:BX c H d H){X Y}(hX:q9 d X)(hY:q9 d Y)(up) :
 qg prog (XG c) 273 [.ptr c.B 0,.agg (qy X),.agg (qy Y),.int .i64 (qgA up)] ⟨H,T⟩ (BQ c d H fun b k=>decide (zr (qq d b Y) 16<16)&&shB up (qq d b X) (zr (qq d b Y) 16) k):=by
 refine qEH ⟨false,qmZ,[],[]⟩ qe func273 rfl (by kernel_rfl) ?_;have hXl:=hX.1;have hYl:=hY.1;have hk:∀j,H.length<=j->j≠c.B:=fun j hj=>(h.at hj).1
 have hc0:=ym 0 (by omega);rw[qgB]at hc0;simp only[qBG]at hc0;simp;refine qEJ hc0 (by simp) ?_;simp[jH,zo (w:=zf) rfl (show(qy zf).length=16 from rfl),qT];refine kf 16 (fun s ev U=>ev 0=.ptr c.B 0/\ev 3=.int .i64 (qgA up)/\ev 5=.ptr H.length 0/\ev 6=.ptr (H.length+1) 0/\ev 8=.ptr (H.length+2) 0/\ev 9=.ptr (H.length+3) 0/\ev 15=.int .i64 (s:Int) /\
  ∃ d' S,BX c H d' U.H/\za d d'/\q9 d' S/\U.H[H.length]?=some (.cells (qy X))/\U.H[H.length+1]?=some (.cells (qy Y))/\U.H[H.length+2]?=some (.cells (qy zf))/\U.H[H.length+3]?=some (.cells (qy S)) /\
   ∀b k,k<16->qq d' b S k=(decide (zr (qq d b Y) 16<s)&&shB up (qq d b X) (zr (qq d b Y) 16) k)) ?_ ?_ ?_
 . exact⟨by simp,by simp,by simp,by simp,by simp,by simp,by simp,d,zf,h.app _,qFe d,wh h.ok,lk0,lk1,lk2,lk3,fun b k hk=>by rw[kE h.ok];simp⟩
 . rintro s ev ⟨H1,T1⟩ R hR hs ⟨e0,e3,e5,e6,e8,e9,e15,d1,S,hx,hg,hS,hHX,hHY,hHZ,hHS,hb⟩;have hSl:=hS.1;have hw:=wr (n:=(s:Int)+1) (by omega) (by omega);simp[e15,show(s:Int)<16 by omega];rw[qR rfl];simp[ze,e0,e6,hHY,hYl,qo hYl];refine qEJ (ym s (by omega)) (by simp) ?_;simp[ze];refine qEM (qaV hx.self (hY.grown hg) (Wl hx.ok s)) ?_;rintro v ⟨H2,T2⟩ ⟨d2,t,rfl,hxx2,hg2,ht,hv2⟩;dsimp only at hv2;have hx2':=hx.call hxx2;have up2:∀{k:Nat} {x:Blk},H.length<=k->H1[k]?=some x->H2[k]?=some x:=fun {k x} hl hq=>hxx2.loc hq (hk k hl)
   have htv:∀b,evD d2 b t=decide (zr (qq d b Y) 16=s):=fun b=>by
    rw[hv2,qaW,JE hx.ok b (by omega),wI h.ok hg hY b]
   simp[ze];refine kf 16 (fun i ev U=>ev 0=.ptr c.B 0/\ev 3=.int .i64 (qgA up)/\ev 5=.ptr H.length 0/\ev 6=.ptr (H.length+1) 0/\ev 8=.ptr (H.length+2) 0/\ev 9=.ptr (H.length+3) 0/\ev 10=.int .i64 (s:Int)/\ev 11=.int .i64 (t:Int)/\ev 15=.int .i64 (s:Int)/\ev 23=.int .i64 (i:Int) /\
    ∃ d' P,BX c H d' U.H/\za d2 d'/\q9 d' P/\U.H[H.length]?=some (.cells (qy X))/\U.H[H.length+1]?=some (.cells (qy Y))/\U.H[H.length+2]?=some (.cells (qy zf))/\U.H[H.length+3]?=some (.cells (qy P)) /\
     ∀b k,k<16->qq d' b P k=(qq d1 b S k||(decide (k<i)&&(evD d2 b t&&shB up (qq d b X) s k)))) ?_ ?_ ?_
   . exact⟨by simp[e0],by simp[e3],by simp[e5],by simp[e6],by simp[e8],by simp[e9],by simp,by simp,by simp[e15],by simp,d2,S,hx2',qFe d2,hS.grown hg2,up2 (by omega) hHX,up2 (by omega) hHY,up2 (by omega) hHZ,up2 (by omega) hHS,fun b k hk=>by rw[zJ hx.ok hg2 hS b hk];simp⟩
   . rintro i ev ⟨H3,T3⟩ R2 hR2 hi ⟨e0,e3,e5,e6,e8,e9,e10,e11,e15,e23,d3,P,hx3,hg3,hP,bX,bY,bZ,bS,hpb⟩;have hPl:=hP.1;have hg03:=hg.trans (hg2.trans hg3);have hi':(i:Int)<16:=(by omega);have hi1:i+1<=16:=hi;have hwi:=wr (n:=(i:Int)+1) (by omega) (by omega);have hdm : -16<qgA up*(s:Int)/\qgA up*(s:Int)<16:=(by unfold qgA;cases up<;>simp<;>omega);have hwm:=wr (n:=qgA up*(s:Int)) (by omega) (by omega);have hwf:=wr (n:=(i:Int)-qgA up*s) (by omega) (by omega);have hff:(i:Int)-qgA up*s=Yl up s i:=rfl;rw[hff]at hwf;by_cases hrg:0<=Yl up s i/\Yl up s i<16
     . obtain⟨m,hm,hm16,hmx⟩:=qsa hs hi hrg;obtain⟨hrg1,hrg2⟩:=hrg;obtain⟨x,hx1,hx2,hx3'⟩:=hX.getG h.ok hg03 hm16;obtain⟨p,hp1,hp2,_,hp4⟩:=hP.get hi;have hdx:=zZ hx1;have hdp:=zZ hp1;have htl:t<d3.length:=qAF ht hg3.len;have hm1:m+1<=16:=hm16;have hm2:(m:Int)<16:=(by omega);rw[hm]at hwf hrg1 hrg2;rw[hm]at hff;simp[e3,e10,e23,hi',hwm,hff,hwf,hm2];rw[qR rfl];simp[ze,e0,e5,e9,e11,hi',hi1,hm2,hm1,bX,bS,hXl,hPl,hdx,hdp];have key:=Q6 c hx3.self (f:=t) (g:=x) htl hx2 (T:=T3);refine⟨qEM key ?_,qEM key ?_⟩
       all_goals
        rintro v ⟨H4,T4⟩ ⟨d4,z,rfl,hxx4,hg4,hz,hv4⟩;dsimp only at hv4;have hx4':=hx3.call hxx4;have up4:∀{k:Nat} {x:Blk},H.length<=k->H3[k]?=some x->H4[k]?=some x:=fun {k x} hl hq=>hxx4.loc hq (hk k hl)
        have cS:=up4 (by omega) bS;simp[ze,hi1,cS,hPl,hdp];refine qEM (qcl c hx4'.self (f:=p) (g:=z) (qAF hp2 hg4.len) hz) ?_;rintro v ⟨H5,T5⟩ ⟨d5,y,rfl,hxx5,hg5,hy,hv5⟩;dsimp only at hv5;have hx5':=hx4'.call hxx5;have up5:∀{k:Nat} {x:Blk},H.length<=k->H3[k]?=some x->H5[k]?=some x:=fun {k x} hl hq=>hxx5.loc (up4 hl hq) (hk k hl)
        have cS5:=up5 (by omega) bS;have hl5:=(qAm.1 cS5).1;simp[ze,e9,e23,hi',hi1,cS5,hPl,kz,hwi];refine hR2 _ _ ⟨by simp[e0],by simp[e3],by simp[e5],by simp[e6],by simp[e8],by simp[e9],by simp[e10],by simp[e11],by simp[e15],by simp,d5,P.set i y,hx5'.set (by omega) _,hg3.trans (hg4.trans hg5),(hP.grown (hg4.trans hg5)).set hy,?_,?_,?_,qAt hl5,fun b k hk=>?_⟩
        . rw[qAp (by omega)];exact up5 (by omega) bX
        . rw[qAp (by omega)];exact up5 (by omega) bY
        . rw[qAp (by omega)];exact up5 (by omega) bZ
        rw[wU (by omega)];by_cases hki:k=i
        . subst hki;rw[if_pos rfl,hv5,hg4.ev hx3.ok b hp2,hv4,<- hp4,hpb b k hk,hg3.ev hx2'.ok b ht,hx3',hmx];simp
        rw[if_neg hki,zJ hx3.ok (hg4.trans hg5) hP b hk,hpb b k hk];by_cases h1:k<i
        . have h2:k<i+1:=(by omega);simp[h1,h2]
        have h2:¬k<i+1:=(by omega);simp[h1,h2]
     have hno:=qsb hs hi hrg;have fin:∀ev',ev' 0=.ptr c.B 0->ev' 3=.int .i64 (qgA up)->ev' 5=.ptr H.length 0->ev' 6=.ptr (H.length+1) 0->ev' 8=.ptr (H.length+2) 0->ev' 9=.ptr (H.length+3) 0->ev' 10=.int .i64 (s:Int)->ev' 11=.int .i64 (t:Int)->ev' 15=.int .i64 (s:Int)->ev' 23=.int .i64 (((i+1:Nat)):Int)->R2 ev' ⟨H3,T3⟩:=fun ev' a0 a3 a5 a6 a8 a9 a10 a11 a15 a23=>
      hR2 _ _ ⟨a0,a3,a5,a6,a8,a9,a10,a11,a15,a23,d3,P,hx3,hg3,hP,bX,bY,bZ,bS,fun b k hk=>by
       rw[hpb b k hk];by_cases hki:k=i
       . subst hki;rw[hno];simp
       by_cases h1:k<i
       . have h2:k<i+1:=(by omega);simp[h1,h2]
       have h2:¬k<i+1:=(by omega);simp[h1,h2]⟩
     by_cases h0:0<=Yl up s i
     . have h16:¬Yl up s i<16:=fun h=>hrg ⟨h0,h⟩
       simp[e3,e10,e23,hi',hwm,hff,hwf,h0,h16,hwi];exact fin _ (by simp[e0]) (by simp[e3]) (by simp[e5]) (by simp[e6]) (by simp[e8]) (by simp[e9]) (by simp[e10]) (by simp[e11]) (by simp[e15]) (by simp)
     simp[e3,e10,e23,hi',hwm,hff,hwf,h0,hwi];exact fin _ (by simp[e0]) (by simp[e3]) (by simp[e5]) (by simp[e6]) (by simp[e8]) (by simp[e9]) (by simp[e10]) (by simp[e11]) (by simp[e15]) (by simp)
   rintro ev ⟨H3,T3⟩ ⟨e0,e3,e5,e6,e8,e9,e10,e11,e15,e23,d3,P,hx3,hg3,hP,bX,bY,bZ,bS,hpb⟩;simp[e15,e23,hw];refine hR _ _ ⟨by simp[e0],by simp[e3],by simp[e5],by simp[e6],by simp[e8],by simp[e9],by simp,d3,P,hx3,hg.trans (hg2.trans hg3),hP,bX,bY,bZ,bS,fun b k hk=>?_⟩;rw[hpb b k hk,hb b k hk,htv b];by_cases h1:zr (qq d b Y) 16=s
   . rw[h1];simp[hk]
   by_cases h2:zr (qq d b Y) 16<s
   . have h3:zr (qq d b Y) 16<s+1:=(by omega);simp[h1,h2,h3]
   have h3:¬zr (qq d b Y) 16<s+1:=(by omega);simp[h1,h2,h3]
 rintro ev ⟨H1,T1⟩ ⟨e0,e3,e5,e6,e8,e9,e15,d1,S,hx,hg,hS,hHX,hHY,hHZ,hHS,hb⟩;have hSl:=hS.1;have hHl:=(qAm.1 hHZ).1;simp[-getElem?_pos,e8,e9,e15,hHS,hHZ,hSl,qo hSl,zo hSl (show(qy zf).length=16 from rfl),qT,hHl];exact⟨d1,S,rfl,hx.set (by omega) _,hg,hS,hb⟩
end
def qpG(x:Nat):List Nat->Bool
 |a::b::r=>(decide (a<=x)&&decide (x<=b))||qpG x r
 |_=>false
def K7{Ws:List (List Nat)}(h:∀w∈Ws,w.length=16):(Ws.flatMap qy).length=Ws.length*16:=by
 induction Ws with
 |nil=>rfl
 |cons a r ih=>rw[qAO,qAq,jG,h a (by simp),ih fun w hw=>h w (by simp[hw]),qAD];omega
def qc1:∀{Ws:List (List Nat)}{i:Nat}{w:List Nat},(∀w∈Ws,w.length=16)->Ws[i]?=some w->((Ws.flatMap qy).drop (i*16)).take 16=qy w
 |[],i,w,_,hw=>by simp at hw
 | a::r,0,w,h,hw=>by
  simp at hw;subst hw;have ha:=h a (by simp);rw[qAO,qCl,qBz,qBx (by rw[jG,ha];exact qAy _),qo ha]
 | a::r,i+1,w,h,hw=>by
  have ha:=h a (by simp);have hal:(qy a).length=16:=by rw[jG,ha]
  have ih:=qc1 (Ws:=r) (i:=i) (w:=w) (fun w hw=>h w (by simp[hw])) (by simpa using hw);have e:(i+1)*16=16+i*16:=by omega
  rw[qAO,e,qCe,qA3 (by omega),hal,qAK,qBr,ih]
section
variable {c:Bc}{d:List Nd}{H:List Blk}{T:List (Option Nat)}
def qm6:List (Nat×Sch×List Nat):=[(5,.step 0 [9,8] (.step 1 [9,8,7] (.step 2 [9,8,7] (.step 3 [9,8,7,6,5] (.step 4 [9,8,7,6,5] (.step 5 [9,8,7,6] (.step 6 [9,8,7] (.step 7 [9,8] (.step 8 [9] (.step 9 [] (.done)))))))))),[7,8]),(6,.step 0 [10,9] (.step 1 [10,9,8] (.step 2 [10,9,8,6,5] (.step 3 [10,9,8,6,5,4] (.step 4 [10,9,8,6,5] (.step 5 [10,9,8,6] (.step 6 [10,9,8] (.step 7 [10,9,8] (.step 8 [10,9] (.step 9 [10] (.step 10 [] (.done))))))))))),[8,9])]
def qkm(h:BX c H d H){X}(hX:q9 d X){A V}{Ws:List (List Nat)}(hV:V.length=16)(hWs:∀w∈Ws,q9 d w)(hA:H[A]?=some (.cells (qy V++Ws.flatMap qy)))(hAB:A≠c.B)(hn:Ws.length<=1000) :
 qg prog (XG c) 199 [.ptr c.B 0,.agg (qy X),.ms A 16 Ws.length 16] ⟨H,T⟩ (NQ c d H fun b=>qpG (zr (qq d b X) 16) (Ws.map fun w=>zr (qq d b w) 16)):=by
 refine qEH ⟨false,qm6,[],[]⟩ qe func199 rfl (by kernel_rfl) ?_;have hXl:=hX.1;have hk:∀j,H.length<=j->j≠c.B:=fun j hj=>(h.at hj).1
 have hW16:∀w∈Ws,w.length=16:=fun w hw=>(hWs w hw).1
 have hCl:(qy V++Ws.flatMap qy).length=16+Ws.length*16:=by rw[qAq,jG,hV,K7 hW16]
 have hcut:∀{i:Nat} {w:List Nat},Ws[i]?=some w->((qy V++Ws.flatMap qy).drop (16+i*16)).take 16=qy w:=fun {i w} hw=>by
  have hv:(qy V).length=16:=by rw[jG,hV]
  rw[qCe,qA3 (by omega),qAK,hv,qBr];exact qc1 hW16 hw
 have hVal:∀{d':List Nd} {w:List Nat},za d d'->w∈Ws->∀b,zr (qq d' b w) 16=zr (qq d b w) 16:=fun {d' w} hg hw b=>wI h.ok hg (hWs w hw) b
 generalize hC:qy V++Ws.flatMap qy=C at *;simp;refine qEO (fun n ev U=>ev 0=.ptr c.B 0/\ev 2=.ms A 16 Ws.length 16/\ev 4=.ptr H.length 0 /\
  ∃ i d' t,n=Ws.length+1-i/\i<=Ws.length/\ev 8=.int .i64 (i:Int)/\ev 7=.int .i64 (t:Nat)/\BX c H d' U.H/\za d d'/\t<d'.length/\U.H[H.length]?=some (.cells (qy X))/\U.H[A]?=some (.cells C) /\
   ∀b,(evD d' b t||qpG (zr (qq d b X) 16) ((Ws.drop i).map fun w=>zr (qq d b w) 16))=qpG (zr (qq d b X) 16) (Ws.map fun w=>zr (qq d b w) 16)) (Ws.length+1) ?_ ?_
 . exact⟨by simp,by simp,by simp,0,d,0,rfl,by omega,by simp,by simp,h.app _,qFe d,by have:=h.ok.two;omega,lk0,qd hA _,fun b=>by rw[Ym h.ok];simp⟩
 rintro n ev ⟨H1,T1⟩ R hR ⟨e0,e2,e4,i,d1,t,rfl,hi,e8,e7,hx,hg,ht,bX,bA,hv⟩;have hw1:=wr (n:=(i:Int)+1) (by omega) (by omega);have hw2:=wr (n:=(i:Int)+2) (by omega) (by omega);by_cases hlt:i+1<Ws.length
 . have hlt':(i:Int)+1<Ws.length:=(by omega);have hi1:i<Ws.length:=(by omega);obtain⟨w0,hw0⟩:∃w,Ws[i]?=some w:=⟨_,qAo hi1⟩;obtain⟨w1,hw1'⟩:∃w,Ws[i+1]?=some w:=⟨_,qAo hlt⟩;have m0:=qAn hw0;have m1:=qAn hw1';have c0:=hcut hw0;have c1:=hcut hw1';have b0:16+i*16+16<=C.length:=(by rw[hCl];omega);have b1:16+(i+1)*16+16<=C.length:=(by rw[hCl];omega);rw[hCl]at b0 b1;have hdrop:Ws.drop i=w0::w1::Ws.drop (i+2):=by
    rw[qAJ hi1,qAJ hlt];obtain⟨_,q0⟩:=qAm.1 hw0;obtain⟨_,q1⟩:=qAm.1 hw1';rw[q0,q1]
   simp[e2,e8,hw1,hlt'];rw[qR rfl];simp[ze,e0,e2,e4,e8,show(i:Int)<Ws.length by omega,bX,bA,hXl,qo hXl,hCl,b0,c0];refine qEM (qaI hx.self (hX.grown hg) ((hWs w0 m0).grown hg)) ?_;rintro v ⟨H2,T2⟩ ⟨d2,y2,rfl,hxx2,hg2,hy2,hv2⟩;dsimp only at hv2;have hx2:=hx.call hxx2;simp[ze,e8];refine qEM (Q4 c hx2.self hy2) ?_;rintro v ⟨H3,T3⟩ ⟨d3,y3,rfl,hxx3,hg3,hy3,hv3⟩;dsimp only at hv3;have hx3:=hx2.call hxx3;have cX:=hxx3.loc (hxx2.loc bX (hk _ (qAy _))) (hk _ (qAy _));have cA:=hxx3.loc (hxx2.loc bA hAB) hAB;have hg23:=hg2.trans hg3;have hg03:=hg.trans hg23;simp[e8];rw[qR rfl];simp[ze,e0,e2,e4,e8,hw1,hlt',show(0:Int)<=(i:Int)+1 by omega,show((i:Int)+1).toNat=i+1 by omega,cX,cA,hXl,qo hXl,hCl,b1,c1];refine qEM (qaI hx3.self ((hWs w1 m1).grown hg03) (hX.grown hg03)) ?_;rintro v ⟨H4,T4⟩ ⟨d4,y4,rfl,hxx4,hg4,hy4,hv4⟩;dsimp only at hv4;have hx4:=hx3.call hxx4;simp[ze,e8];refine qEM (Q4 c hx4.self hy4) ?_;rintro v ⟨H5,T5⟩ ⟨d5,y5,rfl,hxx5,hg5,hy5,hv5⟩;dsimp only at hv5;have hx5:=hx4.call hxx5;simp[ze,e0,e7];have hg35:=hg4.trans hg5;refine qEM (Q6 c hx5.self (f:=y3) (g:=y5) (qAF hy3 hg35.len) hy5) ?_;rintro v ⟨H6,T6⟩ ⟨d6,y6,rfl,hxx6,hg6,hy6,hv6⟩;dsimp only at hv6;have hx6:=hx5.call hxx6;simp[e8];have hg16:=hg23.trans (hg35.trans hg6);refine qEM (qcl c hx6.self (f:=t) (g:=y6) (qAF ht hg16.len) hy6) ?_;rintro v ⟨H7,T7⟩ ⟨d7,y7,rfl,hxx7,hg7,hy7,hv7⟩;dsimp only at hv7;have hx7:=hx6.call hxx7;have up:∀{k:Nat} {x:Blk},k≠c.B->H3[k]?=some x->H7[k]?=some x:=fun {k x} hl hq=>hxx7.loc (hxx6.loc (hxx5.loc (hxx4.loc hq hl) hl) hl) hl
   simp[e8,hw2];refine hR (Ws.length+1-(i+2)) _ _ (by omega) ⟨by simp[e0],by simp[e2],by simp[e4],i+2,d7,y7,rfl,by omega,by simp,by simp,hx7,hg.trans (hg16.trans hg7),hy7,up (hk _ (qAy _)) cX,up hAB cA,fun b=>?_⟩;rw[<- hv b,hdrop];simp only[qAz,qpG];have hXv:∀{d'},za d d'->zr (qq d' b X) 16=zr (qq d b X) 16:=fun hg'=>wI h.ok hg' hX b
   rw[hv7,hg16.ev hx.ok b ht,hv6,hg35.ev hx3.ok b hy3,hv3,hv2,QC,hXv hg,hVal hg m0 b,hv5,hv4,QC,hXv hg03,hVal hg03 m1 b];generalize zr (qq d b X) 16=vx;generalize zr (qq d b w0) 16=v0;generalize zr (qq d b w1) 16=v1;rw[show(!decide (vx<v0))=decide (v0<=vx) by rw[qBd];simp,show(!decide (v1<vx))=decide (vx<=v1) by rw[qBd];simp,Bool.or_assoc]
 have hlt':¬(i:Int)+1<Ws.length:=by omega
 simp[e2,e7,e8,hw1,hlt'];refine⟨d1,t,rfl,hx,hg,ht,fun b=>?_⟩;refine Eq.trans ?_ (hv b);have:qpG (zr (qq d b X) 16) ((Ws.drop i).map fun w=>zr (qq d b w) 16)=false:=by
  have hl:((Ws.drop i).map fun w=>zr (qq d b w) 16).length<=1:=by simp;omega
  generalize ((Ws.drop i).map fun w=>zr (qq d b w) 16)=l at hl
  match l,hl with
  |[],_=>rfl
  |[_],_=>rfl
 rw[this,Bool.or_false]
end
def qaw{d}(h:DagOk d)(b n):z5 d b (n::List.replicate 15 0)=b2i (evD d b n):=by
 unfold z5;rw[zt fun k _=>qfY h b n k,qjT]
section
variable {c:Bc}{d:List Nd}{H:List Blk}{T:List (Option Nat)}
def qnx(h:BX c H d H){X Y}(hX:q9 d X)(hY:q9 d Y)(op) :
 qg prog (XG c) 274 [.ptr c.B 0,.int .i64 op,.agg (qy X),.agg (qy Y)] ⟨H,T⟩ (WQ c d H fun b=>b2i (if op=19 then Jc (qq d b X) 16&&Jc (qq d b Y) 16 else if op=20 then Jc (qq d b X) 16||Jc (qq d b Y) 16 else !Jc (qq d b X) 16||Jc (qq d b Y) 16)):=by
 refine qEI qe func274 rfl (by kernel_rfl) ?_;have hXl:=hX.1;have hYl:=hY.1;have hk:∀j,H.length<=j->j≠c.B:=fun j hj=>(h.at hj).1
 simp[jH];have hx1:=h.app [.cells (qy X),.cells (qy Y),.cells (qy zf)];have bY:(H++[Blk.cells (qy X),.cells (qy Y),.cells (qy zf)])[H.length+1]?=some (.cells (qy Y)):=lk1;have bZ:(H++[Blk.cells (qy X),.cells (qy Y),.cells (qy zf)])[H.length+2]?=some (.cells (qy zf)):=lk2;generalize H++[Blk.cells (qy X),.cells (qy Y),.cells (qy zf)]=H1 at *;simp[hXl,qo hXl];refine qEM (Qx hx1.self hX) ?_;rintro v ⟨H2,T2⟩ ⟨d2,s,rfl,hxx2,hg2,hs,hv2⟩;have hx2:=hx1.call hxx2;have cY:=hxx2.loc bY (hk _ (by omega));have cZ:=hxx2.loc bZ (hk _ (by omega));simp[cY,hYl,qo hYl];refine qEM (Qx hx2.self (hY.grown hg2)) ?_;rintro v ⟨H3,T3⟩ ⟨d3,t,rfl,hxx3,hg3,ht,hv3⟩;dsimp only at hv3;have hx3:=hx2.call hxx3;have eZ:=hxx3.loc cZ (hk _ (by omega));dsimp only at eZ;have hs3:s<d3.length:=qAF hs hg3.len;have hs3v:∀b,evD d3 b s=Jc (qq d b X) 16:=fun b=>by rw[hg3.ev hx2.ok b hs,hv2]
 have ht3v:∀b,evD d3 b t=Jc (qq d b Y) 16:=fun b=>by
  rw[hv3,Jb,Jb,wI h.ok hg2 hY b]
 have hg03:=hg2.trans hg3;have fin:∀{H4:List Blk} {d4:List Nd} {u:Nat} {τ:St} {v:(Nat->Bool)->Bool},τ.H=H4.set (H.length+2) (.cells (qy (u::List.replicate 15 0)))->BX c H d4 H4->za d3 d4->u<d4.length->(∀b,evD d4 b u=v b)->WQ c d H (fun b=>b2i (v b)) (.agg (qy (u::List.replicate 15 0))) τ:=fun {H4 d4 u τ v} hτ hx4 hg4 hu hv=>by
  refine⟨d4,_,rfl,?_,hg03.trans hg4,qcm hx4.ok hu,fun b=>by rw[qaw hx4.ok,hv]⟩;rw[hτ];exact hx4.set (by omega) _
 have cut1:∀(u:Nat),(qy (u::List.replicate 15 0)).take 16=qy (u::List.replicate 15 0):=fun u=>qo rfl
 have put1:∀(u:Nat),zx (qy zf) 0 (qy (u::List.replicate 15 0))=qy (u::List.replicate 15 0):=fun u=>zo rfl rfl
 simp only[List.reduceReplicate]at fin cut1 put1;by_cases h19:op=19
 . simp[h19];refine qEM (Q6 c hx3.self (f:=s) (g:=t) hs3 ht) ?_;rintro v ⟨H4,T4⟩ ⟨d4,u,rfl,hxx4,hg4,hu,hv4⟩;dsimp only at hv4;have gZ:=hxx4.loc eZ (hk _ (by omega));have hl:=(qAm.1 gZ).1;dsimp only at gZ hl;simp;refine qEJ (jl u) (by simp) ?_;simp[-getElem?_pos,gZ,qT,put1,hl,cut1];exact fin rfl (hx3.call hxx4) hg4 hu fun b=>by rw[hv4,hs3v,ht3v]
 by_cases h20:op=20
 . simp[h20];refine qEM (qcl c hx3.self (f:=s) (g:=t) hs3 ht) ?_;rintro v ⟨H4,T4⟩ ⟨d4,u,rfl,hxx4,hg4,hu,hv4⟩;dsimp only at hv4;have gZ:=hxx4.loc eZ (hk _ (by omega));have hl:=(qAm.1 gZ).1;dsimp only at gZ hl;simp;refine qEJ (jl u) (by simp) ?_;simp[-getElem?_pos,gZ,qT,put1,hl,cut1];exact fin rfl (hx3.call hxx4) hg4 hu fun b=>by rw[hv4,hs3v,ht3v]
 simp[h19,h20];refine qEM (Q4 c hx3.self hs3) ?_;rintro v ⟨H4,T4⟩ ⟨d4,q,rfl,hxx4,hg4,hq,hv4⟩;dsimp only at hv4;have hx4:=hx3.call hxx4;simp;refine qEM (qcl c hx4.self (f:=q) (g:=t) hq (qAF ht hg4.len)) ?_;rintro v ⟨H5,T5⟩ ⟨d5,u,rfl,hxx5,hg5,hu,hv5⟩;dsimp only at hv5;have gZ:=hxx5.loc (hxx4.loc eZ (hk _ (by omega))) (hk _ (by omega));have hl:=(qAm.1 gZ).1;dsimp only at gZ hl;simp;refine qEJ (jl u) (by simp) ?_;simp[-getElem?_pos,gZ,qT,put1,hl,cut1];exact fin rfl (hx4.call hxx5) (hg4.trans hg5) hu fun b=>by rw[hv5,hv4,hs3v,hg4.ev hx3.ok b ht,ht3v]
end
def qwT(op a b:Int):Int:=if op=15 then b2i (decide (a=b)) else if op=16 then b2i (!decide (a=b)) else if op=17 then b2i (decide (a<b)) else b2i (decide (a<=b))
section
variable {c:Bc}{d:List Nd}{H:List Blk}{T:List (Option Nat)}
def qpS{d b X Y}:eqT (qq d b X) (qq d b Y) 16=decide (z5 d b X=z5 d b Y):=by
 rw[qaW,qBd,decide_eq_true_iff,decide_eq_true_iff];unfold z5;omega
def qf7{d b X Y}:qer (qq d b X) (qq d b Y) 16=decide (z5 d b X<z5 d b Y):=by
 rw[QC,qBd,decide_eq_true_iff,decide_eq_true_iff];unfold z5;omega
def qa4(h:BX c H d H){X Y}(hX:q9 d X)(hY:q9 d Y)(op) :
 qg prog (XG c) 275 [.ptr c.B 0,.int .i64 op,.agg (qy X),.agg (qy Y)] ⟨H,T⟩ (WQ c d H fun b=>qwT op (z5 d b X) (z5 d b Y)):=by
 refine qEI qe func275 rfl (by kernel_rfl) ?_;have hXl:=hX.1;have hYl:=hY.1;have hk:∀j,H.length<=j->j≠c.B:=fun j hj=>(h.at hj).1
 simp[jH];have hx1:=h.app [.cells (qy X),.cells (qy Y),.cells (qy zf)];have bX:(H++[Blk.cells (qy X),.cells (qy Y),.cells (qy zf)])[H.length]?=some (.cells (qy X)):=lk0;have bY:(H++[Blk.cells (qy X),.cells (qy Y),.cells (qy zf)])[H.length+1]?=some (.cells (qy Y)):=lk1;have bZ:(H++[Blk.cells (qy X),.cells (qy Y),.cells (qy zf)])[H.length+2]?=some (.cells (qy zf)):=lk2;generalize H++[Blk.cells (qy X),.cells (qy Y),.cells (qy zf)]=H1 at *;have fin:∀{H4:List Blk} {d4:List Nd} {u:Nat} {τ:St} {v:(Nat->Bool)->Int},τ.H=H4.set (H.length+2) (.cells (qy (u::List.replicate 15 0)))->BX c H d4 H4->za d d4->u<d4.length->(∀b,b2i (evD d4 b u)=v b)->WQ c d H v (.agg (qy (u::List.replicate 15 0))) τ:=fun {H4 d4 u τ v} hτ hx4 hg4 hu hv=>by
  refine⟨d4,_,rfl,?_,hg4,qcm hx4.ok hu,fun b=>by rw[qaw hx4.ok,hv]⟩;rw[hτ];exact hx4.set (by omega) _
 have cut1:∀(u:Nat),(qy (u::List.replicate 15 0)).take 16=qy (u::List.replicate 15 0):=fun u=>qo rfl
 have put1:∀(u:Nat),zx (qy zf) 0 (qy (u::List.replicate 15 0))=qy (u::List.replicate 15 0):=fun u=>zo rfl rfl
 simp only[List.reduceReplicate]at fin cut1 put1;by_cases h15:op=15
 . simp[h15,bX,bY,hXl,hYl,qo hXl,qo hYl];refine qEM (qaV hx1.self hX hY) ?_;rintro v ⟨H4,T4⟩ ⟨d4,u,rfl,hxx4,hg4,hu,hv4⟩;dsimp only at hv4;have gZ:=hxx4.loc bZ (hk _ (by omega));have hl:=(qAm.1 gZ).1;dsimp only at gZ hl;simp;refine qEJ (jl u) (by simp) ?_;simp[-getElem?_pos,gZ,qT,put1,hl,cut1];exact fin rfl (hx1.call hxx4) hg4 hu fun b=>by rw[hv4,qpS];rfl
 by_cases h16:op=16
 . simp[h16,bX,bY,hXl,hYl,qo hXl,qo hYl];refine qEM (qaV hx1.self hX hY) ?_;rintro v ⟨H4,T4⟩ ⟨d4,u,rfl,hxx4,hg4,hu,hv4⟩;dsimp only at hv4;have hx4:=hx1.call hxx4;simp;refine qEM (Q4 c hx4.self hu) ?_;rintro v ⟨H5,T5⟩ ⟨d5,u5,rfl,hxx5,hg5,hu5,hv5⟩;dsimp only at hv5;have gZ:=hxx5.loc (hxx4.loc bZ (hk _ (by omega))) (hk _ (by omega));have hl:=(qAm.1 gZ).1;dsimp only at gZ hl;simp;refine qEJ (jl u5) (by simp) ?_;simp[-getElem?_pos,gZ,qT,put1,hl,cut1];exact fin rfl (hx4.call hxx5) (hg4.trans hg5) hu5 fun b=>by rw[hv5,hv4,qpS];rfl
 by_cases h17:op=17
 . simp[h17,bX,bY,hXl,hYl,qo hXl,qo hYl];refine qEM (qaI hx1.self hX hY) ?_;rintro v ⟨H4,T4⟩ ⟨d4,u,rfl,hxx4,hg4,hu,hv4⟩;dsimp only at hv4;have gZ:=hxx4.loc bZ (hk _ (by omega));have hl:=(qAm.1 gZ).1;dsimp only at gZ hl;simp;refine qEJ (jl u) (by simp) ?_;simp[-getElem?_pos,gZ,qT,put1,hl,cut1];exact fin rfl (hx1.call hxx4) hg4 hu fun b=>by rw[hv4,qf7];rfl
 simp[h15,h16,h17,bX,bY,hXl,hYl,qo hXl,qo hYl];refine qEM (qaI hx1.self hY hX) ?_;rintro v ⟨H4,T4⟩ ⟨d4,u,rfl,hxx4,hg4,hu,hv4⟩;dsimp only at hv4;have hx4:=hx1.call hxx4;simp;refine qEM (Q4 c hx4.self hu) ?_;rintro v ⟨H5,T5⟩ ⟨d5,u5,rfl,hxx5,hg5,hu5,hv5⟩;dsimp only at hv5;have gZ:=hxx5.loc (hxx4.loc bZ (hk _ (by omega))) (hk _ (by omega));have hl:=(qAm.1 gZ).1;dsimp only at gZ hl;simp;refine qEJ (jl u5) (by simp) ?_;simp[-getElem?_pos,gZ,qT,put1,hl,cut1];exact fin rfl (hx4.call hxx5) (hg4.trans hg5) hu5 fun b=>by
  rw[hv5,hv4,qf7];unfold qwT;rw[if_neg h15,if_neg h16,if_neg h17];congr 1;rw[qBd];simp
def qeo{d2 b V x y ci}(h:∀k,k<16->qq d2 b V k=qo7 x y ci k):z5 d2 b V=(((zr x 16+zr y 16+b2n ci)%2^16:Nat):Int):=by
 unfold z5;rw[zt h,<- wk];rfl
def qrD{d d2 b V X Y}(h:∀k,k<16->qq d2 b V k=(decide (zr (qq d b Y) 16<16)&&shB true (qq d b X) (zr (qq d b Y) 16) k)):z5 d2 b V=jU 13 (z5 d b X) (z5 d b Y):=by
 rw[show jU 13 (z5 d b X) (z5 d b Y)=if 0<=z5 d b Y/\z5 d b Y<16 then qv (z5 d b X*2^(z5 d b Y).toNat) else 0 by simp[jU]];by_cases hs:zr (qq d b Y) 16<16
 . rw[if_pos ⟨by unfold z5;omega,by unfold z5;omega⟩];have:z5 d2 b V=((zr (qq d b X) 16*2^zr (qq d b Y) 16%2^16:Nat):Int):=by
    unfold z5;rw[<- qiV,zt fun k hk=>by rw[h k hk,decide_eq_true hs,qBC,shB,if_pos rfl]]
   rw[this,qxc];rfl
 rw[if_neg (by unfold z5;omega)];unfold z5;rw[kJ fun k hk=>by rw[h k hk,decide_eq_false hs];rfl];rfl
def qrC{d d2 b V X Y}(h:∀k,k<16->qq d2 b V k=(decide (zr (qq d b Y) 16<16)&&shB false (qq d b X) (zr (qq d b Y) 16) k)):z5 d2 b V=jU 14 (z5 d b X) (z5 d b Y):=by
 rw[show jU 14 (z5 d b X) (z5 d b Y)=if 0<=z5 d b Y/\z5 d b Y<16 then qv (z5 d b X)/2^(z5 d b Y).toNat else 0 by simp[jU]];by_cases hs:zr (qq d b Y) 16<16
 . rw[if_pos ⟨by unfold z5;omega,by unfold z5;omega⟩];have:z5 d2 b V=((zr (qq d b X) 16/2^zr (qq d b Y) 16:Nat):Int):=by
    unfold z5;rw[<- qiW,zt fun k hk=>by rw[h k hk,decide_eq_true hs,qBC,shB,if_neg (by simp)]]
   rw[this,qxb];rfl
 rw[if_neg (by unfold z5;omega)];unfold z5;rw[kJ fun k hk=>by rw[h k hk,decide_eq_false hs];rfl];rfl
def qlu(h:BX c H d H){X Y}(hX:q9 d X)(hY:q9 d Y){op}(h7:7<=op)(h21:op<=21) :
 qg prog (XG c) 203 [.ptr c.B 0,.int .i64 op,.agg (qy X),.agg (qy Y)] ⟨H,T⟩ (WQ c d H fun b=>jU op (z5 d b X) (z5 d b Y)):=by
 refine qEI qe func203 rfl (by kernel_rfl) ?_;have hXl:=hX.1;have hYl:=hY.1;have hk:∀j,H.length<=j->j≠c.B:=fun j hj=>(h.at hj).1
 simp[jH];have hx1:=h.app [.cells (qy X),.cells (qy Y),.cells (qy zf)];have bY:(H++[Blk.cells (qy X),.cells (qy Y),.cells (qy zf)])[H.length+1]?=some (.cells (qy Y)):=lk1;have bZ:(H++[Blk.cells (qy X),.cells (qy Y),.cells (qy zf)])[H.length+2]?=some (.cells (qy zf)):=lk2;generalize H++[Blk.cells (qy X),.cells (qy Y),.cells (qy zf)]=H1 at *;have fin:∀{H4:List Blk} {d4:List Nd} {V:List Nat} {τ:St} {v:(Nat->Bool)->Int},τ.H=H4.set (H.length+2) (.cells (qy V))->BX c H d4 H4->za d d4->q9 d4 V->(∀b,z5 d4 b V=v b)->WQ c d H v (.agg (qy V)) τ:=fun {H4 d4 V τ v} hτ hx4 hg4 hV hv=>by
  refine⟨d4,_,rfl,?_,hg4,hV,hv⟩;rw[hτ];exact hx4.set (by omega) _
 have ht:=h.ok.two;have t0:∀op T,15<=op/\op<=18->qg prog (XG c) 275 [.ptr c.B 0,.int .i64 op,.agg (qy X),.agg (qy Y)] ⟨H1,T⟩ (WQ c d H1 fun b=>jU op (z5 d b X) (z5 d b Y)):=fun op T ho=>by
  have:=qa4 hx1.self hX hY op (T:=T);have e:(fun b=>qwT op (z5 d b X) (z5 d b Y))=fun b=>jU op (z5 d b X) (z5 d b Y):=by
   funext b;obtain rfl|rfl|rfl|rfl:op=15\/op=16\/op=17\/op=18:=by omega
   all_goals simp[qwT,jU]
  rw[e]at this;exact this
 have t1:∀op T,19<=op/\op<=21->qg prog (XG c) 274 [.ptr c.B 0,.int .i64 op,.agg (qy X),.agg (qy Y)] ⟨H1,T⟩ (WQ c d H1 fun b=>jU op (z5 d b X) (z5 d b Y)):=fun op T ho=>by
  have:=qnx hx1.self hX hY op (T:=T);have e:(fun b=>b2i (if op=19 then Jc (qq d b X) 16&&Jc (qq d b Y) 16 else if op=20 then Jc (qq d b X) 16||Jc (qq d b Y) 16 else !Jc (qq d b X) 16||Jc (qq d b Y) 16))=fun b=>jU op (z5 d b X) (z5 d b Y):=by
   funext b;rw[vQ,vQ];obtain rfl|rfl|rfl:op=19\/op=20\/op=21:=by omega
   all_goals simp[jU,z5]
  rw[e]at this;exact this
 have k7:=(qfp hx1.self hX hY (cn:=0) (T:=T) (by omega)).imp (Q':=WQ c d H1 fun b=>jU 7 (z5 d b X) (z5 d b Y)) (fun v U ⟨d4,V,e,hx,hg,hV,hv⟩=>⟨d4,V,e,hx,hg,hV,fun b=>by
  rw[qeo (hv b),Ym h.ok,<- wk,qxf];rfl⟩)
 have k8:=(Z4 hx1.self hX hY (T:=T)).imp (Q':=WQ c d H1 fun b=>jU 8 (z5 d b X) (z5 d b Y)) (fun v U ⟨d4,V,e,hx,hg,hV,hv⟩=>⟨d4,V,e,hx,hg,hV,fun b=>by
  rw[qeo (hv b),<- wk,qtG];rfl⟩)
 have k9:=(qhC hx1.self hX hY (T:=T)).imp (Q':=WQ c d H1 fun b=>jU 9 (z5 d b X) (z5 d b Y)) (fun v U ⟨d4,V,e,hx,hg,hV,hv⟩=>⟨d4,V,e,hx,hg,hV,fun b=>by
  have hvb:=hv b;dsimp only at hvb;unfold z5;rw[hvb,qcu,qxd];rfl⟩)
 have k10:=(Yz hx1.self hX hY (T:=T) (g:=269) (first:=[.ptr c.B 0]) (cap:=[]) (F:=fun _ p q=>p&&q) (fun d1 H1 T1 x y hx hg a b=>Q6 c hx.self a b)).imp (Q':=WQ c d H1 fun b=>jU 10 (z5 d b X) (z5 d b Y)) (fun v U ⟨d4,V,e,hx,hg,hV,hv⟩=>⟨d4,V,e,hx,hg,hV,fun b=>by
  unfold z5;rw[zt (hv b),qmo];rfl⟩)
 have k11:=(Yz hx1.self hX hY (T:=T) (g:=191) (first:=[.ptr c.B 0]) (cap:=[]) (F:=fun _ p q=>p||q) (fun d1 H1 T1 x y hx hg a b=>qcl c hx.self a b)).imp (Q':=WQ c d H1 fun b=>jU 11 (z5 d b X) (z5 d b Y)) (fun v U ⟨d4,V,e,hx,hg,hV,hv⟩=>⟨d4,V,e,hx,hg,hV,fun b=>by
  unfold z5;rw[zt (hv b),qqC];rfl⟩)
 have k12:=(Yz hx1.self hX hY (T:=T) (g:=272) (first:=[.ptr c.B 0]) (cap:=[]) (F:=fun _ p q=>p ^^ q) (fun d1 H1 T1 x y hx hg a b=>qbt c hx.self a b)).imp (Q':=WQ c d H1 fun b=>jU 12 (z5 d b X) (z5 d b Y)) (fun v U ⟨d4,V,e,hx,hg,hV,hv⟩=>⟨d4,V,e,hx,hg,hV,fun b=>by
  unfold z5;rw[zt (hv b),qmn];rfl⟩)
 have k13:=(qfv hx1.self hX hY true (T:=T)).imp (Q':=WQ c d H1 fun b=>jU 13 (z5 d b X) (z5 d b Y)) (fun v U ⟨d4,V,e,hx,hg,hV,hv⟩=>⟨d4,V,e,hx,hg,hV,fun b=>qrD (hv b)⟩);have k14:=(qfv hx1.self hX hY false (T:=T)).imp (Q':=WQ c d H1 fun b=>jU 14 (z5 d b X) (z5 d b Y)) (fun v U ⟨d4,V,e,hx,hg,hV,hv⟩=>⟨d4,V,e,hx,hg,hV,fun b=>qrC (hv b)⟩);have k15:=t0 15 T (by omega);have k16:=t0 16 T (by omega);have k17:=t0 17 T (by omega);have k18:=t0 18 T (by omega);have k19:=t1 19 T (by omega);have k20:=t1 20 T (by omega);have k21:=t1 21 T (by omega);simp only[qBG,qgA,if_true,qAP,if_false]at k7 k13 k14;have hcases:op=7\/op=8\/op=9\/op=10\/op=11\/op=12\/op=13\/op=14\/op=15\/op=16\/op=17\/op=18\/op=19\/op=20\/op=21:=by omega
 rcases hcases with rfl|rfl|rfl|rfl|rfl|rfl|rfl|rfl|rfl|rfl|rfl|rfl|rfl|rfl|rfl
 all_goals
  simp[bY,hXl,hYl,qo hXl,qo hYl];refine qEM (by assumption) ?_;rintro v ⟨H4,T4⟩ ⟨d4,V,rfl,hxx4,hg4,hV,hv4⟩;have gZ:=hxx4.loc bZ (hk _ (by omega));have hl:=(qAm.1 gZ).1;have hVl:=hV.1;simp[-getElem?_pos,gZ,qT,hVl,zo hVl (show(qy zf).length=16 from rfl),hl,qo hVl];exact fin rfl (hx1.call hxx4) hg4 hV hv4
end
