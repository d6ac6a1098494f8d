/- A part of the proof. -/
import Derived.Test.YtcadpamddlofjaaGreatDoorPa10
import Derived.Tactics
import Derived.Tactics2
import Derived.WalkKit
import Derived.WalkSmall
import Derived.RowKit3
set_option linter.unusedVariables false
set_option linter.unusedSimpArgs false
set_option maxRecDepth 100000
set_option maxHeartbeats 16000000
set_option linter.defProp false
section
namespace Go.Abs
def zh (f:Nat->Bool):Nat->Nat
 | 0=>0
 | n+1=>zh f n+cond (f n) (2 ^ n) 0
theorem yK (f:Nat->Bool):∀ n,zh f n<2 ^ n
 | 0=>by simp[zh]
 | n+1=>by
  have:=yK f n;simp only[zh,Nat.pow_succ];cases f n<;>simp<;>omega
theorem qS (f:Nat->Bool):∀ (n k:Nat),(zh f n).testBit k=(decide (k<n)&&f k)
 | 0,k=>by simp[zh]
 | n+1,k=>by
  have h:=yK f n;have ih:=qS f n;simp only[zh];by_cases hk:k=n
  . subst hk
    cases hf:f k with
    | true=>
     simp only[cond_true];rw[Nat.add_comm,Nat.testBit_two_pow_add_eq,Nat.testBit_lt_two_pow h];simp
    | false=>simp;rw[ih k];simp[hf]
  . by_cases hl:k<n
    . cases hf:f n with
      | true=>
       simp only[cond_true];rw[Nat.add_comm,Nat.testBit_two_pow_add_gt hl,ih k];simp[hl,Nat.lt_succ_of_lt hl]
      | false=>simp[ih k,hl];intro;omega
    . have hge:n+1<=k:=(by omega);have hb:zh f n+cond (f n) (2 ^ n) 0<2 ^ k:=by
       have:2 ^ (n+1)<=2 ^ k:=Nat.pow_le_pow_right (by omega) hge;rw[Nat.pow_succ]at this;cases f n<;>simp<;>omega
      rw[Nat.testBit_lt_two_pow hb];simp;omega
theorem zi {f g:Nat->Bool}:∀ {n:Nat},(∀ k,k<n->f k=g k)->zh f n=zh g n
 | 0,_=>rfl
 | n+1,h=>by simp only[zh];rw[zi fun k hk=>h k (by omega),h n (by omega)]
theorem ZH (m n:Nat):zh (fun k=>m.testBit k) n=m % 2 ^ n:=by
 apply Nat.eq_of_testBit_eq;intro k;rw[qS,Nat.testBit_mod_two_pow]
theorem yJ {f:Nat->Bool}:∀ {n:Nat},(∀ k,k<n->f k=false)->zh f n=0
 | 0,_=>rfl
 | n+1,h=>by simp only[zh];rw[yJ fun k hk=>h k (by omega),h n (by omega)];simp
def Vt (x y:Nat->Bool)(c:Bool):Nat->Bool
 | 0=>c
 | k+1=>(x k&&y k)||((x k ^^ y k)&&Vt x y c k)
def b2n (b:Bool):Nat:=cond b 1 0
theorem VN (x y:Nat->Bool)(c:Bool):∀ n,zh (fun k=>(x k ^^ y k) ^^ Vt x y c k) n+2 ^ n*b2n (Vt x y c n)=zh x n+zh y n+b2n c
 | 0=>by simp[zh,Vt]
 | n+1=>by
  have ih:=VN x y c n;simp only[zh,Vt,Nat.pow_succ];generalize zh (fun k=>(x k ^^ y k) ^^ Vt x y c k) n=s at *;generalize Vt x y c n=q at *;generalize 2 ^ n=p at *;cases hx:x n<;>cases hy:y n<;>cases q<;>simp[b2n]at ih ⊢<;>omega
theorem ke (x y:Nat->Bool)(c:Bool)(n:Nat):zh (fun k=>(x k ^^ y k) ^^ Vt x y c k) n=(zh x n+zh y n+b2n c) % 2 ^ n:=by
 have h:=VN x y c n;have h1:=yK (fun k=>(x k ^^ y k) ^^ Vt x y c k) n;rw[<- h,Nat.add_mul_mod_self_left,Nat.mod_eq_of_lt h1]
theorem Wt (x:Nat->Bool):∀ n,zh (fun k=>!x k) n=2 ^ n-1-zh x n
 | 0=>rfl
 | n+1=>by
  have:=yK x n;have:=Wt x n;simp only[zh,Nat.pow_succ];cases x n<;>simp<;>omega
def qb5 (x y:Nat->Bool):Nat->Bool
 | 0=>false
 | k+1=>(!x k&&y k)||(!(x k ^^ y k)&&qb5 x y k)
theorem vH (x y:Nat->Bool):∀ n,qb5 x y n=decide (zh x n<zh y n)
 | 0=>by simp[qb5,zh]
 | n+1=>by
  have ih:=vH x y n;have h1:=yK x n;have h2:=yK y n;simp only[qb5,zh,ih];rcases Bool.eq_false_or_eq_true (x n) with hx|hx<;>rcases Bool.eq_false_or_eq_true (y n) with hy|hy<;>simp[hx,hy]<;>omega
def eqT (x y:Nat->Bool):Nat->Bool
 | 0=>true
 | k+1=>eqT x y k&&!(x k ^^ y k)
theorem W7 (x y:Nat->Bool):∀ n,eqT x y n=decide (zh x n=zh y n)
 | 0=>by simp[eqT,zh]
 | n+1=>by
  have ih:=W7 x y n;have h1:=yK x n;have h2:=yK y n;simp only[eqT,zh,ih];rcases Bool.eq_false_or_eq_true (x n) with hx|hx<;>rcases Bool.eq_false_or_eq_true (y n) with hy|hy<;>simp[hx,hy]<;>omega
def Q6 (x:Nat->Bool):Nat->Bool
 | 0=>false
 | k+1=>Q6 x k||x k
theorem Q5 (x:Nat->Bool):∀ n,Q6 x n=decide (zh x n≠0)
 | 0=>by simp[Q6,zh]
 | n+1=>by
  have ih:=Q5 x n;have:0<2 ^ n:=Nat.pow_pos (by omega);simp only[Q6,zh,ih];rcases Bool.eq_false_or_eq_true (x n) with hx|hx<;>simp[hx]<;>omega
theorem qf0 (x:Nat->Bool)(k n:Nat):zh (fun i=>decide (k<=i)&&x (i-k)) n=(zh x n*2 ^ k) % 2 ^ n:=by
 apply Nat.eq_of_testBit_eq;intro i;rw[qS,Nat.testBit_mod_two_pow,Nat.testBit_mul_two_pow,qS];by_cases h1:i<n<;>by_cases h2:k<=i<;>simp[h1,h2];intro;omega
theorem qf1 (x:Nat->Bool)(k n:Nat):zh (fun i=>decide (i+k<n)&&x (i+k)) n=zh x n / 2 ^ k:=by
 apply Nat.eq_of_testBit_eq;intro i;rw[qS,Nat.testBit_div_two_pow,qS];by_cases h1:i<n<;>by_cases h2:i+k<n<;>simp[h1,h2,Nat.add_comm k i]
 . omega
def qnZ (a:Nat)(y:Nat->Bool)(n:Nat):Nat->Nat
 | 0=>0
 | k+1=>(qnZ a y n k+cond (y k) ((a*2 ^ k) % 2 ^ n) 0) % 2 ^ n
theorem qah (a:Nat)(y:Nat->Bool)(n:Nat):∀ k,qnZ a y n k=(a*zh y k) % 2 ^ n
 | 0=>by simp[qnZ,zh]
 | k+1=>by
  simp only[qnZ,zh,qah a y n k,Nat.mul_add]
  cases y k with
  | true=>simp[Nat.add_mod]
  | false=>simp
def WE (x:Nat->Bool):Nat->Nat
 | 0=>0
 | k+1=>WE x k+b2n (x k)
theorem qdm (x:Nat->Bool):∀ n,WE x n<=n
 | 0=>Nat.le_refl _
 | n+1=>by have:=qdm x n;simp only[WE,b2n];cases x n<;>simp<;>omega
theorem qjn (x y:Nat->Bool)(n:Nat):zh (fun k=>x k&&y k) n=zh x n &&& zh y n:=by
 apply Nat.eq_of_testBit_eq;intro i;rw[Nat.testBit_and,qS,qS,qS];cases decide (i<n)<;>simp
theorem qm8 (x y:Nat->Bool)(n:Nat):zh (fun k=>x k||y k) n=zh x n ||| zh y n:=by
 apply Nat.eq_of_testBit_eq;intro i;rw[Nat.testBit_or,qS,qS,qS];cases decide (i<n)<;>simp
theorem qjm (x y:Nat->Bool)(n:Nat):zh (fun k=>x k ^^ y k) n=zh x n ^^^ zh y n:=by
 apply Nat.eq_of_testBit_eq;intro i;rw[Nat.testBit_xor,qS,qS,qS];cases decide (i<n)<;>simp
theorem Wq (t:Bool):∀ n,zh (fun k=>decide (k=0)&&t) (n+1)=b2n t
 | 0=>by cases t<;>rfl
 | n+1=>by
  have:=Wq t n;rw[zh,this];simp
end Go.Abs
end
section
namespace Go.Proofs.YtcadpamddlofjaaGreatDoor
open Go Go.Abs
section
theorem qad (f:Nat->Bool):zh f 16<65536:=yK f 16
theorem KP (f:Nat->Bool):∀ k,k<=16->yZ (zh f 16) k=WE f k
 | 0,_=>rfl
 | k+1,h=>by
  simp only[yZ,WE,KP f k (by omega),qS,b2n];have:decide (k<16)=true:=by simp;omega
  rw[this,qp9];cases f k<;>rfl
theorem wS (f:Nat->Bool):Q6 f 16 = !decide ((zh f 16:Int)=0):=by
 rw[Q5];simp
theorem qgV (t:Bool):(zh (fun k=>decide (k=0)&&t) 16:Int)=b2i t:=by
 rw[Wq t 15];cases t<;>rfl
section
variable {x y z:Nat->Bool}
theorem w_add:(zh (fun k=>(x k ^^ y k) ^^ Vt x y false k) 16:Int)=qM (zh x 16+zh y 16):=by
 rw[ke];unfold qM b2n;simp
theorem w_sub:(zh (fun k=>(x k ^^ !y k) ^^ Vt x (fun k=>!y k) true k) 16:Int)=qM (zh x 16-zh y 16):=by
 rw[ke,Wt];have:=qad x;have:=qad y;unfold qM b2n;simp;omega
theorem w_inv:(zh (fun k=>!x k) 16:Int)=65535-qM (zh x 16):=by
 rw[Wt];have:=qad x;unfold qM;omega
theorem w_mul:((zh x 16*zh y 16 % 2 ^ 16:Nat):Int)=qM (zh x 16*zh y 16):=by unfold qM;simp
theorem w_shl (n:Nat):((zh x 16*2 ^ n % 2 ^ 16:Nat):Int)=qM (zh x 16*2 ^ n):=by unfold qM;simp
theorem w_shr (n:Nat):((zh x 16 / 2 ^ n:Nat):Int)=qM (zh x 16) / 2 ^ n:=by
 have:=qad x;have e:qM (zh x 16)=zh x 16:=Ji (by omega) (by omega);rw[e];simp
end
def qn (d:List Nd)(b:Nat->Bool)(w:List Nat)(k:Nat):Bool:=evD d b (w.getD k 0)
def zS (d:List Nd)(b:Nat->Bool)(w:List Nat):Int:=(zh (qn d b w) 16:Nat)
def qU (d:List Nd)(w:List Nat):Prop:=w.length=16/\∀ i∈w,i<d.length
theorem qU.at {d:List Nd}{w:List Nat}(h:qU d w){k:Nat}(hk:k<16):w.getD k 0<d.length:=by
 have hl:k<w.length:=by rw[h.1];exact hk
 rw[qpg,qo1 hl];exact h.2 _ (qqY hl)
theorem qU.grown {d d':List Nd}{w:List Nat}(h:qU d w)(hg:qV d d'):qU d' w:=⟨h.1,fun i hi=>qpc (h.2 i hi) hg.len⟩
theorem zx {d d':List Nd}(hd:DagOk d)(hg:qV d d'){w:List Nat}(h:qU d w)(b:Nat->Bool){k:Nat}(hk:k<16):qn d' b w k=qn d b w k:=hg.ev hd b (h.at hk)
theorem qeO {d d':List Nd}(hd:DagOk d)(hg:qV d d'){w:List Nat}(h:qU d w)(b:Nat->Bool):zS d' b w=zS d b w:=by
 unfold zS;rw[zi fun k hk=>zx hd hg h b hk]
theorem qeN (d:List Nd)(b:Nat->Bool)(w:List Nat):0<=zS d b w/\zS d b w<=65535:=by
 unfold zS;have:=qad (qn d b w);omega
end
end Go.Proofs.YtcadpamddlofjaaGreatDoor
end
section
namespace Go.Proofs.YtcadpamddlofjaaGreatDoor
open Go Go.Abs Go.RowKit
section
theorem yV {P:Program}{G:Glo}{o:Opts}{env:Env}{U:St}{ks:List Fr}{Q:Exit->Env->St->Prop}(n:Nat)(J:Nat->Env->St->Prop){c:Code}(h0:J 0 env U)
 (hs:∀ i env U (R:Env->St->Prop),(∀ env U,J (i+1) env U->R env U)->i<n->J i env U->kC P G o c env U (.loop R::ks) Q)
 (he:∀ env U,J n env U->kC P G o c env U (.loop (fun _ _=>False)::ks) Q) (hp:jN c=true:=by rfl):qJ P G o c env U ks Q :=
 qJ.count n J h0 (fun i env U h1 hJ=>hs i env U _ (fun _ _ h=>h) h1 hJ) he hp
structure Bc where
 B:Nat
 M:Nat
 rest:List AV
 mp:Blk
 H0:List Blk
abbrev XG (c:Bc):Glo:=⟨GG,fun cs τ=>cs=[{ v:=.iface 223 (.agg #[.int .i64 2]),recovered:=false }]/\KpL [c.B] c.H0 τ.H⟩
structure BX (c:Bc)(E:List Blk)(d:List Nd)(H:List Blk):Prop where
 b:∃ tok,H[c.B]?=some (.cells (.sl 3 (d.map qE) tok::c.rest))
 m:H[c.M]?=some c.mp
 ok:DagOk d
 kp0:KpL [c.B] c.H0 H
 kp:KpL [c.B] E H
 ne:c.M≠c.B
 b0:c.B<E.length
 m0:c.M<E.length
 h0:c.H0.length<=E.length
section
variable {c:Bc}{E H H':List Blk}{d d':List Nd}{U U':St}{T T':List (Option Nat)}
theorem BX.app (h:BX c E d H)(u:List Blk):BX c E d (H++u):=by
 obtain⟨tok,hb⟩:=h.b;exact⟨⟨tok,qa hb _⟩,qa h.m _,h.ok,h.kp0.trans KpL.app,h.kp.trans KpL.app,h.ne,h.b0,h.m0,h.h0⟩
theorem BX.set (h:BX c E d H){k:Nat}(hk:E.length<=k)(y:Blk):BX c E d (H.set k y):=by
 obtain⟨tok,hb⟩:=h.b;have:=h.b0;have:=h.m0;have:=h.h0;exact⟨⟨tok,by rw[qoY (by omega)];exact hb⟩,by rw[qoY (by omega)];exact h.m,h.ok,h.kp0.setF (by omega),h.kp.setF hk,h.ne,h.b0,h.m0,h.h0⟩
theorem BX.self (h:BX c E d H):BX c H d H:=⟨h.b,h.m,h.ok,h.kp0,KpL.refl,h.ne,qpc h.b0 h.kp.1,qpc h.m0 h.kp.1,qp4 h.h0 h.kp.1⟩
theorem BX.same (h:BX c E d H)(hk:KpL [] H H'):BX c E d H':=by
 obtain⟨tok,hb⟩:=h.b;exact⟨⟨tok,hk.2 _ _ hb (by simp)⟩,hk.2 _ _ h.m (by simp),h.ok,h.kp0.trans (hk.sub (by simp)),h.kp.trans (hk.sub (by simp)),h.ne,h.b0,h.m0,h.h0⟩
theorem BX.call (h:BX c E d H)(h':BX c H d' H'):BX c E d' H':=⟨h'.b,h'.m,h'.ok,h'.kp0,h.kp.trans h'.kp,h.ne,h.b0,h.m0,h.h0⟩
theorem BX.at (h:BX c E d H){k:Nat}(hk:E.length<=k):k≠c.B/\k≠c.M:=by have:=h.b0;have:=h.m0;omega
theorem BX.loc (h:BX c H d H'){k:Nat}{x:Blk}(hx:H[k]?=some x)(hk:k≠c.B):H'[k]?=some x:=h.kp.2 _ _ hx (by simpa using hk)
end
theorem kK (c:Bc){H:List Blk}{T:List (Option Nat)}{Q:AV->St->Prop}(hk:KpL [c.B] c.H0 H)(b:Nat)(n:Int) :
 qg Tryz.prog (XG c) 233 [.ptr b 0,.agg [.sl 0 [] .nil],.int .i64 n,.int .i64 2] ⟨H,T⟩ Q:=by
 refine⟨by kernel_rfl,fun w0 ro0 K w vs hw hvs=>?_⟩;simp only[qh,qf]at hvs;obtain⟨v1,r1,e1,⟨B,hB,rfl⟩,v2,r2,rfl,⟨cs,rfl,v3,r3,e3,hsl,rfl⟩,v4,r4,rfl,rfl,v5,r5,rfl,rfl,rfl⟩:=hvs;have hv3:qf K (.sl 0 [] .nil) v3:=by simp only[qf];exact hsl
 clear hsl;have evs:vs = #[.pointer (some ⟨B,0,none⟩),.agg cs,.int .i64 n,.int .i64 2]:=by apply Array.ext';simpa using e1
 have ecs:cs = #[v3]:=by apply Array.ext';simpa using e3
 subst evs ecs
 go_enter Tryz.func233,Tryz.ntmps233
 go_wp2
 simp only[bodyPost];have hw3:=hw.push (b:=.cells [.sl 0 [] .nil]) (o:=.cells #[v3] 102) ⟨#[v3],102,rfl,by simp,by simp,fun i a e=>by
  cases i with
  | zero=>simp at e;subst e;exact⟨_,rfl,hv3.mono (Kn.le_addM hw w.heap.size (jg (.cells #[v3] 102)))⟩
  | succ i=>simp at e⟩
 refine⟨trivial,.inr ⟨_,rfl,_,_,Kn.le_addM hw w.heap.size (jg (.cells #[v3] 102)),hw3,rfl,?_⟩⟩;exact hk.trans KpL.app
theorem Zj (c:Bc){E H:List Blk}{T:List (Option Nat)}{d d':List Nd}(h:BX c E d H)(hd:DagOk d')(i:Nat)(tok:Tok) :
 qg Tryz.prog (XG c) 233 [.ptr c.B 0,.agg [.sl 3 (d'.map qE) tok],.int .i64 i,.int .i64 0] ⟨H,T⟩ (fun r U'=>r=.int .i64 i/\BX c E d' U'.H):=by
 refine qg.k qe Tryz.func233 rfl (by kernel_rfl) ?_;obtain⟨t0,hb⟩:=h.b;have hbl:=(qoX.1 hb).1;simp[-getElem?_pos,qa hb,yy hb];have:=h.b0;have:=h.h0;have:=h.ne;exact⟨⟨tok,qa (qo2 hbl) _⟩,qa (by rw[qoY (Ne.symm h.ne)];exact h.m) _,hd,(h.kp0.trans (KpL.set (by simp))).trans KpL.app,(h.kp.trans (KpL.set (by simp))).trans KpL.app,h.ne,h.b0,h.m0,h.h0⟩
end
end Go.Proofs.YtcadpamddlofjaaGreatDoor
end
section
namespace Go.Proofs.YtcadpamddlofjaaGreatDoor
open Go Go.Abs
def NQ (c:Bc)(d:List Nd)(H:List Blk)(v:(Nat->Bool)->Bool)(r:AV)(U':St):Prop :=
 ∃ d' i,r=.int .i64 (i:Nat)/\BX c H d' U'.H/\qV d d'/\i<d'.length/\∀ b,evD d' b i=v b
theorem v7 (c:Bc){d:List Nd}{H:List Blk}{T:List (Option Nat)}(h:BX c H d H){f:Nat}(hf:f<d.length) :
 qg Tryz.prog (XG c) 181 [.ptr c.B 0,.int .i64 f] ⟨H,T⟩ (NQ c d H fun b=>!evD d b f):=by
 refine qg.k qe Tryz.func181 rfl (by kernel_rfl) ?_;obtain⟨t0,hb⟩:=h.b;simp[-getElem?_pos,hb];refine qc.acall ((not418 d h.ok f hf _ _).leq (args:=[.agg [.sl 3 (d.map qE) t0],.int .i64 f]) (by simp[zn,Leq,jO.refl])).glo ?_;rintro v ⟨H2,T2⟩ ⟨hk,rfl|⟨d2,i2,t2,rfl,g2,hd2,hi2,hm2,hs2⟩⟩
 . simp[-getElem?_pos];exact qc.acall (kK c (Q:=fun _ _=>False) (h.same hk).kp0 _ _) fun _ _ h=>h.elim
 . simp[-getElem?_pos];refine qc.acall (Zj c (h.same hk) hd2 i2 _) ?_;rintro v ⟨H3,T3⟩ ⟨rfl,hx⟩;simp[-getElem?_pos];exact⟨d2,i2,rfl,hx,g2,hi2,fun b=>by rw[hs2 b];rfl⟩
theorem v9 (c:Bc){d:List Nd}{H:List Blk}{T:List (Option Nat)}(h:BX c H d H){f g:Nat}(hf:f<d.length)(hg:g<d.length) :
 qg Tryz.prog (XG c) 239 [.ptr c.B 0,.int .i64 f,.int .i64 g] ⟨H,T⟩ (NQ c d H fun b=>evD d b f&&evD d b g):=by
 refine qg.k qe Tryz.func239 rfl (by kernel_rfl) ?_;obtain⟨t0,hb⟩:=h.b;simp[-getElem?_pos,hb];refine qc.acall ((qmE d h.ok f g hf hg _ _).leq (args:=[.agg [.sl 3 (d.map qE) t0],.int .i64 f,.int .i64 g]) (by simp[zn,Leq,jO.refl])).glo ?_;rintro v ⟨H2,T2⟩ ⟨hk,rfl|⟨d2,i2,t2,rfl,g2,hd2,hi2,hm2,hs2⟩⟩
 . simp[-getElem?_pos];exact qc.acall (kK c (Q:=fun _ _=>False) (h.same hk).kp0 _ _) fun _ _ h=>h.elim
 . simp[-getElem?_pos];refine qc.acall (Zj c (h.same hk) hd2 i2 _) ?_;rintro v ⟨H3,T3⟩ ⟨rfl,hx⟩;simp[-getElem?_pos];exact⟨d2,i2,rfl,hx,g2,hi2,fun b=>by rw[hs2 b];rfl⟩
theorem V7 (c:Bc){d:List Nd}{H:List Blk}{T:List (Option Nat)}(h:BX c H d H){f g:Nat}(hf:f<d.length)(hg:g<d.length) :
 qg Tryz.prog (XG c) 177 [.ptr c.B 0,.int .i64 f,.int .i64 g] ⟨H,T⟩ (NQ c d H fun b=>evD d b f||evD d b g):=by
 refine qg.k qe Tryz.func177 rfl (by kernel_rfl) ?_;obtain⟨t0,hb⟩:=h.b;simp[-getElem?_pos,hb];refine qc.acall ((or416 d h.ok f g hf hg _ _).leq (args:=[.agg [.sl 3 (d.map qE) t0],.int .i64 f,.int .i64 g]) (by simp[zn,Leq,jO.refl])).glo ?_;rintro v ⟨H2,T2⟩ ⟨hk,rfl|⟨d2,i2,t2,rfl,g2,hd2,hi2,hm2,hs2⟩⟩
 . simp[-getElem?_pos];exact qc.acall (kK c (Q:=fun _ _=>False) (h.same hk).kp0 _ _) fun _ _ h=>h.elim
 . simp[-getElem?_pos];refine qc.acall (Zj c (h.same hk) hd2 i2 _) ?_;rintro v ⟨H3,T3⟩ ⟨rfl,hx⟩;simp[-getElem?_pos];exact⟨d2,i2,rfl,hx,g2,hi2,fun b=>by rw[hs2 b];rfl⟩
theorem Vu (c:Bc){d:List Nd}{H:List Blk}{T:List (Option Nat)}(h:BX c H d H){f g:Nat}(hf:f<d.length)(hg:g<d.length) :
 qg Tryz.prog (XG c) 242 [.ptr c.B 0,.int .i64 f,.int .i64 g] ⟨H,T⟩ (NQ c d H fun b=>evD d b f ^^ evD d b g):=by
 refine qg.k qe Tryz.func242 rfl (by kernel_rfl) ?_;obtain⟨t0,hb⟩:=h.b;simp[-getElem?_pos,hb];refine qc.acall ((xor458 d h.ok f g hf hg _ _).leq (args:=[.agg [.sl 3 (d.map qE) t0],.int .i64 f,.int .i64 g]) (by simp[zn,Leq,jO.refl])).glo ?_;rintro v ⟨H2,T2⟩ ⟨hk,rfl|⟨d2,i2,t2,rfl,g2,hd2,hi2,hm2,hs2⟩⟩
 . simp[-getElem?_pos];exact qc.acall (kK c (Q:=fun _ _=>False) (h.same hk).kp0 _ _) fun _ _ h=>h.elim
 . simp[-getElem?_pos];refine qc.acall (Zj c (h.same hk) hd2 i2 _) ?_;rintro v ⟨H3,T3⟩ ⟨rfl,hx⟩;simp[-getElem?_pos];exact⟨d2,i2,rfl,hx,g2,hi2,fun b=>by rw[hs2 b];rfl⟩
theorem qir (c:Bc){d:List Nd}{H:List Blk}{T:List (Option Nat)}(h:BX c H d H){f g e:Nat}(hf:f<d.length)(hg:g<d.length)(he:e<d.length) :
 qg Tryz.prog (XG c) 188 [.ptr c.B 0,.int .i64 f,.int .i64 g,.int .i64 e] ⟨H,T⟩ (NQ c d H fun b=>evD d b f&&evD d b g||!evD d b f&&evD d b e):=by
 refine qg.k qe Tryz.func188 rfl (by kernel_rfl) ?_;obtain⟨t0,hb⟩:=h.b;simp[-getElem?_pos,hb];refine qc.acall ((qiq d h.ok f g e hf hg he _ _).leq (args:=[.agg [.sl 3 (d.map qE) t0],.int .i64 f,.int .i64 g,.int .i64 e]) (by simp[zn,Leq,jO.refl])).glo ?_;rintro v ⟨H2,T2⟩ ⟨hk,rfl|⟨d2,i2,t2,rfl,g2,hd2,hi2,hm2,hs2⟩⟩
 . simp[-getElem?_pos];exact qc.acall (kK c (Q:=fun _ _=>False) (h.same hk).kp0 _ _) fun _ _ h=>h.elim
 . simp[-getElem?_pos];refine qc.acall (Zj c (h.same hk) hd2 i2 _) ?_;rintro v ⟨H3,T3⟩ ⟨rfl,hx⟩;simp[-getElem?_pos];exact⟨d2,i2,rfl,hx,g2,hi2,fun b=>by rw[hs2 b];rfl⟩
section
section
variable {k:IntKind}{a b:Int}
theorem V9:zM .add k a b=some (.int k (k.wrap (a+b))):=rfl
theorem qgP:zM .sub k a b=some (.int k (k.wrap (a-b))):=rfl
theorem op_mul:zM .mul k a b=some (.int k (k.wrap (a*b))):=rfl
theorem qdl:zM .lss k a b=some (.bool (decide (a<b))):=rfl
theorem ql6:zM .gtr k a b=some (.bool (decide (a > b))):=rfl
theorem V8:zM .eql k a b=some (.bool (a==b)):=rfl
theorem qgQ:zM .neq k a b=some (.bool (a != b)):=rfl
end
def qq (w:List Nat):List AV:=w.map fun (n:Nat)=>.int .i64 (n:Int)
@[simp]theorem jo (w:List Nat):(qq w).length=w.length:=by simp[qq]
@[simp]theorem encW_atom (w:List Nat):(qq w).all AV.atom=true:=by simp[qq]
@[simp]theorem qor:∀ (w:List Nat),qp (qq w)=true
 | []=>rfl
 | a::r=>by simp only[qq,qo9,qp,qC,qp9];exact qor r
@[simp]theorem encW_fin1 (H:List Blk)(w:List Nat):(qq w).map (kv H)=qq w:=by simp[qq]
theorem yz (w:List Nat)(i n:Nat):(qq w).set i (.int .i64 (n:Int))=qq (w.set i n):=by simp[qq,List.map_set]
theorem zQ {w:List Nat}{i x:Nat}(h:w[i]?=some x):(qq w).drop i=.int .i64 (x:Int)::(qq w).drop (i+1):=by
 have hl:i<(qq w).length:=by rw[jo];exact (qoX.1 h).1
 rw[qph hl];congr 1;obtain⟨_,h2⟩:=qoX.1 h;simp[qq,h2]
theorem qk {w:List Nat}(h:w.length=16):(qq w).take 16=qq w:=qo6 (by simp[h])
theorem qnw:∀ (new Z:List AV),Z.length=new.length->zp Z 0 new=new:=fun new Z h=>by
 have:=we new Z [] h;simpa using this
theorem zd {w:List Nat}(h:w.length=16){Z:List AV}(hZ:Z.length=16):zp Z 0 (qq w)=qq w:=qnw _ _ (by simp[h,hZ])
theorem ze (w:List Nat):qZ (.agg (qq w))=some (qq w):=by simp
section
variable {α:Type}{H t:List α}{p q r s u v:α}
theorem lk0:(H++p::t)[H.length]?=some p:=by rw[qo5 (qo7 _),qql];rfl
theorem lk1:(H++p::q::t)[H.length+1]?=some q:=by rw[qo5 (by omega),qpM];rfl
theorem lk2:(H++p::q::r::t)[H.length+2]?=some r:=by rw[qo5 (by omega),qpM];rfl
theorem lk3:(H++p::q::r::s::t)[H.length+3]?=some s:=by rw[qo5 (by omega),qpM];rfl
theorem lk4:(H++p::q::r::s::u::t)[H.length+4]?=some u:=by rw[qo5 (by omega),qpM];rfl
end
def q9:List Nat:=List.replicate 16 0
theorem qO:q9.length=16:=rfl
theorem y9 {d:List Nd}(h:DagOk d):qU d q9:=⟨rfl,fun i hi=>by rw[q9,qqk]at hi;rw[hi.2];have:=h.two;omega⟩
theorem je : [AV.int .i64 0,.int .i64 0,.int .i64 0,.int .i64 0,.int .i64 0,.int .i64 0,.int .i64 0,.int .i64 0,.int .i64 0,.int .i64 0,.int .i64 0,.int .i64 0,.int .i64 0,.int .i64 0,.int .i64 0,.int .i64 0]=qq q9:=rfl
theorem yC {d:List Nd}(h:DagOk d)(b:Nat->Bool)(k:Nat):qn d b q9 k=false:=by
 unfold qn;have:q9.getD k 0=0:=by
  simp only[q9,qpg,qr5];split<;>rfl
 rw[this,Je h]
def WQ (c:Bc)(d:List Nd)(H:List Blk)(v:(Nat->Bool)->Int)(r:AV)(U':St):Prop :=
 ∃ d' W,r=.agg (qq W)/\BX c H d' U'.H/\qV d d'/\qU d' W/\∀ b,zS d' b W=v b
def BQ (c:Bc)(d:List Nd)(H:List Blk)(v:(Nat->Bool)->Nat->Bool)(r:AV)(U':St):Prop :=
 ∃ d' W,r=.agg (qq W)/\BX c H d' U'.H/\qV d d'/\qU d' W/\∀ b k,k<16->qn d' b W k=v b k
theorem qU.get {d:List Nd}{w:List Nat}(h:qU d w){k:Nat}(hk:k<16):∃ x,w[k]?=some x/\x<d.length/\w.getD k 0=x/\∀ b,qn d b w k=evD d b x:=by
 have hl:k<w.length:=by rw[h.1];exact hk
 refine⟨w[k],qo1 hl,h.2 _ (qqY hl),by simp[List.getD,hl],fun b=>by simp[qn,List.getD,hl]⟩
theorem qU.set {d:List Nd}{w:List Nat}(h:qU d w){k x:Nat}(hx:x<d.length):qU d (w.set k x):=⟨by simp[h.1],fun i hi=>by
 rcases qqp hi with hi|rfl
 . exact h.2 i hi
 . exact hx⟩
theorem kZ {d:List Nd}{w:List Nat}{k x j:Nat}{b:Nat->Bool}(hk:k<w.length):qn d b (w.set k x) j=if j=k then evD d b x else qn d b w j:=by
 unfold qn;by_cases h:j=k
 . subst h;simp[List.getD,hk]
 . simp[List.getD,qoY (Ne.symm h),h]
section
variable {c:Bc}{d:List Nd}{H:List Blk}{T:List (Option Nat)}
theorem Q2 (h:BX c H d H){X:List Nat}(hX:qU d X) :
 qg Tryz.prog (XG c) 182 [.ptr c.B 0,.agg (qq X)] ⟨H,T⟩ (BQ c d H fun b k=>!qn d b X k):=by
 refine qg.k qe Tryz.func182 rfl (by kernel_rfl) ?_;simp[-getElem?_pos,ze];refine yV 16 (fun i ev U=>ev 0=.ptr c.B 0/\ev 3=.ptr H.length 0/\ev 4=.ptr (H.length+1) 0/\ev 6=.int .i64 (i:Int) /\
  ∃ d' W,BX c H d' U.H/\qV d d'/\qU d' W/\U.H[H.length]?=some (.cells (qq W))/\(∃ Z,Z.length=16/\U.H[H.length+1]?=some (.cells Z))/\∀ b k,k<16->qn d' b W k=if k<i then !qn d b X k else qn d b X k) ?_ ?_ ?_
 . refine⟨by simp,by simp,by simp,by simp,d,X,(h.app _),qV.refl d,hX,by simp,⟨_,rfl,by simp;rfl⟩,fun b k hk=>by simp⟩
 . rintro i ev ⟨H1,T1⟩ R hR hi ⟨e0,e3,e4,e6,d1,W,hx,hg,hW,hH,⟨Z,hZ,hH2⟩,hb⟩;obtain⟨x,hx1,hx2,hx3,hx4⟩:=hW.get hi;simp only at hx hH hH2;have hWl:=hW.1;have hi':(i:Int)<16:=(by omega);have hi1:i+1<=16:=hi;have hdr:=zQ hx1;have hw:=wr (n:=(i:Int)+1) (by omega) (by omega);simp[-getElem?_pos,e0,e3,e4,e6,hi',hi,hi1,hH,hWl,hdr];refine qc.acall (v7 c hx.self hx2) ?_;rintro v ⟨H2,T2⟩ ⟨d2,y,rfl,hxx,hg2,hy,hv⟩;dsimp only at hv;have hx2':=hx.call hxx;have hH2':=hxx.loc hH (h.at (qo7 _)).1;have hHl:=(qoX.1 hH2').1;have hZ2:=hxx.loc hH2 (h.at (by omega)).1;simp[-getElem?_pos,e0,e3,e4,e6,hi',hi,hi1,hH2',hWl,yz,hw];refine hR _ _ ⟨by simp[e0],by simp[e3],by simp[e4],by simp,d2,W.set i y,hx2'.set (qo7 _) _,hg.trans hg2,(hW.grown hg2).set hy,by simp[hHl],⟨Z,hZ,by rw[qoY (by omega)];exact hZ2⟩,fun b k hk=>?_⟩;rw[kZ (by omega)];by_cases hki:k=i
   . subst hki;have:=hb b k hk;rw[hx4,if_neg (by omega)]at this;rw[if_pos rfl,if_pos (by omega),hv,this]
   . rw[if_neg hki,zx hx.ok hg2 hW b hk,hb b k hk];by_cases hk2:k<i
     . rw[if_pos hk2,if_pos (by omega)]
     . rw[if_neg hk2,if_neg (by omega)]
 . rintro ev ⟨H1,T1⟩ ⟨e0,e3,e4,e6,d1,W,hx,hg,hW,hH,⟨Z,hZ,hH2⟩,hb⟩;simp only at hx hH hH2;have hWl:=hW.1;have hHl:=(qoX.1 hH2).1;simp[-getElem?_pos,e0,e3,e4,e6,hH,hH2,hWl,qk hWl,zd hWl hZ,hZ,hHl];refine⟨d1,W,rfl,hx.set (by omega) _,hg,hW,fun b k hk=>by rw[hb b k hk,if_pos hk]⟩
end
end
section
section
variable {c:Bc}{d:List Nd}{H:List Blk}{T:List (Option Nat)}
theorem qU.getG {d d':List Nd}{w:List Nat}(h:qU d w)(hd:DagOk d)(hg:qV d d'){k:Nat}(hk:k<16):∃ x,w[k]?=some x/\x<d'.length/\∀ b,evD d' b x=qn d b w k:=by
 obtain⟨x,h1,h2,h3,h4⟩:=h.get hk;exact⟨x,h1,qpc h2 hg.len,fun b=>by rw[hg.ev hd b h2,h4 b]⟩
theorem vB (h:BX c H d H){X:List Nat}(hX:qU d X) :
 qg Tryz.prog (XG c) 131 [.ptr c.B 0,.agg (qq X)] ⟨H,T⟩ (NQ c d H fun b=>Q6 (qn d b X) 16):=by
 refine qg.k qe Tryz.func131 rfl (by kernel_rfl) ?_;have hXl:=hX.1;simp[-getElem?_pos,ze,hXl,qk hXl];refine yV 16 (fun i ev U=>ev 0=.ptr c.B 0/\ev 8=.agg (qq X)/\ev 9=.int .i64 (i:Int) /\
  ∃ d' t,ev 5=.int .i64 (t:Nat)/\BX c H d' U.H/\qV d d'/\t<d'.length/\∀ b,evD d' b t=Q6 (qn d b X) i) ?_ ?_ ?_
 . exact⟨by simp,by simp,by simp,d,0,by simp,h.app _,qV.refl d,by have:=h.ok.two;omega,fun b=>Je h.ok b⟩
 . rintro i ev ⟨H1,T1⟩ R hR hi ⟨e0,e8,e9,d1,t,e5,hx,hg,ht,hv⟩;obtain⟨x,hx1,hx2,hx3⟩:=hX.getG h.ok hg hi;have hi':(i:Int)<16:=(by omega);have hi1:i+1<=16:=hi;have hw:=wr (n:=(i:Int)+1) (by omega) (by omega);simp[-getElem?_pos,e0,e5,e8,e9,hi',hi,hi1,hXl,zQ hx1];refine qc.acall (V7 c hx.self ht hx2) ?_;rintro v ⟨H2,T2⟩ ⟨d2,y,rfl,hxx,hg2,hy,hv2⟩;dsimp only at hv2;simp[-getElem?_pos,e0,e5,e8,e9,hw];exact hR _ _ ⟨by simp[e0],by simp[e8],by simp,d2,y,by simp,hx.call hxx,hg.trans hg2,hy,fun b=>by rw[hv2,hv,hx3];rfl⟩
 . rintro ev ⟨H1,T1⟩ ⟨e0,e8,e9,d1,t,e5,hx,hg,ht,hv⟩;simp[-getElem?_pos,e0,e5,e8,e9];exact⟨d1,t,rfl,hx,hg,ht,hv⟩
theorem qiR (n i:Nat)(hn:n<2 ^ 63):zM .and .i64 ((n:Int).fdiv (2 ^ i)) 1=some (.int .i64 ((if n.testBit i=true then 1 else 0:Nat):Int)):=by
 have h1:((n:Int).fdiv (2 ^ i))=((n / 2 ^ i:Nat):Int):=by rw[qqW _ (Int.pow_nonneg (by omega))];simp
 have h2:n / 2 ^ i<2 ^ 64:=by have:=qrE n (2 ^ i);omega
 have h3:n / 2 ^ i % 2=if n.testBit i=true then 1 else 0:=by
  rw[Nat.testBit_eq_decide_div_mod_eq];have:=Nat.mod_two_eq_zero_or_one (n / 2 ^ i);rcases this with h|h<;>simp[h]
 rw[h1];generalize n / 2 ^ i=m at *;have h4:(BitVec.ofInt 64 (m:Int) &&& BitVec.ofInt 64 1).toNat=m % 2:=by
  rw[BitVec.ofInt_natCast,show BitVec.ofInt 64 1=1#64 from rfl,BitVec.toNat_and,BitVec.toNat_ofNat,BitVec.toNat_ofNat,qqP h2];exact Nat.and_one_is_mod _
 show some (AV.int .i64 (IntKind.i64.wrap ((BitVec.ofInt 64 (m:Int) &&& BitVec.ofInt 64 1).toNat:Int)))=_;rw[h4,h3];split<;>rfl
theorem jS (n:Nat)(hn:n<65536):Pure Tryz.prog GG 178 [.int .i64 (n:Int)] (.agg (qq ((List.range 16).map fun k=>if n.testBit k=true then 1 else 0))):=by
 refine Pure.k qe Tryz.func178 rfl (by kernel_rfl) ?_;simp[-getElem?_pos];refine yV 16 (fun i ev U=>ev 0=.int .i64 (n:Int)/\ev 2=.ptr 0 0/\ev 3=.ptr 1 0/\ev 5=.int .i64 (i:Int) /\
  ∃ W Z,W.length=16/\U=⟨[.cells Z,.cells (qq W)],[]⟩/\Z.length=16/\∀ k,k<i->W[k]?=some (if n.testBit k=true then 1 else 0)) ?_ ?_ ?_
 . exact⟨by simp,by simp,by simp,by simp,List.replicate 16 0,_,by simp,rfl,rfl,fun k hk=>absurd hk (by omega)⟩
 . rintro i ev U R hR hi ⟨e0,e2,e3,e5,W,Z,hW,rfl,hZ,hb⟩;have hi':(i:Int)<16:=(by omega);have hi1:i+1<=16:=hi;have hw:=wr (n:=(i:Int)+1) (by omega) (by omega);have hmin:min i 64=i:=(by omega);have hneg:¬ (i:Int)<0:=(by omega);have hand:=qiR n i (by omega);obtain⟨v,hv⟩:∃ v:Nat,v=if n.testBit i=true then 1 else 0:=⟨_,rfl⟩
   rw[<- hv]at hand;simp[-getElem?_pos,-zM,qdl,V9,e0,e2,e3,e5,hi',hi,hi1,hW,hmin,IntKind.bits,hand,hneg];refine hR _ _ ⟨by simp[e0],by simp[e2],by simp[e3],by simp[hw],W.set i v,Z,by simp[hW],by simp[yz],hZ,fun k hk=>?_⟩;by_cases hki:k=i
   . subst hki;rw[qo2 (by omega),hv]
   . rw[qoY (Ne.symm hki)];exact hb k (by omega)
 . rintro ev U ⟨e0,e2,e3,e5,W,Z,hW,rfl,hZ,hb⟩;have:W=(List.range 16).map fun k=>if n.testBit k=true then 1 else 0:=by
    apply qpL;intro k;by_cases hk:k<16
    . rw[hb k hk];simp[hk]
    . rw[qpt (by omega),qpt (by simp;omega)]
   rw[<- this];simp[-getElem?_pos,e0,e2,e3,e5,hW,qk hW,zd hW hZ,hZ]
end
end
section
section
variable {c:Bc}{d:List Nd}{H:List Blk}{T:List (Option Nat)}
def qlR (x y:Nat->Bool)(c:Bool)(k:Nat):Bool:=(x k ^^ y k) ^^ Vt x y c k
def qjP:List (Nat×Sch×List Nat):=[(5,.step 0 [8,7] (.step 1 [8,7,3,2] (.step 2 [8,7,3] (.step 3 [8,7] (.step 4 [8,7,6,5] (.step 5 [8,7,6] (.step 6 [8,7] (.step 7 [8] (.step 8 [] (.done))))))))),[7]),(8,.step 0 [8,7] (.step 1 [8,7,3,2] (.step 2 [8,7,3] (.step 3 [8,7] (.step 4 [8,7,6,5] (.step 5 [8,7,6] (.step 6 [8,7] (.step 7 [8] (.step 8 [] (.done))))))))),[7])]
theorem qcT (h:BX c H d H){X Y:List Nat}(hX:qU d X)(hY:qU d Y){cn:Nat}(hc:cn<d.length) :
 qg Tryz.prog (XG c) 237 [.ptr c.B 0,.agg (qq X),.agg (qq Y),.int .i64 (cn:Int)] ⟨H,T⟩ (BQ c d H fun b=>qlR (qn d b X) (qn d b Y) (evD d b cn)):=by
 refine qg.kO ⟨false,qjP,[],[]⟩ qe Tryz.func237 rfl (by kernel_rfl) ?_;have hXl:=hX.1;have hYl:=hY.1;simp[-getElem?_pos,ze];refine yV 16 (fun i ev U=>ev 0=.ptr c.B 0/\ev 5=.ptr H.length 0/\ev 6=.ptr (H.length+1) 0/\ev 8=.ptr (H.length+2) 0/\ev 9=.ptr (H.length+3) 0/\ev 14=.int .i64 (i:Int) /\
  ∃ d' W cn',ev 3=.int .i64 (cn':Nat)/\BX c H d' U.H/\qV d d'/\qU d' W/\cn' < d'.length/\U.H[H.length]?=some (.cells (qq X))/\U.H[H.length+1]?=some (.cells (qq Y))/\(∃ Z,Z.length=16/\U.H[H.length+2]?=some (.cells Z))/\U.H[H.length+3]?=some (.cells (qq W)) /\
   (i<=15->∀ b,evD d' b cn'=Vt (qn d b X) (qn d b Y) (evD d b cn) i) /\
   ∀ b k,k<i->qn d' b W k=qlR (qn d b X) (qn d b Y) (evD d b cn) k) ?_ ?_ ?_
 . refine⟨by simp,by simp,by simp,by simp,by simp,by simp,d,q9,cn,by simp,h.app _,qV.refl d,y9 h.ok,hc,lk0,lk1,⟨_,qO,lk2⟩,lk3,fun _ b=>rfl,fun b k hk=>absurd hk (by omega)⟩
 . rintro i ev ⟨H1,T1⟩ R hR hi ⟨e0,e5,e6,e8,e9,e14,d1,W,cn1,e3,hx,hg,hW,hc1,hHX,hHY,⟨Z,hZ,hHZ⟩,hHW,hcar,hb⟩;obtain⟨x,hx1,hx2,hx3⟩:=hX.getG h.ok hg hi;obtain⟨y,hy1,hy2,hy3⟩:=hY.getG h.ok hg hi;simp only at hx hHX hHY hHZ hHW;have hWl:=hW.1;have hi':(i:Int)<16:=(by omega);have hi1:i+1<=16:=hi;have hdx:=zQ hx1;have hdy:=zQ hy1;have hw:=wr (n:=(i:Int)+1) (by omega) (by omega);simp[-getElem?_pos,e0,e3,e5,e6,e8,e9,e14,hi',hi,hi1];rw[qI rfl];simp[-getElem?_pos,qP,e0,e3,e5,e6,e8,e9,e14,hi',hi,hi1,hHX,hHY,hXl,hYl,hdx,hdy];refine qc.acall (Vu c hx.self hx2 hy2) ?_;rintro v ⟨H2,T2⟩ ⟨d2,z,rfl,hxx,hg2,hz,hv2⟩;dsimp only at hv2;have hk:∀ j,H.length+j≠c.B:=fun j=>(h.at (by omega)).1
   have hX2:=hxx.loc hHX (hk 0);have hY2:=hxx.loc hHY (hk 1);have hZ2:=hxx.loc hHZ (hk 2);have hW2:=hxx.loc hHW (hk 3);have hx2':=hx.call hxx;have hc2:=qpc hc1 hg2.len;simp[-getElem?_pos,e0,e3,e5,e6,e8,e9,e14,hi',hi,hi1];refine qc.acall (Vu c hx2'.self hz hc2) ?_;rintro v ⟨H3,T3⟩ ⟨d3,o,rfl,hxx3,hg3,ho,hv3⟩;dsimp only at hv3;have hX3:=hxx3.loc hX2 (hk 0);have hY3:=hxx3.loc hY2 (hk 1);have hZ3:=hxx3.loc hZ2 (hk 2);have hW3:=hxx3.loc hW2 (hk 3);have hx3':=hx2'.call hxx3;have hl3:=(qoX.1 hW3).1;have hx4:=hx3'.set (k:=H.length+3) (by omega) (.cells (qq (W.set i o)));have hX4:(H3.set (H.length+3) (.cells (qq (W.set i o))))[H.length]?=some (.cells (qq X)):=(by rw[qoY (by omega)];exact hX3);have hY4:(H3.set (H.length+3) (.cells (qq (W.set i o))))[H.length+1]?=some (.cells (qq Y)):=(by rw[qoY (by omega)];exact hY3);have hZ4:(H3.set (H.length+3) (.cells (qq (W.set i o))))[H.length+2]?=some (.cells Z):=(by rw[qoY (by omega)];exact hZ3);have hW4:(H3.set (H.length+3) (.cells (qq (W.set i o))))[H.length+3]?=some (.cells (qq (W.set i o))):=qo2 hl3;have hg3':=hg.trans (hg2.trans hg3);have hWok:=(hW.grown (hg2.trans hg3)).set (k:=i) ho;have hcar1:=hcar (by omega);have hhv:∀ b,evD d2 b z=(qn d b X i ^^ qn d b Y i):=fun b=>by rw[hv2,hx3,hy3]
   have hov:∀ b,evD d3 b o=qlR (qn d b X) (qn d b Y) (evD d b cn) i:=fun b=>by
    rw[hv3,hhv,hg2.ev hx.ok b hc1,hcar1];rfl
   have hbits:∀ b k,k<i+1->qn d3 b (W.set i o) k=qlR (qn d b X) (qn d b Y) (evD d b cn) k:=fun b k hk=>by
    rw[kZ (by omega)];by_cases hki:k=i
    . subst hki;rw[if_pos rfl,hov]
    . rw[if_neg hki,zx hx.ok (hg2.trans hg3) hW b (by omega),hb b k (by omega)]
   by_cases h15:i<15
   . have h15':(i:Int)<15:=(by omega);simp[-getElem?_pos,e0,e3,e5,e6,e8,e9,e14,hi',hi,hi1,hW3,hWl,yz,h15'];generalize H3.set (H.length+3) (.cells (qq (W.set i o)))=H4 at *;have hx2'':x<d3.length:=qpc hx2 (hg2.trans hg3).len;have hy2'':y<d3.length:=qpc hy2 (hg2.trans hg3).len;rw[qI rfl];simp[-getElem?_pos,qP,e0,e3,e5,e6,e8,e9,e14,hi',hi,hi1,hX4,hY4,hXl,hYl,hdx,hdy];refine qc.acall (v9 c hx4.self hx2'' hy2'') ?_;rintro v ⟨H5,T5⟩ ⟨d5,g,rfl,hxx5,hg5,hgl,hv5⟩;dsimp only at hv5;have hx5:=hx4.call hxx5;simp[-getElem?_pos,e0,e3,e5,e6,e8,e9,e14];refine qc.acall (v9 c hx5.self (f:=z) (g:=cn1) (qpc hz (hg3.trans hg5).len) (qpc hc2 (hg3.trans hg5).len)) ?_;rintro v ⟨H6,T6⟩ ⟨d6,hh,rfl,hxx6,hg6,hhl,hv6⟩;dsimp only at hv6;have hx6:=hx5.call hxx6;simp[-getElem?_pos,e0,e3,e5,e6,e8,e9,e14];refine qc.acall (V7 c hx6.self (f:=g) (g:=hh) (qpc hgl hg6.len) hhl) ?_;rintro v ⟨H7,T7⟩ ⟨d7,c7,rfl,hxx7,hg7,hc7,hv7⟩;dsimp only at hv7;have hx7:=hx6.call hxx7;simp[-getElem?_pos,e0,e3,e5,e6,e8,e9,e14,hw];have hgg:=hg5.trans (hg6.trans hg7);have up:∀ {k:Nat} {x:Blk},H4[H.length+k]?=some x->H7[H.length+k]?=some x:=fun {k x} hq=>hxx7.loc (hxx6.loc (hxx5.loc hq (hk k)) (hk k)) (hk k)
     refine hR _ _ ⟨by simp[e0],by simp[e5],by simp[e6],by simp[e8],by simp[e9],by simp,d7,W.set i o,c7,by simp,hx7,hg3'.trans hgg,hWok.grown hgg,hc7,up (k:=0) hX4,up hY4,⟨Z,hZ,up hZ4⟩,up hW4,fun _ b=>?_,fun b k hk=>?_⟩
     . rw[hv7,hg6.ev hx5.ok b hgl,hv5,hv6,(hg3.trans hg5).ev hx2'.ok b hz,(hg3.trans hg5).ev hx2'.ok b hc2,hhv,(hg2.trans hg3).ev hx.ok b hx2,(hg2.trans hg3).ev hx.ok b hy2,hx3,hy3,hg2.ev hx.ok b hc1,hcar1];rfl
     . rw[zx hx4.ok hgg hWok b (by omega),hbits b k hk]
   . have h15':¬ (i:Int)<15:=(by omega);simp[-getElem?_pos,e0,e3,e5,e6,e8,e9,e14,hi',hi,hi1,hW3,hWl,yz,h15',hw];generalize H3.set (H.length+3) (.cells (qq (W.set i o)))=H4 at *;refine hR _ _ ⟨by simp[e0],by simp[e5],by simp[e6],by simp[e8],by simp[e9],by simp,d3,W.set i o,cn1,by simp[e3],hx4,hg3',hWok,qpc hc2 hg3.len,hX4,hY4,⟨Z,hZ,hZ4⟩,hW4,fun hi=>absurd hi (by omega),hbits⟩
 . rintro ev ⟨H1,T1⟩ ⟨e0,e5,e6,e8,e9,e14,d1,W,cn1,e3,hx,hg,hW,hc1,hHX,hHY,⟨Z,hZ,hHZ⟩,hHW,hcar,hb⟩;simp only at hx hHX hHY hHZ hHW;have hWl:=hW.1;have hHl:=(qoX.1 hHZ).1;simp[-getElem?_pos,e0,e8,e9,e14,hHW,hHZ,hWl,qk hWl,zd hWl hZ,hZ,hHl];exact⟨d1,W,rfl,hx.set (by omega) _,hg,hW,fun b k hk=>hb b k hk⟩
end
end
section
theorem Zz {x x' y y':Nat->Bool}{c:Bool}:∀ {k:Nat},(∀ j,j<k->x j=x' j)->(∀ j,j<k->y j=y' j)->Vt x y c k=Vt x' y' c k
 | 0,_,_=>rfl
 | k+1,hx,hy=>by
  unfold Vt;rw[hx k (by omega),hy k (by omega),Zz (k:=k) (fun j hj=>hx j (by omega)) (fun j hj=>hy j (by omega))]
section
variable {c:Bc}{d:List Nd}{H:List Blk}{T:List (Option Nat)}
theorem z8 (n:Nat):Pure Tryz.prog GG 180 [.int .i64 (n:Int)] (.agg (qq (n::List.replicate 15 0))):=by
 refine Pure.k qe Tryz.func180 rfl (by kernel_rfl) ?_;simp[-getElem?_pos,zl,zP];exact zn.refl _
def qjL:List (Nat×Sch×List Nat):=[(5,.step 0 [13,12] (.step 1 [13,12] (.step 2 [13,12,11] (.step 3 [13,12,11,10] (.step 4 [13,12,11,10,6,5] (.step 5 [13,12,11,10,6] (.step 6 [13,12,11,10] (.step 7 [13,12,11,10,9,8] (.step 8 [13,12,11,10,9] (.step 9 [13,12,11,10] (.step 10 [13,12,11] (.step 11 [13,12] (.step 12 [13] (.step 13 [] (.done)))))))))))))),[10,11,12])]
theorem W6 (h:BX c H d H){X Y:List Nat}(hX:qU d X)(hY:qU d Y) :
 qg Tryz.prog (XG c) 272 [.ptr c.B 0,.agg (qq X),.agg (qq Y)] ⟨H,T⟩ (NQ c d H fun b=>eqT (qn d b X) (qn d b Y) 16):=by
 refine qg.kO ⟨false,qjL,[],[]⟩ qe Tryz.func272 rfl (by kernel_rfl) ?_;have hXl:=hX.1;have hYl:=hY.1;have hk:∀ j,H.length+j≠c.B:=fun j=>(h.at (by omega)).1
 simp[-getElem?_pos,ze];refine yV 16 (fun i ev U=>ev 0=.ptr c.B 0/\ev 4=.ptr H.length 0/\ev 5=.ptr (H.length+1) 0/\ev 9=.int .i64 (i:Int) /\
  ∃ d' t,ev 7=.int .i64 (t:Nat)/\BX c H d' U.H/\qV d d'/\t<d'.length/\U.H[H.length]?=some (.cells (qq X))/\U.H[H.length+1]?=some (.cells (qq Y)) /\
   ∀ b,evD d' b t=eqT (qn d b X) (qn d b Y) i) ?_ ?_ ?_
 . exact⟨by simp,by simp,by simp,by simp,d,1,by simp,h.app _,qV.refl d,by have:=h.ok.two;omega,lk0,lk1,fun b=>qco h.ok b⟩
 . rintro i ev ⟨H1,T1⟩ R hR hi ⟨e0,e4,e5,e9,d1,t,e7,hx,hg,ht,hHX,hHY,hv⟩;obtain⟨x,hx1,hx2,hx3⟩:=hX.getG h.ok hg hi;obtain⟨y,hy1,hy2,hy3⟩:=hY.getG h.ok hg hi;simp only at hx hHX hHY;have hi':(i:Int)<16:=(by omega);have hi1:i+1<=16:=hi;have hdx:=zQ hx1;have hdy:=zQ hy1;have hw:=wr (n:=(i:Int)+1) (by omega) (by omega);simp[-getElem?_pos,e0,e4,e5,e7,e9,hi',hi,hi1];rw[qI rfl];simp[-getElem?_pos,qP,e0,e4,e5,e7,e9,hi',hi,hi1,hHX,hHY,hXl,hYl,hdx,hdy];refine qc.acall (Vu c hx.self hx2 hy2) ?_;rintro v ⟨H2,T2⟩ ⟨d2,z,rfl,hxx2,hg2,hz,hv2⟩;dsimp only at hv2;have hx2':=hx.call hxx2;simp[-getElem?_pos,qP,e0,e4,e5,e7,e9];refine qc.acall (v7 c hx2'.self hz) ?_;rintro v ⟨H3,T3⟩ ⟨d3,u,rfl,hxx3,hg3,hu,hv3⟩;dsimp only at hv3;have hx3':=hx2'.call hxx3;simp[-getElem?_pos,qP,e0,e4,e5,e7,e9];have hg23:=hg2.trans hg3;refine qc.acall (v9 c hx3'.self (f:=t) (g:=u) (qpc ht hg23.len) hu) ?_;rintro v ⟨H4,T4⟩ ⟨d4,w,rfl,hxx4,hg4,hw4,hv4⟩;dsimp only at hv4;have hx4':=hx3'.call hxx4;have up:∀ {k:Nat} {x:Blk},H1[H.length+k]?=some x->H4[H.length+k]?=some x:=fun {k x} hq=>hxx4.loc (hxx3.loc (hxx2.loc hq (hk k)) (hk k)) (hk k)
   simp[-getElem?_pos,qP,e0,e4,e5,e7,e9,hw];refine hR _ _ ⟨by simp[e0],by simp[e4],by simp[e5],by simp,d4,w,by simp,hx4',hg.trans (hg23.trans hg4),hw4,up (k:=0) hHX,up hHY,fun b=>?_⟩;rw[hv4,hg23.ev hx.ok b ht,hv3,hv2,hv,hx3,hy3];rfl
 . rintro ev ⟨H1,T1⟩ ⟨e0,e4,e5,e9,d1,t,e7,hx,hg,ht,hHX,hHY,hv⟩;simp[-getElem?_pos,e0,e7,e9];exact⟨d1,t,rfl,hx,hg,ht,hv⟩
def qjO:List (Nat×Sch×List Nat):=[(5,.step 0 [10,9] (.step 1 [10,9,5] (.step 2 [10,9,5,4,3] (.step 3 [10,9,5,4] (.step 4 [10,9,5] (.step 6 [10,9,8,7] (.step 7 [10,9,8] (.fork (.cons 5 (.step 8 [10,9] (.step 9 [10] (.step 10 [] (.done)))) (.cons 8 (.step 5 [10,9] (.step 9 [10] (.step 10 [] (.done)))) (.nil)))))))))),[5,9]),(6,.step 0 [13,12] (.step 1 [13,12,10] (.step 2 [13,12,10,9] (.step 3 [13,12,10,9,5,4] (.step 4 [13,12,10,9,5] (.step 5 [13,12,10,9] (.step 6 [13,12,10,9,8,7] (.step 7 [13,12,10,9,8] (.step 8 [13,12,10,9] (.step 11 [13,12] (.step 9 [13,12,10] (.step 10 [13,12] (.step 12 [13] (.step 13 [] (.done)))))))))))))),[9,10,12])]
theorem WS (h:BX c H d H){X Y:List Nat}(hX:qU d X)(hY:qU d Y) :
 qg Tryz.prog (XG c) 238 [.ptr c.B 0,.agg (qq X),.agg (qq Y)] ⟨H,T⟩ (NQ c d H fun b=>qb5 (qn d b X) (qn d b Y) 16):=by
 refine qg.kO ⟨false,qjO,[],[]⟩ qe Tryz.func238 rfl (by kernel_rfl) ?_;have hXl:=hX.1;have hYl:=hY.1;have hk:∀ j,H.length+j≠c.B:=fun j=>(h.at (by omega)).1
 simp[-getElem?_pos,ze];refine yV 16 (fun i ev U=>ev 0=.ptr c.B 0/\ev 4=.ptr H.length 0/\ev 5=.ptr (H.length+1) 0/\ev 11=.int .i64 (i:Int) /\
  ∃ d' t,ev 7=.int .i64 (t:Nat)/\BX c H d' U.H/\qV d d'/\t<d'.length/\U.H[H.length]?=some (.cells (qq X))/\U.H[H.length+1]?=some (.cells (qq Y)) /\
   ∀ b,evD d' b t=qb5 (qn d b X) (qn d b Y) i) ?_ ?_ ?_
 . exact⟨by simp,by simp,by simp,by simp,d,0,by simp,h.app _,qV.refl d,by have:=h.ok.two;omega,lk0,lk1,fun b=>Je h.ok b⟩
 . rintro i ev ⟨H1,T1⟩ R hR hi ⟨e0,e4,e5,e11,d1,t,e7,hx,hg,ht,hHX,hHY,hv⟩;obtain⟨x,hx1,hx2,hx3⟩:=hX.getG h.ok hg hi;obtain⟨y,hy1,hy2,hy3⟩:=hY.getG h.ok hg hi;simp only at hx hHX hHY;have hi':(i:Int)<16:=(by omega);have hi1:i+1<=16:=hi;have hdx:=zQ hx1;have hdy:=zQ hy1;have hw:=wr (n:=(i:Int)+1) (by omega) (by omega);simp[-getElem?_pos,e0,e4,e5,e7,e11,hi',hi,hi1];rw[qI rfl];simp[-getElem?_pos,qP,e0,e4,e5,e7,e11,hi',hi,hi1,hHX,hHY,hXl,hYl,hdx,hdy];have key:=v7 c hx.self hx2 (T:=T1);refine⟨qc.acall key ?_,qc.acall key ?_⟩
   all_goals
    rintro v ⟨H2,T2⟩ ⟨d2,z,rfl,hxx2,hg2,hz,hv2⟩;dsimp only at hv2;have hx2':=hx.call hxx2;have hX2:=hxx2.loc hHX (hk 0);have hY2:=hxx2.loc hHY (hk 1);dsimp only at hX2 hY2;simp[-getElem?_pos,qP,e0,e4,e5,e7,e11,hi',hi,hi1,hX2,hY2,hXl,hYl,hdx,hdy];refine qc.acall (v9 c hx2'.self (f:=z) (g:=y) hz (qpc hy2 hg2.len)) ?_;rintro v ⟨H3,T3⟩ ⟨d3,u,rfl,hxx3,hg3,hu,hv3⟩;dsimp only at hv3;have hx3':=hx2'.call hxx3;have hX3:=hxx3.loc hX2 (hk 0);have hY3:=hxx3.loc hY2 (hk 1);dsimp only at hX3 hY3;have hg23:=hg2.trans hg3;simp[-getElem?_pos,e0,e4,e5,e7,e11];rw[qI rfl];simp[-getElem?_pos,qP,e0,e4,e5,e7,e11,hi',hi,hi1,hX3,hY3,hXl,hYl,hdx,hdy];refine qc.acall (Vu c hx3'.self (f:=x) (g:=y) (qpc hx2 hg23.len) (qpc hy2 hg23.len)) ?_;rintro v ⟨H4,T4⟩ ⟨d4,q,rfl,hxx4,hg4,hq,hv4⟩;dsimp only at hv4;have hx4':=hx3'.call hxx4;simp[-getElem?_pos,qP,e0,e4,e5,e7,e11];refine qc.acall (v7 c hx4'.self hq) ?_;rintro v ⟨H5,T5⟩ ⟨d5,nq,rfl,hxx5,hg5,hnq,hv5⟩;dsimp only at hv5;have hx5':=hx4'.call hxx5;simp[-getElem?_pos,qP,e0,e4,e5,e7,e11];have hg35:=hg4.trans hg5;have hg15:=hg23.trans hg35;refine qc.acall (v9 c hx5'.self (f:=nq) (g:=t) hnq (qpc ht hg15.len)) ?_;rintro v ⟨H6,T6⟩ ⟨d6,a6,rfl,hxx6,hg6,ha6,hv6⟩;dsimp only at hv6;have hx6':=hx5'.call hxx6;simp[-getElem?_pos,qP,e0,e4,e5,e7,e11];have hg36:=hg35.trans hg6;refine qc.acall (V7 c hx6'.self (f:=u) (g:=a6) (qpc hu hg36.len) ha6) ?_;rintro v ⟨H7,T7⟩ ⟨d7,a7,rfl,hxx7,hg7,ha7,hv7⟩;dsimp only at hv7;have hx7':=hx6'.call hxx7;have up:∀ {k:Nat} {x:Blk},H3[H.length+k]?=some x->H7[H.length+k]?=some x:=fun {k x} hq=>hxx7.loc (hxx6.loc (hxx5.loc (hxx4.loc hq (hk k)) (hk k)) (hk k)) (hk k)
    simp[-getElem?_pos,qP,e0,e4,e5,e7,e11,hw];refine hR _ _ ⟨by simp[e0],by simp[e4],by simp[e5],by simp,d7,a7,by simp,hx7',hg.trans (hg15.trans (hg6.trans hg7)),ha7,up (k:=0) hX3,up hY3,fun b=>?_⟩;rw[hv7,hg36.ev hx3'.ok b hu,hv3,hv2,hg2.ev hx.ok b hy2,hv6,hv5,hv4,hg23.ev hx.ok b hx2,hg23.ev hx.ok b hy2,hg15.ev hx.ok b ht,hv,hx3,hy3];rfl
 . rintro ev ⟨H1,T1⟩ ⟨e0,e4,e5,e11,d1,t,e7,hx,hg,ht,hHX,hHY,hv⟩;simp[-getElem?_pos,e0,e7,e11];exact⟨d1,t,rfl,hx,hg,ht,hv⟩
def qjV:List (Nat×Sch×List Nat):=[(1,.step 0 [6,5] (.step 2 [6,5,4] (.step 3 [6,5,4] (.fork (.cons 1 (.step 4 [6,5] (.step 5 [6] (.step 6 [] (.done)))) (.cons 4 (.step 1 [6,5] (.step 5 [6] (.step 6 [] (.done)))) (.nil)))))),[4,5])]
theorem QZ (h:BX c H d H){X Y:List Nat}(hX:qU d X)(hY:qU d Y) :
 qg Tryz.prog (XG c) 183 [.ptr c.B 0,.agg (qq X),.agg (qq Y)] ⟨H,T⟩ (BQ c d H fun b=>qlR (qn d b X) (fun k=>!qn d b Y k) true):=by
 refine qg.kO ⟨false,qjV,[],[]⟩ qe Tryz.func183 rfl (by kernel_rfl) ?_;have hXl:=hX.1;have hYl:=hY.1;have hk:∀ j,H.length+j≠c.B:=fun j=>(h.at (by omega)).1
 simp[-getElem?_pos,ze];rw[qI rfl,je];have hx1:=h.app [.cells (qq X),.cells (qq Y),.cells (qq q9)];have hHX:(H++[Blk.cells (qq X),.cells (qq Y),.cells (qq q9)])[H.length]?=some (.cells (qq X)):=lk0;have hHY:(H++[Blk.cells (qq X),.cells (qq Y),.cells (qq q9)])[H.length+1]?=some (.cells (qq Y)):=lk1;have hHZ:(H++[Blk.cells (qq X),.cells (qq Y),.cells (qq q9)])[H.length+2]?=some (.cells (qq q9)):=lk2;generalize H++[Blk.cells (qq X),.cells (qq Y),.cells (qq q9)]=H1 at *;simp[-getElem?_pos,qP,hHX,hHY,hXl,hYl,qk hXl,qk hYl];have key:=Q2 hx1.self hY (T:=T);refine⟨qc.acall key ?_,qc.acall key ?_⟩
 all_goals
  rintro v ⟨H2,T2⟩ ⟨d2,W,rfl,hxx2,hg2,hW,hv2⟩;dsimp only at hv2;have hx2':=hx1.call hxx2;have hX2:=hxx2.loc hHX (hk 0);have hZ2:=hxx2.loc hHZ (hk 2);dsimp only at hX2 hZ2;simp[-getElem?_pos,qP,hX2,hXl,qk hXl];have ht:=hx2'.ok.two;refine qc.acall (qcT hx2'.self (hX.grown hg2) hW (cn:=1) (by omega)) ?_;rintro v ⟨H3,T3⟩ ⟨d3,V,rfl,hxx3,hg3,hV,hv3⟩;dsimp only at hv3;have hx3':=hx2'.call hxx3;have hZ3:=hxx3.loc hZ2 (hk 2);dsimp only at hZ3;have hVl:=hV.1;have hl3:=(qoX.1 hZ3).1;simp[-getElem?_pos,qP,hZ3,hVl,qk hVl,zd hVl (show (qq q9).length=16 from rfl),qO,hl3];refine⟨d3,V,rfl,hx3'.set (by omega) _,hg2.trans hg3,hV,fun b k hk=>?_⟩;rw[hv3 b k hk];unfold qlR;rw[hv2 b k hk,zx h.ok hg2 hX b hk,qco hx2'.ok];congr 1;exact Zz (fun j hj=>zx h.ok hg2 hX b (by omega)) (fun j hj=>hv2 b j (by omega))
end
end
section
def UQ (c:Bc)(d:List Nd)(H:List Blk)(v:(Nat->Bool)->Nat)(r:AV)(U':St):Prop :=
 ∃ d' W,r=.agg (qq W)/\BX c H d' U'.H/\qV d d'/\qU d' W/\∀ b,zh (qn d' b W) 16=v b
theorem qd1:((List.range 16).map fun k=>if Nat.testBit 0 k=true then 1 else 0)=q9:=by decide
theorem ky {d d':List Nd}(hd:DagOk d)(hg:qV d d'){w:List Nat}(h:qU d w)(b:Nat->Bool):zh (qn d' b w) 16=zh (qn d b w) 16:=zi fun k hk=>zx hd hg h b hk
section
variable {c:Bc}{d:List Nd}{H:List Blk}{T:List (Option Nat)}
def qjN:List (Nat×Sch×List Nat):=[(9,.step 0 [12,11] (.step 1 [12,11,10] (.step 2 [12,11,10,6,5,4] (.step 3 [12,11,10,6,5,4] (.step 4 [12,11,10,6,5] (.step 5 [12,11,10,6] (.step 6 [12,11,10] (.step 7 [12,11,10,9,8] (.step 8 [12,11,10,9] (.step 9 [12,11,10] (.step 10 [12,11] (.step 11 [12] (.step 12 [] (.done))))))))))))),[10])]
theorem qeJ (h:BX c H d H){X Y:List Nat}(hX:qU d X)(hY:qU d Y) :
 qg Tryz.prog (XG c) 241 [.ptr c.B 0,.agg (qq X),.agg (qq Y)] ⟨H,T⟩ (UQ c d H fun b=>qnZ (zh (qn d b X) 16) (qn d b Y) 16 16):=by
 refine qg.kO ⟨false,qjN,[],[]⟩ qe Tryz.func241 rfl (by kernel_rfl) ?_;have hXl:=hX.1;have hYl:=hY.1;have hk:∀ j,H.length<=j->j≠c.B:=fun j hj=>(h.at hj).1
 have hc0:=jS 0 (by omega);rw[qd1]at hc0;simp only[qqg]at hc0;simp[-getElem?_pos,ze];refine qc.call hc0 (by simp) ?_;simp[-getElem?_pos,ze,je,zd (w:=q9) rfl (show (qq q9).length=16 from rfl),qO];refine yV 16 (fun i ev U=>ev 0=.ptr c.B 0/\ev 4=.ptr H.length 0/\ev 5=.ptr (H.length+1) 0/\ev 6=.ptr (H.length+2) 0/\ev 7=.ptr (H.length+3) 0/\ev 12=.int .i64 (i:Int) /\
  ∃ d' S,BX c H d' U.H/\qV d d'/\qU d' S/\U.H[H.length]?=some (.cells (qq X))/\U.H[H.length+1]?=some (.cells (qq Y))/\U.H[H.length+2]?=some (.cells (qq q9))/\U.H[H.length+3]?=some (.cells (qq S)) /\
   ∀ b,zh (qn d' b S) 16=qnZ (zh (qn d b X) 16) (qn d b Y) 16 i) ?_ ?_ ?_
 . refine⟨by simp,by simp,by simp,by simp,by simp,by simp,d,q9,h.app _,qV.refl d,y9 h.ok,lk0,lk1,lk2,lk3,fun b=>?_⟩
   . rw[yJ fun k _=>yC h.ok b k];rfl
 . rintro i ev ⟨H1,T1⟩ R hR hi ⟨e0,e4,e5,e6,e7,e12,d1,S,hx,hg,hS,hHX,hHY,hHZ,hHS,hv⟩;obtain⟨y,hy1,hy2,hy3⟩:=hY.getG h.ok hg hi;dsimp only at hx hHX hHY hHZ hHS;have hi':(i:Int)<16:=(by omega);have hi1:i+1<=16:=hi;have hdy:=zQ hy1;have hw:=wr (n:=(i:Int)+1) (by omega) (by omega);have hHl:=hx.kp.1;simp[-getElem?_pos,e0,e4,e5,e6,e7,e12,hi',hi,hi1,je];have hx0:=hx.app [.cells (qq q9)];have aHX:=qa hHX [.cells (qq q9)];have aHY:=qa hHY [.cells (qq q9)];have aHZ:=qa hHZ [.cells (qq q9)];have aHS:=qa hHS [.cells (qq q9)];have aHP:(H1++[Blk.cells (qq q9)])[H1.length]?=some (.cells (qq q9)):=lk0;have hSl:=(qoX.1 hHS).1;have hPn:H.length+3<H1.length:=hSl;generalize H1.length=N at *;generalize H1++[Blk.cells (qq q9)]=H1' at *;refine qJ.gen (fun n ev U=>ev 0=.ptr c.B 0/\ev 4=.ptr H.length 0/\ev 5=.ptr (H.length+1) 0/\ev 6=.ptr (H.length+2) 0/\ev 7=.ptr (H.length+3) 0/\ev 8=.int .i64 (i:Int)/\ev 9=.ptr N 0/\ev 12=.int .i64 (i:Int) /\
    ∃ j d' P,n=16-j/\i<=j/\j<=16/\ev 10=.int .i64 (j:Int)/\BX c H d' U.H/\qV d1 d'/\qU d' P/\U.H[H.length]?=some (.cells (qq X))/\U.H[H.length+1]?=some (.cells (qq Y))/\U.H[H.length+2]?=some (.cells (qq q9))/\U.H[H.length+3]?=some (.cells (qq S))/\U.H[N]?=some (.cells (qq P)) /\
    ∀ b k,k<16->qn d' b P k=(decide (k<j)&&(qn d b Y i&&(decide (i<=k)&&qn d b X (k-i))))) (16-i) ?_ ?_
   . refine⟨by simp[e0],by simp[e4],by simp[e5],by simp[e6],by simp[e7],by simp,by simp,by simp[e12],i,d1,q9,rfl,qo7 _,by omega,by simp,hx0,qV.refl d1,y9 hx.ok,aHX,aHY,aHZ,aHS,aHP,fun b k hk=>?_⟩;rw[yC hx.ok];by_cases h1:k<i
     . have:¬ i<=k:=by omega
       simp[this]
     . simp[h1]
   . rintro n ev ⟨H2,T2⟩ R2 hR2 ⟨e0,e4,e5,e6,e7,e8,e9,e12,j,d2,P,rfl,hij,hj16,e10,hx2,hg2,hP,bX,bY,bZ,bS,bP,hb⟩;dsimp only at hx2 bX bY bZ bS bP;have hPl:=hP.1;have hSl2:=hS.1;have hg02:=hg.trans hg2;by_cases hj:j<16
     . have hj':(j:Int)<16:=(by omega);have hj1:j+1<=16:=hj;have hwj:=wr (n:=(j:Int)+1) (by omega) (by omega);have hwd:=wr (n:=(j:Int)-i) (by omega) (by omega);have hsub:(j:Int)-i=((j-i:Nat):Int):=(by omega);rw[hsub]at hwd;have hjl:j-i<16:=(by omega);have hjl1:j-i+1<=16:=(by omega);have hjl2:((j-i:Nat):Int)<16:=(by omega);obtain⟨x,hx1,hx2',hx3⟩:=hX.getG h.ok hg02 hjl;have hdx:=zQ hx1;have hyl:y<d2.length:=qpc hy2 hg2.len;have hki:¬ j<i:=(by omega);generalize hm:j-i=m at *;simp[-getElem?_pos,e0,e4,e5,e6,e7,e8,e9,e10,e12,hj',hj];rw[qI rfl];simp[-getElem?_pos,qP,e0,e4,e5,e6,e7,e8,e9,e10,e12,hi',hi,hi1,hj',hj,hj1,hsub,hwd,hjl,hjl1,hjl2,bX,bY,hXl,hYl,hdx,hdy];refine qc.acall (v9 c hx2.self hx2' hyl) ?_;rintro v ⟨H3,T3⟩ ⟨d3,z,rfl,hxx3,hg3,hz,hv3⟩;dsimp only at hv3;have hx3':=hx2.call hxx3;have up:∀ {k:Nat} {x:Blk},H.length<=k->H2[k]?=some x->H3[k]?=some x:=fun {k x} hl hq=>hxx3.loc hq (hk k hl)
       have cP:=up (by omega) bP;have hPl3:=(qoX.1 cP).1;simp[-getElem?_pos,qP,e0,e4,e5,e6,e7,e8,e9,e10,e12,hj',hj,hj1,cP,hPl,yz,hwj];refine hR2 (16-(j+1)) _ _ (by omega) ⟨by simp[e0],by simp[e4],by simp[e5],by simp[e6],by simp[e7],by simp[e8],by simp[e9],by simp[e12],j+1,d3,P.set j z,rfl,by omega,by omega,by simp,hx3'.set (by omega) _,hg2.trans hg3,(hP.grown hg3).set hz,?_,?_,?_,?_,qo2 hPl3,fun b k hk=>?_⟩
       . rw[qoY (by omega)];exact up (by omega) bX
       . rw[qoY (by omega)];exact up (by omega) bY
       . rw[qoY (by omega)];exact up (by omega) bZ
       . rw[qoY (by omega)];exact up (by omega) bS
       . rw[kZ (by omega)];by_cases hkj:k=j
         . subst hkj;rw[if_pos rfl,hv3,hx3,hg2.ev hx.ok b hy2,hy3,hm];simp[hij,Bool.and_comm]
         . rw[if_neg hkj,zx hx2.ok hg3 hP b hk,hb b k hk];by_cases h1:k<j
           . have h2:k<j+1:=(by omega);simp[h1,h2]
           . have h2:¬ k<j+1:=(by omega);simp[h1,h2]
     . have hj0:j=16:=(by omega);subst hj0;simp[-getElem?_pos,e0,e4,e5,e6,e7,e8,e9,e10,e12,bS,bP,hSl2,hPl,qk hSl2,qk hPl];have ht:=hx2.ok.two;have hSS:=hS.grown hg2;refine qc.acall (qcT hx2.self hSS hP (cn:=0) (by omega)) ?_;rintro v ⟨H3,T3⟩ ⟨d3,V,rfl,hxx3,hg3,hV,hv3⟩;dsimp only at hv3;have hx3':=hx2.call hxx3;have up:∀ {k:Nat} {x:Blk},H.length<=k->H2[k]?=some x->H3[k]?=some x:=fun {k x} hl hq=>hxx3.loc hq (hk k hl)
       have cS:=up (by omega) bS;have hSl3:=(qoX.1 cS).1;have hVl:=hV.1;simp[-getElem?_pos,e0,e4,e5,e6,e7,e8,e9,e10,e12,cS,hVl,hSl2,zd hVl (show (qq S).length=16 by rw[jo,hSl2]),hw,qk hVl];refine hR _ _ ⟨by simp[e0],by simp[e4],by simp[e5],by simp[e6],by simp[e7],by simp,d3,V,hx3'.set (by omega) _,hg02.trans hg3,hV,?_,?_,?_,qo2 hSl3,fun b=>?_⟩
       . rw[qoY (by omega)];exact up (by omega) bX
       . rw[qoY (by omega)];exact up (by omega) bY
       . rw[qoY (by omega)];exact up (by omega) bZ
       . have hs:zh (qn d3 b V) 16=zh (fun k=>(qn d2 b S k ^^ qn d2 b P k) ^^ Vt (qn d2 b S) (qn d2 b P) false k) 16:=zi fun k hk=>by rw[hv3 b k hk,Je hx2.ok];rfl
         have hp:zh (qn d2 b P) 16=cond (qn d b Y i) ((zh (qn d b X) 16*2 ^ i) % 2 ^ 16) 0:=by
          cases hy:qn d b Y i with
          | true=>
           rw[cond_true,<- qf0];exact zi fun k hk=>by rw[hb b k hk,hy];simp[hk]
          | false=>
           rw[cond_false];exact yJ fun k hk=>by rw[hb b k hk,hy];simp
         rw[hs,ke,hp,ky hx.ok hg2 hS b,hv b];simp[qnZ,b2n]
 . rintro ev ⟨H1,T1⟩ ⟨e0,e4,e5,e6,e7,e12,d1,S,hx,hg,hS,hHX,hHY,hHZ,hHS,hv⟩;dsimp only at hx hHX hHY hHZ hHS;have hSl:=hS.1;have hHl:=(qoX.1 hHZ).1;simp[-getElem?_pos,e0,e6,e7,e12,hHS,hHZ,hSl,qk hSl,zd hSl (show (qq q9).length=16 from rfl),qO,hHl];exact⟨d1,S,rfl,hx.set (by omega) _,hg,hS,hv⟩
end
end
section
section
variable {c:Bc}{d:List Nd}{H:List Blk}{T:List (Option Nat)}
def qjS:List (Nat×Sch×List Nat):=[(4,.step 0 [10,9] (.step 1 [10,9,8] (.step 2 [10,9,8,4,3] (.step 3 [10,9,8,4] (.step 4 [10,9,8] (.step 5 [10,9,8,7,6] (.step 6 [10,9,8,7] (.step 7 [10,9,8] (.step 8 [10,9] (.step 9 [10] (.step 10 [] (.done))))))))))),[8])]
theorem Jn (h:BX c H d H){X Y:List Nat}(hX:qU d X)(hY:qU d Y){g:Nat}{first cap:List AV}{F:(Nat->Bool)->Bool->Bool->Bool}
 (hF:∀ d1 H1 T1 (x y:Nat),BX c H d1 H1->qV d d1->x<d1.length->y<d1.length->qg Tryz.prog (XG c) g (jI first [.int .i64 x,.int .i64 y] cap) ⟨H1,T1⟩ (NQ c d1 H1 fun b=>F b (evD d1 b x) (evD d1 b y))) :
 qg Tryz.prog (XG c) 186 [.agg (qq X),.agg (qq Y),.fn g first cap] ⟨H,T⟩ (BQ c d H fun b k=>F b (qn d b X k) (qn d b Y k)):=by
 refine qg.kO ⟨false,qjS,[],[]⟩ qe Tryz.func186 rfl (by kernel_rfl) ?_;have hXl:=hX.1;have hYl:=hY.1;have hk:∀ j,H.length<=j->j≠c.B:=fun j hj=>(h.at hj).1
 simp[-getElem?_pos,ze,je];refine yV 16 (fun i ev U=>ev 2=.fn g first cap/\ev 3=.ptr H.length 0/\ev 4=.ptr (H.length+1) 0/\ev 6=.ptr (H.length+2) 0/\ev 8=.int .i64 (i:Int) /\
  ∃ d' W,BX c H d' U.H/\qV d d'/\qU d' W/\U.H[H.length]?=some (.cells (qq W))/\U.H[H.length+1]?=some (.cells (qq Y))/\U.H[H.length+2]?=some (.cells (qq q9)) /\
   ∀ b k,k<16->qn d' b W k=if k<i then F b (qn d b X k) (qn d b Y k) else qn d b X k) ?_ ?_ ?_
 . exact⟨by simp,by simp,by simp,by simp,by simp,d,X,h.app _,qV.refl d,hX,lk0,lk1,lk2,fun b k hk=>by simp⟩
 . rintro i ev ⟨H1,T1⟩ R hR hi ⟨e2,e3,e4,e6,e8,d1,W,hx,hg,hW,hHX,hHY,hHZ,hb⟩;obtain⟨x,hx1,hx2,_,hx3⟩:=hW.get hi;obtain⟨y,hy1,hy2,hy3⟩:=hY.getG h.ok hg hi;dsimp only at hx hHX hHY hHZ;have hWl:=hW.1;have hi':(i:Int)<16:=(by omega);have hi1:i+1<=16:=hi;have hdx:=zQ hx1;have hdy:=zQ hy1;have hw:=wr (n:=(i:Int)+1) (by omega) (by omega);simp[-getElem?_pos,e2,e3,e4,e6,e8,hi',hi,hi1];rw[qI rfl];simp[-getElem?_pos,-jI,qP,e2,e3,e4,e6,e8,hi',hi,hi1,hHX,hHY,hWl,hYl,hdx,hdy];refine qc.acall (hF d1 H1 T1 x y hx hg hx2 hy2) ?_;rintro v ⟨H2,T2⟩ ⟨d2,z,rfl,hxx2,hg2,hz,hv2⟩;dsimp only at hv2;have hx2':=hx.call hxx2;have up:∀ {k:Nat} {x:Blk},H.length<=k->H1[k]?=some x->H2[k]?=some x:=fun {k x} hl hq=>hxx2.loc hq (hk k hl)
   have cX:=up (by omega) hHX;have hl2:=(qoX.1 cX).1;simp[-getElem?_pos,qP,e2,e3,e4,e6,e8,hi',hi,hi1,cX,hWl,yz,hw];refine hR _ _ ⟨by simp[e2],by simp[e3],by simp[e4],by simp[e6],by simp,d2,W.set i z,hx2'.set (by omega) _,hg.trans hg2,(hW.grown hg2).set hz,qo2 hl2,?_,?_,fun b k hk=>?_⟩
   . rw[qoY (by omega)];exact up (by omega) hHY
   . rw[qoY (by omega)];exact up (by omega) hHZ
   . rw[kZ (by omega)];by_cases hki:k=i
     . subst hki;have hbk:=hb b k hk;rw[if_neg (by omega)]at hbk;rw[if_pos rfl,if_pos (by omega),hv2,hy3,<- hx3,hbk]
     . rw[if_neg hki,zx hx.ok hg2 hW b hk,hb b k hk];by_cases h1:k<i
       . rw[if_pos h1,if_pos (by omega)]
       . rw[if_neg h1,if_neg (by omega)]
 . rintro ev ⟨H1,T1⟩ ⟨e2,e3,e4,e6,e8,d1,W,hx,hg,hW,hHX,hHY,hHZ,hb⟩;dsimp only at hx hHX hHY hHZ;have hWl:=hW.1;have hHl:=(qoX.1 hHZ).1;simp[-getElem?_pos,e3,e6,e8,hHX,hHZ,hWl,qk hWl,zd hWl (show (qq q9).length=16 from rfl),qO,hHl];exact⟨d1,W,rfl,hx.set (by omega) _,hg,hW,fun b k hk=>by rw[hb b k hk,if_pos hk]⟩
def qjU:List (Nat×Sch×List Nat):=[(5,.step 0 [5,4] (.step 1 [5,4] (.step 2 [5,4,3] (.step 3 [5,4] (.step 4 [5] (.step 5 [] (.done)))))),[4])]
theorem qaa {d:List Nd}(h:DagOk d){n:Nat}(hn:n<d.length):qU d (n::List.replicate 15 0):=⟨rfl,fun i hi=>by
 rcases qpm.1 hi with rfl|hi
 . exact hn
 . rw[qqk]at hi;rw[hi.2];have:=h.two;omega⟩
theorem qdp {d:List Nd}(h:DagOk d)(b:Nat->Bool)(n k:Nat):qn d b (n::List.replicate 15 0) k=(decide (k=0)&&evD d b n):=by
 unfold qn
 cases k with
 | zero=>simp
 | succ k=>
  have:(n::List.replicate 15 0).getD (k+1) 0=0:=by
   simp only[qpg,qq2,qr5];split<;>rfl
  rw[this,Je h];simp
theorem qnL (h:BX c H d H){X:List Nat}(hX:qU d X) :
 qg Tryz.prog (XG c) 184 [.ptr c.B 0,.agg (qq X)] ⟨H,T⟩ (UQ c d H fun b=>WE (qn d b X) 16):=by
 refine qg.kO ⟨false,qjU,[],[]⟩ qe Tryz.func184 rfl (by kernel_rfl) ?_;have hXl:=hX.1;have hk:∀ j,H.length<=j->j≠c.B:=fun j hj=>(h.at hj).1
 have hc0:=jS 0 (by omega);rw[qd1]at hc0;simp only[qqg]at hc0;simp[-getElem?_pos,ze];refine qc.call hc0 (by simp) ?_;simp[-getElem?_pos,ze,hXl,qk hXl,je,zd (w:=q9) rfl (show (qq q9).length=16 from rfl),qO];refine yV 16 (fun i ev U=>ev 0=.ptr c.B 0/\ev 4=.ptr (H.length+1) 0/\ev 5=.ptr (H.length+2) 0/\ev 9=.agg (qq X)/\ev 10=.int .i64 (i:Int) /\
  ∃ d' S,BX c H d' U.H/\qV d d'/\qU d' S/\U.H[H.length+1]?=some (.cells (qq q9))/\U.H[H.length+2]?=some (.cells (qq S)) /\
   ∀ b,zh (qn d' b S) 16=WE (qn d b X) i) ?_ ?_ ?_
 . exact⟨by simp,by simp,by simp,by simp,by simp,d,q9,h.app _,qV.refl d,y9 h.ok,lk1,lk2,fun b=>by rw[yJ fun k _=>yC h.ok b k];rfl⟩
 . rintro i ev ⟨H1,T1⟩ R hR hi ⟨e0,e4,e5,e9,e10,d1,S,hx,hg,hS,hHZ,hHS,hv⟩;obtain⟨x,hx1,hx2,hx3⟩:=hX.getG h.ok hg hi;dsimp only at hx hHZ hHS;have hSl:=hS.1;have hi':(i:Int)<16:=(by omega);have hi1:i+1<=16:=hi;have hdx:=zQ hx1;have hw:=wr (n:=(i:Int)+1) (by omega) (by omega);simp[-getElem?_pos,e0,e4,e5,e9,e10,hi',hi,hi1,hXl,hdx];rw[qI rfl];simp[-getElem?_pos,qP,e0,e4,e5,e9,e10,hHS,hSl,qk hSl];refine qc.call (z8 x) (by simp) ?_;simp[-getElem?_pos,qP,e0,e4,e5,e9,e10];have ht:=hx.ok.two;have h1:=qaa hx.ok hx2;have hs:=qcT hx.self hS h1 (cn:=0) (T:=T1) (by omega);simp only[List.reduceReplicate,qqg]at hs;refine qc.acall hs ?_;rintro v ⟨H2,T2⟩ ⟨d2,V,rfl,hxx2,hg2,hV,hv2⟩;dsimp only at hv2;have hx2':=hx.call hxx2;have up:∀ {k:Nat} {x:Blk},H.length<=k->H1[k]?=some x->H2[k]?=some x:=fun {k x} hl hq=>hxx2.loc hq (hk k hl)
   have cS:=up (by omega) hHS;have hl2:=(qoX.1 cS).1;have hVl:=hV.1;simp[-getElem?_pos,qP,e0,e4,e5,e9,e10,cS,hVl,hSl,zd hVl (show (qq S).length=16 by rw[jo,hSl]),hw];refine hR _ _ ⟨by simp[e0],by simp[e4],by simp[e5],by simp[e9],by simp,d2,V,hx2'.set (by omega) _,hg.trans hg2,hV,?_,qo2 hl2,fun b=>?_⟩
   . rw[qoY (by omega)];exact up (by omega) hHZ
   . have e1:zh (qn d2 b V) 16=zh (fun k=>(qn d1 b S k ^^ (decide (k=0)&&evD d1 b x)) ^^ Vt (qn d1 b S) (fun k=>decide (k=0)&&evD d1 b x) false k) 16:=zi fun k hk=>by
      rw[hv2 b k hk,Je hx.ok];have:=qdp hx.ok b x;simp only[List.reduceReplicate]at this;unfold qlR;rw[this k,Zz (x':=qn d1 b S) (y':=fun k=>decide (k=0)&&evD d1 b x) (fun j _=>rfl) (fun j _=>this j)]
     rw[e1,ke,Wq _ 15,hv b,hx3];have:=qdm (qn d b X) i;have h2:b2n (qn d b X i)<=1:=(by cases qn d b X i<;>simp[b2n]);show (WE _ i+b2n _+0) % 2 ^ 16=WE _ i+b2n _;rw[qp7];exact qqP (by omega)
 . rintro ev ⟨H1,T1⟩ ⟨e0,e4,e5,e9,e10,d1,S,hx,hg,hS,hHZ,hHS,hv⟩;dsimp only at hx hHZ hHS;have hSl:=hS.1;have hHl:=(qoX.1 hHZ).1;simp[-getElem?_pos,e0,e4,e5,e10,hHS,hHZ,hSl,qk hSl,zd hSl (show (qq q9).length=16 from rfl),qO,hHl];exact⟨d1,S,rfl,hx.set (by omega) _,hg,hS,hv⟩
end
end
section
def shB (up:Bool)(x:Nat->Bool)(s k:Nat):Bool:=if up=true then decide (s<=k)&&x (k-s) else decide (k+s<16)&&x (k+s)
def qd0 (up:Bool):Int:=if up=true then 1 else -1
def Jc (up:Bool)(s k:Nat):Int:=(k:Int)-qd0 up*s
theorem qof {up:Bool}{s k:Nat}(hs:s<16)(hk:k<16)(h:0<=Jc up s k/\Jc up s k<16):∃ m:Nat,Jc up s k=m/\m<16/\∀ x,shB up x s k=x m:=by
 unfold Jc qd0 shB at *
 cases up with
 | true=>
  simp at h⊢;exact⟨k-s,by omega,by omega,fun x=>by
   have:s<=k:=by omega
   simp[this]⟩
 | false=>
  simp at h⊢;exact⟨k+s,by omega,by omega,fun x=>by
   have:k+s<16:=by omega
   simp[this]⟩
theorem qog {up:Bool}{s k:Nat}(hs:s<16)(hk:k<16)(h:¬ (0<=Jc up s k/\Jc up s k<16)):∀ x,shB up x s k=false:=by
 unfold Jc qd0 shB at *;intro x
 cases up with
 | true=>
  simp at h⊢;intro h1;omega
 | false=>
  simp at h⊢;intro h1;omega
theorem YR {d:List Nd}(h:DagOk d)(n:Nat):qU d ((List.range 16).map fun k=>if n.testBit k=true then 1 else 0):=⟨by simp,fun i hi=>by
 obtain⟨k,_,rfl⟩:=qpx.1 hi;have:=h.two;split<;>omega⟩
theorem qct {d:List Nd}(h:DagOk d)(b:Nat->Bool)(n:Nat){k:Nat}(hk:k<16):qn d b ((List.range 16).map fun k=>if n.testBit k=true then 1 else 0) k=n.testBit k:=by
 unfold qn;have:((List.range 16).map fun k=>if n.testBit k=true then 1 else 0).getD k 0=if n.testBit k=true then 1 else 0:=by
  rw[qpg,qpj,qq0 hk];rfl
 rw[this]
 cases n.testBit k with
 | true=>simpa using qco h b
 | false=>simpa using Je h b
theorem Zx {d:List Nd}(h:DagOk d)(b:Nat->Bool){n:Nat}(hn:n<65536):zh (qn d b ((List.range 16).map fun k=>if n.testBit k=true then 1 else 0)) 16=n:=by
 rw[zi fun k hk=>qct h b n hk,ZH];exact qqP hn
section
variable {c:Bc}{d:List Nd}{H:List Blk}{T:List (Option Nat)}
def qjM:List (Nat×Sch×List Nat):=[(5,.step 0 [5,4] (.step 1 [5,4] (.step 2 [5,4,3] (.step 3 [5,4] (.step 4 [5] (.step 5 [] (.done)))))),[4]),(11,.step 0 [13,12] (.step 1 [13,12,11] (.step 2 [13,12,11,4,3] (.step 3 [13,12,11,4] (.step 5 [13,12,11,10] (.step 6 [13,12,11,10] (.step 7 [13,12,11,10,9,8] (.step 8 [13,12,11,10,9] (.step 9 [13,12,11,10] (.fork (.cons 4 (.step 10 [13,12,11] (.step 11 [13,12] (.step 12 [13] (.step 13 [] (.done))))) (.cons 10 (.step 4 [13,12,11] (.step 11 [13,12] (.step 12 [13] (.step 13 [] (.done))))) (.nil)))))))))))),[10,11])]
theorem qc2 (h:BX c H d H){X Y:List Nat}(hX:qU d X)(hY:qU d Y)(up:Bool) :
 qg Tryz.prog (XG c) 243 [.ptr c.B 0,.agg (qq X),.agg (qq Y),.int .i64 (qd0 up)] ⟨H,T⟩ (BQ c d H fun b k=>decide (zh (qn d b Y) 16<16)&&shB up (qn d b X) (zh (qn d b Y) 16) k):=by
 refine qg.kO ⟨false,qjM,[],[]⟩ qe Tryz.func243 rfl (by kernel_rfl) ?_;have hXl:=hX.1;have hYl:=hY.1;have hk:∀ j,H.length<=j->j≠c.B:=fun j hj=>(h.at hj).1
 have hc0:=jS 0 (by omega);rw[qd1]at hc0;simp only[qqg]at hc0;simp[-getElem?_pos,ze];refine qc.call hc0 (by simp) ?_;simp[-getElem?_pos,ze,je,zd (w:=q9) rfl (show (qq q9).length=16 from rfl),qO];refine yV 16 (fun s ev U=>ev 0=.ptr c.B 0/\ev 3=.int .i64 (qd0 up)/\ev 5=.ptr H.length 0/\ev 6=.ptr (H.length+1) 0/\ev 8=.ptr (H.length+2) 0/\ev 9=.ptr (H.length+3) 0/\ev 15=.int .i64 (s:Int) /\
  ∃ d' S,BX c H d' U.H/\qV d d'/\qU d' S/\U.H[H.length]?=some (.cells (qq X))/\U.H[H.length+1]?=some (.cells (qq Y))/\U.H[H.length+2]?=some (.cells (qq q9))/\U.H[H.length+3]?=some (.cells (qq S)) /\
   ∀ b k,k<16->qn d' b S k=(decide (zh (qn d b Y) 16<s)&&shB up (qn d b X) (zh (qn d b Y) 16) k)) ?_ ?_ ?_
 . exact⟨by simp,by simp,by simp,by simp,by simp,by simp,by simp,d,q9,h.app _,qV.refl d,y9 h.ok,lk0,lk1,lk2,lk3,fun b k hk=>by rw[yC h.ok];simp⟩
 . rintro s ev ⟨H1,T1⟩ R hR hs ⟨e0,e3,e5,e6,e8,e9,e15,d1,S,hx,hg,hS,hHX,hHY,hHZ,hHS,hb⟩;dsimp only at hx hHX hHY hHZ hHS;have hSl:=hS.1;have hs':(s:Int)<16:=(by omega);have hs1:s+1<=16:=hs;have hw:=wr (n:=(s:Int)+1) (by omega) (by omega);simp[-getElem?_pos,e0,e3,e5,e6,e8,e9,e15,hs'];rw[qI rfl];simp[-getElem?_pos,qP,e0,e3,e5,e6,e8,e9,e15,hHY,hYl,qk hYl];refine qc.call (jS s (by omega)) (by simp) ?_;simp[-getElem?_pos,qP,e0,e3,e5,e6,e8,e9,e15];refine qc.acall (W6 hx.self (hY.grown hg) (YR hx.ok s)) ?_;rintro v ⟨H2,T2⟩ ⟨d2,t,rfl,hxx2,hg2,ht,hv2⟩;dsimp only at hv2;have hx2':=hx.call hxx2;have up2:∀ {k:Nat} {x:Blk},H.length<=k->H1[k]?=some x->H2[k]?=some x:=fun {k x} hl hq=>hxx2.loc hq (hk k hl)
   have htv:∀ b,evD d2 b t=decide (zh (qn d b Y) 16=s):=fun b=>by
    rw[hv2,W7,Zx hx.ok b (by omega),ky h.ok hg hY b]
   simp[-getElem?_pos,qP,e0,e3,e5,e6,e8,e9,e15];refine yV 16 (fun i ev U=>ev 0=.ptr c.B 0/\ev 3=.int .i64 (qd0 up)/\ev 5=.ptr H.length 0/\ev 6=.ptr (H.length+1) 0/\ev 8=.ptr (H.length+2) 0/\ev 9=.ptr (H.length+3) 0/\ev 10=.int .i64 (s:Int)/\ev 11=.int .i64 (t:Int)/\ev 15=.int .i64 (s:Int)/\ev 23=.int .i64 (i:Int) /\
    ∃ d' P,BX c H d' U.H/\qV d2 d'/\qU d' P/\U.H[H.length]?=some (.cells (qq X))/\U.H[H.length+1]?=some (.cells (qq Y))/\U.H[H.length+2]?=some (.cells (qq q9))/\U.H[H.length+3]?=some (.cells (qq P)) /\
     ∀ b k,k<16->qn d' b P k=(qn d1 b S k||(decide (k<i)&&(evD d2 b t&&shB up (qn d b X) s k)))) ?_ ?_ ?_
   . exact⟨by simp[e0],by simp[e3],by simp[e5],by simp[e6],by simp[e8],by simp[e9],by simp,by simp,by simp[e15],by simp,d2,S,hx2',qV.refl d2,hS.grown hg2,up2 (by omega) hHX,up2 (by omega) hHY,up2 (by omega) hHZ,up2 (by omega) hHS,fun b k hk=>by rw[zx hx.ok hg2 hS b hk];simp⟩
   . rintro i ev ⟨H3,T3⟩ R2 hR2 hi ⟨e0,e3,e5,e6,e8,e9,e10,e11,e15,e23,d3,P,hx3,hg3,hP,bX,bY,bZ,bS,hpb⟩;dsimp only at hx3 bX bY bZ bS;have hPl:=hP.1;have hg03:=hg.trans (hg2.trans hg3);have hi':(i:Int)<16:=(by omega);have hi1:i+1<=16:=hi;have hwi:=wr (n:=(i:Int)+1) (by omega) (by omega);have hdm : -16<qd0 up*(s:Int)/\qd0 up*(s:Int)<16:=(by unfold qd0;cases up<;>simp<;>omega);have hwm:=wr (n:=qd0 up*(s:Int)) (by omega) (by omega);have hwf:=wr (n:=(i:Int)-qd0 up*s) (by omega) (by omega);have hff:(i:Int)-qd0 up*s=Jc up s i:=rfl;rw[hff]at hwf;by_cases hrg:0<=Jc up s i/\Jc up s i<16
     . obtain⟨m,hm,hm16,hmx⟩:=qof hs hi hrg;obtain⟨hrg1,hrg2⟩:=hrg;obtain⟨x,hx1,hx2,hx3'⟩:=hX.getG h.ok hg03 hm16;obtain⟨p,hp1,hp2,_,hp4⟩:=hP.get hi;have hdx:=zQ hx1;have hdp:=zQ hp1;have htl:t<d3.length:=qpc ht hg3.len;have hm1:m+1<=16:=hm16;have hm2:(m:Int)<16:=(by omega);have hm0:(0:Int)<=m:=(by omega);rw[hm]at hwf hrg1 hrg2;rw[hm]at hff;simp[-getElem?_pos,e0,e3,e5,e6,e8,e9,e10,e11,e15,e23,hi',hwm,hff,hwf,hm2];rw[qI rfl];simp[-getElem?_pos,qP,e0,e3,e5,e6,e8,e9,e10,e11,e15,e23,hi',hi,hi1,hm2,hm16,hm1,bX,bS,hXl,hPl,hdx,hdp];have key:=v9 c hx3.self (f:=t) (g:=x) htl hx2 (T:=T3);refine⟨qc.acall key ?_,qc.acall key ?_⟩
       all_goals
        rintro v ⟨H4,T4⟩ ⟨d4,z,rfl,hxx4,hg4,hz,hv4⟩;dsimp only at hv4;have hx4':=hx3.call hxx4;have up4:∀ {k:Nat} {x:Blk},H.length<=k->H3[k]?=some x->H4[k]?=some x:=fun {k x} hl hq=>hxx4.loc hq (hk k hl)
        have cS:=up4 (by omega) bS;simp[-getElem?_pos,qP,e0,e3,e5,e6,e8,e9,e10,e11,e15,e23,hi',hi,hi1,cS,hPl,hdp];refine qc.acall (V7 c hx4'.self (f:=p) (g:=z) (qpc hp2 hg4.len) hz) ?_;rintro v ⟨H5,T5⟩ ⟨d5,y,rfl,hxx5,hg5,hy,hv5⟩;dsimp only at hv5;have hx5':=hx4'.call hxx5;have up5:∀ {k:Nat} {x:Blk},H.length<=k->H3[k]?=some x->H5[k]?=some x:=fun {k x} hl hq=>hxx5.loc (up4 hl hq) (hk k hl)
        have cS5:=up5 (by omega) bS;have hl5:=(qoX.1 cS5).1;simp[-getElem?_pos,qP,e0,e3,e5,e6,e8,e9,e10,e11,e15,e23,hi',hi,hi1,cS5,hPl,yz,hwi];refine hR2 _ _ ⟨by simp[e0],by simp[e3],by simp[e5],by simp[e6],by simp[e8],by simp[e9],by simp[e10],by simp[e11],by simp[e15],by simp,d5,P.set i y,hx5'.set (by omega) _,hg3.trans (hg4.trans hg5),(hP.grown (hg4.trans hg5)).set hy,?_,?_,?_,qo2 hl5,fun b k hk=>?_⟩
        . rw[qoY (by omega)];exact up5 (by omega) bX
        . rw[qoY (by omega)];exact up5 (by omega) bY
        . rw[qoY (by omega)];exact up5 (by omega) bZ
        . rw[kZ (by omega)];by_cases hki:k=i
          . subst hki;rw[if_pos rfl,hv5,hg4.ev hx3.ok b hp2,hv4,<- hp4,hpb b k hk,hg3.ev hx2'.ok b ht,hx3',hmx];simp
          . rw[if_neg hki,zx hx3.ok (hg4.trans hg5) hP b hk,hpb b k hk];by_cases h1:k<i
            . have h2:k<i+1:=(by omega);simp[h1,h2]
            . have h2:¬ k<i+1:=(by omega);simp[h1,h2]
     . have hno:=qog hs hi hrg;have hcont:R2=R2:=rfl;have fin:∀ ev',ev' 0=.ptr c.B 0->ev' 3=.int .i64 (qd0 up)->ev' 5=.ptr H.length 0->ev' 6=.ptr (H.length+1) 0->ev' 8=.ptr (H.length+2) 0->ev' 9=.ptr (H.length+3) 0->ev' 10=.int .i64 (s:Int)->ev' 11=.int .i64 (t:Int)->ev' 15=.int .i64 (s:Int)->ev' 23=.int .i64 (((i+1:Nat)):Int)->R2 ev' ⟨H3,T3⟩:=fun ev' a0 a3 a5 a6 a8 a9 a10 a11 a15 a23=>
        hR2 _ _ ⟨a0,a3,a5,a6,a8,a9,a10,a11,a15,a23,d3,P,hx3,hg3,hP,bX,bY,bZ,bS,fun b k hk=>by
         rw[hpb b k hk];by_cases hki:k=i
         . subst hki;rw[hno];simp
         . by_cases h1:k<i
           . have h2:k<i+1:=(by omega);simp[h1,h2]
           . have h2:¬ k<i+1:=(by omega);simp[h1,h2]⟩
       by_cases h0:0<=Jc up s i
       . have h16:¬ Jc up s i<16:=fun h=>hrg ⟨h0,h⟩
         simp[-getElem?_pos,e0,e3,e5,e6,e8,e9,e10,e11,e15,e23,hi',hwm,hff,hwf,h0,h16,hwi];exact fin _ (by simp[e0]) (by simp[e3]) (by simp[e5]) (by simp[e6]) (by simp[e8]) (by simp[e9]) (by simp[e10]) (by simp[e11]) (by simp[e15]) (by simp)
       . simp[-getElem?_pos,e0,e3,e5,e6,e8,e9,e10,e11,e15,e23,hi',hwm,hff,hwf,h0,hwi];exact fin _ (by simp[e0]) (by simp[e3]) (by simp[e5]) (by simp[e6]) (by simp[e8]) (by simp[e9]) (by simp[e10]) (by simp[e11]) (by simp[e15]) (by simp)
   . rintro ev ⟨H3,T3⟩ ⟨e0,e3,e5,e6,e8,e9,e10,e11,e15,e23,d3,P,hx3,hg3,hP,bX,bY,bZ,bS,hpb⟩;simp[-getElem?_pos,e0,e3,e5,e6,e8,e9,e10,e11,e15,e23,hw];refine hR _ _ ⟨by simp[e0],by simp[e3],by simp[e5],by simp[e6],by simp[e8],by simp[e9],by simp,d3,P,hx3,hg.trans (hg2.trans hg3),hP,bX,bY,bZ,bS,fun b k hk=>?_⟩;rw[hpb b k hk,hb b k hk,htv b];by_cases h1:zh (qn d b Y) 16=s
     . rw[h1];simp[hk]
     . by_cases h2:zh (qn d b Y) 16<s
       . have h3:zh (qn d b Y) 16<s+1:=(by omega);simp[h1,h2,h3]
       . have h3:¬ zh (qn d b Y) 16<s+1:=(by omega);simp[h1,h2,h3]
 . rintro ev ⟨H1,T1⟩ ⟨e0,e3,e5,e6,e8,e9,e15,d1,S,hx,hg,hS,hHX,hHY,hHZ,hHS,hb⟩;dsimp only at hx hHX hHY hHZ hHS;have hSl:=hS.1;have hHl:=(qoX.1 hHZ).1;simp[-getElem?_pos,e0,e8,e9,e15,hHS,hHZ,hSl,qk hSl,zd hSl (show (qq q9).length=16 from rfl),qO,hHl];exact⟨d1,S,rfl,hx.set (by omega) _,hg,hS,hb⟩
end
end
section
def qml (x:Nat):List Nat->Bool
 | a::b::r=>(decide (a<=x)&&decide (x<=b))||qml x r
 | _=>false
theorem YB {Ws:List (List Nat)}(h:∀ w∈Ws,w.length=16):(Ws.flatMap qq).length=Ws.length*16:=by
 induction Ws with
 | nil=>rfl
 | cons a r ih=>rw[qpn,qo3,jo,h a (by simp),ih fun w hw=>h w (by simp[hw]),qpd];omega
theorem qaQ:∀ {Ws:List (List Nat)} {i:Nat} {w:List Nat},(∀ w∈Ws,w.length=16)->Ws[i]?=some w->((Ws.flatMap qq).drop (i*16)).take 16=qq w
 | [],i,w,_,hw=>by simp at hw
 | a::r,0,w,h,hw=>by
  simp at hw;subst hw;have ha:=h a (by simp);rw[qpn,qqA,qqm,qpU (by rw[jo,ha];exact qo7 _),qk ha]
 | a::r,i+1,w,h,hw=>by
  have ha:=h a (by simp);have hal:(qq a).length=16:=by rw[jo,ha]
  have ih:=qaQ (Ws:=r) (i:=i) (w:=w) (fun w hw=>h w (by simp[hw])) (by simpa using hw);have e:(i+1)*16=16+i*16:=by omega
  rw[qpn,e,qqr,qpz (by omega),hal,qpl,qpM,ih]
section
variable {c:Bc}{d:List Nd}{H:List Blk}{T:List (Option Nat)}
def qjT:List (Nat×Sch×List Nat):=[(5,.step 0 [9,8] (.step 1 [9,8,7] (.step 2 [9,8,7] (.step 3 [9,8,7,6,5] (.step 4 [9,8,7,6,5] (.step 5 [9,8,7,6] (.step 6 [9,8,7] (.step 7 [9,8] (.step 8 [9] (.step 9 [] (.done)))))))))),[7,8]),(6,.step 0 [10,9] (.step 1 [10,9,8] (.step 2 [10,9,8,6,5] (.step 3 [10,9,8,6,5,4] (.step 4 [10,9,8,6,5] (.step 5 [10,9,8,6] (.step 6 [10,9,8] (.step 7 [10,9,8] (.step 8 [10,9] (.step 9 [10] (.step 10 [] (.done))))))))))),[8,9])]
theorem qhy (h:BX c H d H){X:List Nat}(hX:qU d X){A:Nat}{V:List Nat}{Ws:List (List Nat)}(hV:V.length=16)(hWs:∀ w∈Ws,qU d w)(hA:H[A]?=some (.cells (qq V++Ws.flatMap qq)))(hAB:A≠c.B)(hn:Ws.length<=1000) :
 qg Tryz.prog (XG c) 185 [.ptr c.B 0,.agg (qq X),.ms A 16 Ws.length 16] ⟨H,T⟩ (NQ c d H fun b=>qml (zh (qn d b X) 16) (Ws.map fun w=>zh (qn d b w) 16)):=by
 refine qg.kO ⟨false,qjT,[],[]⟩ qe Tryz.func185 rfl (by kernel_rfl) ?_;have hXl:=hX.1;have hk:∀ j,H.length<=j->j≠c.B:=fun j hj=>(h.at hj).1
 have hAl:=(qoX.1 hA).1;have hW16:∀ w∈Ws,w.length=16:=fun w hw=>(hWs w hw).1
 have hCl:(qq V++Ws.flatMap qq).length=16+Ws.length*16:=by rw[qo3,jo,hV,YB hW16]
 have hcut:∀ {i:Nat} {w:List Nat},Ws[i]?=some w->((qq V++Ws.flatMap qq).drop (16+i*16)).take 16=qq w:=fun {i w} hw=>by
  have hv:(qq V).length=16:=by rw[jo,hV]
  rw[qqr,qpz (by omega),qpl,hv,qpM];exact qaQ hW16 hw
 have hVal:∀ {d':List Nd} {w:List Nat},qV d d'->w∈Ws->∀ b,zh (qn d' b w) 16=zh (qn d b w) 16:=fun {d' w} hg hw b=>ky h.ok hg (hWs w hw) b
 generalize hC:qq V++Ws.flatMap qq=C at *;simp[-getElem?_pos,ze];refine qJ.gen (fun n ev U=>ev 0=.ptr c.B 0/\ev 2=.ms A 16 Ws.length 16/\ev 4=.ptr H.length 0 /\
  ∃ i d' t,n=Ws.length+1-i/\i<=Ws.length/\ev 8=.int .i64 (i:Int)/\ev 7=.int .i64 (t:Nat)/\BX c H d' U.H/\qV d d'/\t<d'.length/\U.H[H.length]?=some (.cells (qq X))/\U.H[A]?=some (.cells C) /\
   ∀ b,(evD d' b t||qml (zh (qn d b X) 16) ((Ws.drop i).map fun w=>zh (qn d b w) 16))=qml (zh (qn d b X) 16) (Ws.map fun w=>zh (qn d b w) 16)) (Ws.length+1) ?_ ?_
 . exact⟨by simp,by simp,by simp,0,d,0,rfl,by omega,by simp,by simp,h.app _,qV.refl d,by have:=h.ok.two;omega,lk0,qa hA _,fun b=>by rw[Je h.ok];simp⟩
 . rintro n ev ⟨H1,T1⟩ R hR ⟨e0,e2,e4,i,d1,t,rfl,hi,e8,e7,hx,hg,ht,bX,bA,hv⟩;dsimp only at hx bX bA;have hw1:=wr (n:=(i:Int)+1) (by omega) (by omega);have hw2:=wr (n:=(i:Int)+2) (by omega) (by omega);by_cases hlt:i+1<Ws.length
   . have hlt':(i:Int)+1<Ws.length:=(by omega);have hi1:i<Ws.length:=(by omega);obtain⟨w0,hw0⟩:∃ w,Ws[i]?=some w:=⟨_,qo1 hi1⟩;obtain⟨w1,hw1'⟩:∃ w,Ws[i+1]?=some w:=⟨_,qo1 hlt⟩;have m0:=qoZ hw0;have m1:=qoZ hw1';have c0:=hcut hw0;have c1:=hcut hw1';have b0:16+i*16+16<=C.length:=(by rw[hCl];omega);have b1:16+(i+1)*16+16<=C.length:=(by rw[hCl];omega);have hi0':(i:Int)<Ws.length:=(by omega);have hi1n:(0:Int)<=(i:Int)+1:=(by omega);have htn:((i:Int)+1).toNat=i+1:=(by omega);rw[hCl]at b0 b1;have hdrop:Ws.drop i=w0::w1::Ws.drop (i+2):=by
      rw[qph hi1,qph hlt];obtain⟨_,q0⟩:=qoX.1 hw0;obtain⟨_,q1⟩:=qoX.1 hw1';rw[q0,q1]
     simp[-getElem?_pos,e0,e2,e4,e7,e8,hw1,hlt'];rw[qI rfl];simp[-getElem?_pos,qP,e0,e2,e4,e7,e8,hw1,hlt',hi0',hi1,bX,bA,hXl,qk hXl,hCl,b0,c0];refine qc.acall (WS hx.self (hX.grown hg) ((hWs w0 m0).grown hg)) ?_;rintro v ⟨H2,T2⟩ ⟨d2,y2,rfl,hxx2,hg2,hy2,hv2⟩;dsimp only at hv2;have hx2:=hx.call hxx2;simp[-getElem?_pos,qP,e0,e2,e4,e7,e8];refine qc.acall (v7 c hx2.self hy2) ?_;rintro v ⟨H3,T3⟩ ⟨d3,y3,rfl,hxx3,hg3,hy3,hv3⟩;dsimp only at hv3;have hx3:=hx2.call hxx3;have cX:=hxx3.loc (hxx2.loc bX (hk _ (qo7 _))) (hk _ (qo7 _));have cA:=hxx3.loc (hxx2.loc bA hAB) hAB;dsimp only at cX cA;have hg23:=hg2.trans hg3;have hg03:=hg.trans hg23;simp[-getElem?_pos,e0,e2,e4,e7,e8];rw[qI rfl];simp[-getElem?_pos,qP,e0,e2,e4,e7,e8,hw1,hlt',hi1n,htn,hlt,cX,cA,hXl,qk hXl,hCl,b1,c1];refine qc.acall (WS hx3.self ((hWs w1 m1).grown hg03) (hX.grown hg03)) ?_;rintro v ⟨H4,T4⟩ ⟨d4,y4,rfl,hxx4,hg4,hy4,hv4⟩;dsimp only at hv4;have hx4:=hx3.call hxx4;simp[-getElem?_pos,qP,e0,e2,e4,e7,e8];refine qc.acall (v7 c hx4.self hy4) ?_;rintro v ⟨H5,T5⟩ ⟨d5,y5,rfl,hxx5,hg5,hy5,hv5⟩;dsimp only at hv5;have hx5:=hx4.call hxx5;simp[-getElem?_pos,qP,e0,e2,e4,e7,e8];have hg35:=hg4.trans hg5;refine qc.acall (v9 c hx5.self (f:=y3) (g:=y5) (qpc hy3 hg35.len) hy5) ?_;rintro v ⟨H6,T6⟩ ⟨d6,y6,rfl,hxx6,hg6,hy6,hv6⟩;dsimp only at hv6;have hx6:=hx5.call hxx6;simp[-getElem?_pos,qP,e0,e2,e4,e7,e8];have hg16:=hg23.trans (hg35.trans hg6);refine qc.acall (V7 c hx6.self (f:=t) (g:=y6) (qpc ht hg16.len) hy6) ?_;rintro v ⟨H7,T7⟩ ⟨d7,y7,rfl,hxx7,hg7,hy7,hv7⟩;dsimp only at hv7;have hx7:=hx6.call hxx7;have up:∀ {k:Nat} {x:Blk},k≠c.B->H3[k]?=some x->H7[k]?=some x:=fun {k x} hl hq=>hxx7.loc (hxx6.loc (hxx5.loc (hxx4.loc hq hl) hl) hl) hl
     simp[-getElem?_pos,qP,e0,e2,e4,e7,e8,hw2];refine hR (Ws.length+1-(i+2)) _ _ (by omega) ⟨by simp[e0],by simp[e2],by simp[e4],i+2,d7,y7,rfl,by omega,by simp,by simp,hx7,hg.trans (hg16.trans hg7),hy7,up (hk _ (qo7 _)) cX,up hAB cA,fun b=>?_⟩;rw[<- hv b,hdrop];simp only[qo9,qml];have hXv:∀ {d'},qV d d'->zh (qn d' b X) 16=zh (qn d b X) 16:=fun hg'=>ky h.ok hg' hX b
     rw[hv7,hg16.ev hx.ok b ht,hv6,hg35.ev hx3.ok b hy3,hv3,hv2,vH,hXv hg,hVal hg m0 b,hv5,hv4,vH,hXv hg03,hVal hg03 m1 b];generalize zh (qn d b X) 16=vx;generalize zh (qn d b w0) 16=v0;generalize zh (qn d b w1) 16=v1;have q0:(!decide (vx<v0))=decide (v0<=vx):=(by rw[qpR];simp);have q1:(!decide (v1<vx))=decide (vx<=v1):=(by rw[qpR];simp);rw[q0,q1,Bool.or_assoc]
   . have hlt':¬ (i:Int)+1<Ws.length:=(by omega);simp[-getElem?_pos,e0,e2,e4,e7,e8,hw1,hlt'];refine⟨d1,t,rfl,hx,hg,ht,fun b=>?_⟩;refine Eq.trans ?_ (hv b);have:qml (zh (qn d b X) 16) ((Ws.drop i).map fun w=>zh (qn d b w) 16)=false:=by
      have hl:((Ws.drop i).map fun w=>zh (qn d b w) 16).length<=1:=(by simp;omega);generalize ((Ws.drop i).map fun w=>zh (qn d b w) 16)=l at hl
      match l,hl with
      | [],_=>rfl
      | [_],_=>rfl
     rw[this,Bool.or_false]
end
end
section
theorem WF {d:List Nd}(h:DagOk d)(b:Nat->Bool)(n:Nat):zS d b (n::List.replicate 15 0)=b2i (evD d b n):=by
 unfold zS;rw[zi fun k _=>qdp h b n k,qgV]
section
variable {c:Bc}{d:List Nd}{H:List Blk}{T:List (Option Nat)}
theorem qko (h:BX c H d H){X Y:List Nat}(hX:qU d X)(hY:qU d Y)(op:Int) :
 qg Tryz.prog (XG c) 244 [.ptr c.B 0,.int .i64 op,.agg (qq X),.agg (qq Y)] ⟨H,T⟩ (WQ c d H fun b=>b2i (if op=19 then Q6 (qn d b X) 16&&Q6 (qn d b Y) 16 else if op=20 then Q6 (qn d b X) 16||Q6 (qn d b Y) 16 else !Q6 (qn d b X) 16||Q6 (qn d b Y) 16)):=by
 refine qg.k qe Tryz.func244 rfl (by kernel_rfl) ?_;have hXl:=hX.1;have hYl:=hY.1;have hk:∀ j,H.length<=j->j≠c.B:=fun j hj=>(h.at hj).1
 simp[-getElem?_pos,ze,je];have hx1:=h.app [.cells (qq X),.cells (qq Y),.cells (qq q9)];have bX:(H++[Blk.cells (qq X),.cells (qq Y),.cells (qq q9)])[H.length]?=some (.cells (qq X)):=lk0;have bY:(H++[Blk.cells (qq X),.cells (qq Y),.cells (qq q9)])[H.length+1]?=some (.cells (qq Y)):=lk1;have bZ:(H++[Blk.cells (qq X),.cells (qq Y),.cells (qq q9)])[H.length+2]?=some (.cells (qq q9)):=lk2;generalize H++[Blk.cells (qq X),.cells (qq Y),.cells (qq q9)]=H1 at *;simp[-getElem?_pos,bX,hXl,qk hXl];refine qc.acall (vB hx1.self hX) ?_;rintro v ⟨H2,T2⟩ ⟨d2,s,rfl,hxx2,hg2,hs,hv2⟩;dsimp only at hv2;have hx2:=hx1.call hxx2;have cY:=hxx2.loc bY (hk _ (by omega));have cZ:=hxx2.loc bZ (hk _ (by omega));dsimp only at cY cZ;simp[-getElem?_pos,cY,hYl,qk hYl];refine qc.acall (vB hx2.self (hY.grown hg2)) ?_;rintro v ⟨H3,T3⟩ ⟨d3,t,rfl,hxx3,hg3,ht,hv3⟩;dsimp only at hv3;have hx3:=hx2.call hxx3;have eZ:=hxx3.loc cZ (hk _ (by omega));dsimp only at eZ;have hs3:s<d3.length:=qpc hs hg3.len;have hs3v:∀ b,evD d3 b s=Q6 (qn d b X) 16:=fun b=>by rw[hg3.ev hx2.ok b hs,hv2]
 have ht3v:∀ b,evD d3 b t=Q6 (qn d b Y) 16:=fun b=>by
  rw[hv3,Q5,Q5,ky h.ok hg2 hY b]
 have hg03:=hg2.trans hg3;have fin:∀ {H4:List Blk} {d4:List Nd} {u:Nat} {τ:St} {v:(Nat->Bool)->Bool},τ.H=H4.set (H.length+2) (.cells (qq (u::List.replicate 15 0)))->BX c H d4 H4->qV d3 d4->u<d4.length->(∀ b,evD d4 b u=v b)->WQ c d H (fun b=>b2i (v b)) (.agg (qq (u::List.replicate 15 0))) τ:=fun {H4 d4 u τ v} hτ hx4 hg4 hu hv=>by
  refine⟨d4,_,rfl,?_,hg03.trans hg4,qaa hx4.ok hu,fun b=>by rw[WF hx4.ok,hv]⟩;rw[hτ];exact hx4.set (by omega) _
 have cut1:∀ (u:Nat),(qq (u::List.replicate 15 0)).take 16=qq (u::List.replicate 15 0):=fun u=>qk rfl
 have put1:∀ (u:Nat),zp (qq q9) 0 (qq (u::List.replicate 15 0))=qq (u::List.replicate 15 0):=fun u=>zd rfl rfl
 simp only[List.reduceReplicate]at fin cut1 put1;by_cases h19:op=19
 . simp[-getElem?_pos,h19];refine qc.acall (v9 c hx3.self (f:=s) (g:=t) hs3 ht) ?_;rintro v ⟨H4,T4⟩ ⟨d4,u,rfl,hxx4,hg4,hu,hv4⟩;dsimp only at hv4;have gZ:=hxx4.loc eZ (hk _ (by omega));have hl:=(qoX.1 gZ).1;dsimp only at gZ hl;simp[-getElem?_pos];refine qc.call (z8 u) (by simp) ?_;simp[-getElem?_pos,gZ,qO,put1,hl,cut1];exact fin rfl (hx3.call hxx4) hg4 hu fun b=>by rw[hv4,hs3v,ht3v]
 by_cases h20:op=20
 . simp[-getElem?_pos,h19,h20];refine qc.acall (V7 c hx3.self (f:=s) (g:=t) hs3 ht) ?_;rintro v ⟨H4,T4⟩ ⟨d4,u,rfl,hxx4,hg4,hu,hv4⟩;dsimp only at hv4;have gZ:=hxx4.loc eZ (hk _ (by omega));have hl:=(qoX.1 gZ).1;dsimp only at gZ hl;simp[-getElem?_pos];refine qc.call (z8 u) (by simp) ?_;simp[-getElem?_pos,gZ,qO,put1,hl,cut1];exact fin rfl (hx3.call hxx4) hg4 hu fun b=>by rw[hv4,hs3v,ht3v]
 . simp[-getElem?_pos,h19,h20];refine qc.acall (v7 c hx3.self hs3) ?_;rintro v ⟨H4,T4⟩ ⟨d4,q,rfl,hxx4,hg4,hq,hv4⟩;dsimp only at hv4;have hx4:=hx3.call hxx4;simp[-getElem?_pos];refine qc.acall (V7 c hx4.self (f:=q) (g:=t) hq (qpc ht hg4.len)) ?_;rintro v ⟨H5,T5⟩ ⟨d5,u,rfl,hxx5,hg5,hu,hv5⟩;dsimp only at hv5;have gZ:=hxx5.loc (hxx4.loc eZ (hk _ (by omega))) (hk _ (by omega));have hl:=(qoX.1 gZ).1;dsimp only at gZ hl;simp[-getElem?_pos];refine qc.call (z8 u) (by simp) ?_;simp[-getElem?_pos,gZ,qO,put1,hl,cut1];exact fin rfl (hx4.call hxx5) (hg4.trans hg5) hu fun b=>by rw[hv5,hv4,hs3v,hg4.ev hx3.ok b ht,ht3v]
end
end
theorem qjD:∀ (k:Nat) (e:Ex),(∀ x∈pre e,Fits x.args)->k<=100->Pure Tryz.prog GG 32 [.agg (qt e),.int .i64 k] (.bool (jU e k)):=by
 intro k
 induction k with
 | zero=>
  intro e hfa _;refine Pure.k qe Tryz.func32 rfl (by kernel_rfl) ?_;simp only[qd e];simp[-getElem?_pos,jU]
 | succ k ih=>
  intro e hpa hk;have hfa:Fits e.args:=hpa e (by rw[jk];simp);refine Pure.k qe Tryz.func32 rfl (by kernel_rfl) ?_;have hk0:¬ ((k+1:Nat):Int)=0:=by omega
  simp only[qd e];have hkw:IntKind.i64.wrap (((k+1:Nat):Int)-1)=k:=by rw[show ((k+1:Nat):Int)-1=k by omega];exact wr (by omega) (by omega)
  by_cases hl:e.args.length<=40
  . have hl':¬ (40:Int)<e.args.length:=(by omega);simp[-getElem?_pos,-Int.natCast_add,hk0,hl'];rw[<- qd e];obtain⟨r,hr⟩:∃ r,r=jU e (k+1):=⟨_,rfl⟩;rw[<- hr];refine qJ.list e.args (fun d env U=>env 1=.int .i64 (k+1:Nat)/\env 2=.ptr 0 0/\env 5=.int .i64 d.length/\U=⟨[.cells (qt e)],[]⟩/\(d.all fun a=>jU a k)=true) ?_ ?_ ?_
    . simp
    . rintro d v s env U hd hv hlt ⟨h1,h2,h5,rfl,hall⟩;have hw:=wr (n:=(d.length:Int)+1) (by omega) (by omega);simp[-getElem?_pos,-Int.natCast_add,h1,h2,h5,qd e,hlt,hv,qd v,hkw];rw[<- qd v];have hm:=qoZ hv;refine qc.call (G:=z5 GG) (ih v (fun x hx=>hpa x (by rw[jk];exact qpI _ (vG.2 ⟨v,hm,hx⟩))) (by omega)) (by simp) ?_;cases hs:jU v k
      . have:r=false:=by
         rw[hr,qp1];intro h;simp only[jU,qo0,qpa]at h;have:=h.2 v hm;rw[hs]at this;cases this
        simp[-getElem?_pos,-Int.natCast_add,h1,h2,h5,unA,this]
      . simp[-getElem?_pos,-Int.natCast_add,h1,h2,h5,unA,hw,hs];simpa using hall
    . rintro env U ⟨h1,h2,h5,rfl,hall⟩;have:r=true:=by rw[hr];simp only[jU,hall,qqN,decide_eq_true_eq];exact hl
      simp[-getElem?_pos,-Int.natCast_add,h1,h2,h5,qd e,this]
  . have hl':(40:Int)<e.args.length:=(by omega);simp[-getElem?_pos,-Int.natCast_add,hk0,hl',jU,hl]
def qab (w:Int):List Int:=(List.range (2 ^ w.toNat)).map fun n:Nat=>(n:Int)
theorem qgS (w:Int):(qab w).length=2 ^ w.toNat:=by simp[qab]
theorem qgT {w:Int}{d r:List Int}{v:Int}(h:qab w=d++v::r):v=d.length:=by
 have h1:(qab w)[d.length]?=some v:=by rw[h];simp
 unfold qab at h1;rw[qpj]at h1;obtain⟨m,hm,e⟩:=qo4.1 h1;obtain⟨_,hm⟩:=qoX.1 hm;simp at hm;omega
theorem wb {w:Int}(h0:0<=w)(h1:w<=28):IntKind.i64.wrap (2 ^ (min w.toNat 64))=((2 ^ w.toNat:Nat):Int):=by
 have e:min w.toNat 64=w.toNat:=by omega
 have hp:(2:Nat) ^ w.toNat<=2 ^ 28:=qpr (by omega) (by omega);rw[e,show ((2:Int) ^ w.toNat)=((2 ^ w.toNat:Nat):Int) by simp];generalize 2 ^ w.toNat=N at hp;exact wr (by omega) (by omega)
theorem qci {α:Type}(p:α->Bool)(d:List α)(v:α):(d++[v]).filter p=if p v then d.filter p++[v] else d.filter p:=by
 rw[List.filter_append];cases h:p v<;>simp[h]
theorem zf (e:Ex):(qt e).length=4:=by rw[qd];rfl
theorem yg (e:Ex):(qt e).all AV.atom=true:=by
 rw[qd];simp
theorem ko (e:Ex):qZ (.agg (qt e))=some (qt e):=by rw[qd];simp[qZ,AV.atom]
theorem qoL (k:IntKind)(n:Int):qZ (.int k n)=some [.int k n]:=rfl
theorem qoK (t:List UInt8):qZ (.str t)=some [.str t]:=rfl
theorem acl_sl (sz:Nat)(rows:List (List AV))(tok:Tok):qZ (.sl sz rows tok)=some [.sl sz rows tok]:=rfl
theorem qoM {cs:List AV}(h:cs.all AV.atom=true):qZ (.agg cs)=some cs:=by simp only[qZ,h,if_true]
theorem putAt_all:∀ (c new:List AV),c.length=new.length->zp c 0 new=new:=by
 have gen:∀ (new pre c:List AV),c.length=new.length->zp (pre++c) pre.length new=pre++new:=by
  intro new
  induction new with
  | nil=>intro pre c h;have:c=[]:=qq1.1 h;subst this;simp[zp]
  | cons v r ih=>
   intro pre c h
   cases c with
   | nil=>simp at h
   | cons x c=>
    have h':c.length=r.length:=(by simpa using h);have:=ih (pre++[v]) c h';simp only[qps,qqU,qo3,qpu]at this;rw[zp];have e:(pre++x::c).set pre.length v=pre++v::c:=(by simp);rw[e];exact this
 intro c new h;simpa using gen new [] c h
structure Near (c:List AV)(Y:Ex):Prop where
 len:c.length=4
 atoms:c.all AV.atom=true
 leq:zn c (qt Y)
 nr:qp c=true
theorem qaq {a b:List AV}{r s:List (List AV)}(h1:a=b\/(zn a b/\b.all AV.atom=true))(h2:jO r s):jO (a::r) (b::s):=by
 simp only[jO];exact⟨h1,h2⟩
theorem qkr:jO [] []:=by simp only[jO]
theorem Near.row {c:List AV}{Y:Ex}(h:Near c Y):c=qt Y\/(zn c (qt Y)/\(qt Y).all AV.atom=true):=.inr ⟨h.leq,yg Y⟩
theorem qkh (Y:Ex):Near (qt Y) Y:=⟨zf Y,yg Y,zn.refl _,nrE' Y⟩
theorem qnW {o n:Int}{s:Str}{rows:List (List AV)}{args:List Ex}(h:jO rows (args.map qt))(hn:zj rows=true):Near [.int .i64 o,.int .i64 n,.str s,.sl 4 rows .tight] (.mk o n s args):=by
 refine⟨rfl,rfl,?_,?_⟩
 . rw[qd];simp only[zn,Leq,and_true,true_and,Ex.op_mk,Ex.n_mk,Ex.name_mk,Ex.args_mk];exact .inr ⟨h,.inl trivial⟩
 . simp[hn]
theorem Near.four {c:List AV}{Y:Ex}(h:Near c Y):∃ c0 c1 c2 c3,c=[c0,c1,c2,c3]:=by
 have:=h.len
 match c,this with
 | [c0,c1,c2,c3],_=>exact⟨c0,c1,c2,c3,rfl⟩
theorem Near.fin {c0 c1 c2 c3:AV}{Y:Ex}(h:Near [c0,c1,c2,c3] Y)(H:List Blk):kv H c0=c0/\kv H c1=c1/\kv H c2=c2/\kv H c3=c3:=by
 have:=h.nr;simp only[qp,qo0,and_true]at this;exact⟨vM this.1,vM this.2.1,vM this.2.2.1,vM this.2.2.2⟩
end Go.Proofs.YtcadpamddlofjaaGreatDoor
end
