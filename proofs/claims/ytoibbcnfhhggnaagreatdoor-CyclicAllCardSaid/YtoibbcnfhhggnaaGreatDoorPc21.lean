/- A part of the proof. -/
import Derived.Test.YtoibbcnfhhggnaaGreatDoorPc11
import Derived.Test.YtoibbcnfhhggnaaGreatDoorPc16
set_option linter.unusedVariables false
set_option linter.unusedSimpArgs false
set_option maxRecDepth 100000
set_option maxHeartbeats 16000000
set_option linter.defProp false
section
namespace Go.Proofs.YtoibbcnfhhggnaaGreatDoor
open Go Go.Abs
theorem qmF (n:Int):((BitVec.ofInt 64 n &&& 65535#64).toNat:Int)=n % 65536:=by
 rw[BitVec.toNat_and,BitVec.toNat_ofInt];have e:(65535#64).toNat=2 ^ 16-1:=by decide
 rw[e,qsx];omega
theorem wr16 {n:Int}(h0:0<=n)(h1:n<=65535):IntKind.u16.wrap n=n:=by
 simp[IntKind.wrap,IntKind.bits,IntKind.signed];omega
theorem qgI (n:Int):IntKind.u16.wrap n=n % 65536:=by
 simp[IntKind.wrap,IntKind.bits,IntKind.signed]
theorem and_op (n:Int):zQ .and .i64 n 65535=some (.int .i64 (qN n)):=by
 have h1:=qF n;have h2:=qmF n;have h5:n % 65536=qN n:=rfl;show some (AV.int .i64 (IntKind.i64.wrap ((BitVec.ofInt 64 n &&& 65535#64).toNat:Int)))=_;rw[h2,h5,wr (by omega) (by omega)]
theorem KR (n:Int):Pure Tryz.prog GG 332 [.int .i64 n] (.int .u16 (qN n)):=by
 refine Pure.vc qe Tryz.func332 rfl (by kernel_rfl) ?_;have h1:=qF n;have h4:IntKind.u16.wrap (qN n)=qN n:=wr16 h1.1 h1.2;simp[-zQ,and_op,yU,h4]
theorem JR (n:Int)(h0:0<=n)(h1:n<=65535):Pure Tryz.prog GG 333 [.int .u16 n] (.int .i64 n):=by
 refine Pure.vc qe Tryz.func333 rfl (by kernel_rfl) ?_;have h3:IntKind.i64.wrap n=n:=wr (by omega) (by omega);simp[yU,h3]
theorem qnS (n:Int):Pure Tryz.prog GG 324 [.int .i64 n] (.int .i64 (qN n)):=by
 refine Pure.vc qe Tryz.func324 rfl (by kernel_rfl) ?_
 try simp
 refine qb.call (KR n) rfl ?_
 try simp
 refine qb.call (JR (qN n) (qF n).1 (qF n).2) rfl ?_;simp
theorem qhb {f:FuncId}{x:AV}{b r:Int}(hx:qC x=true)(h0:0<=r)(h1:r<=65535)(h:Pure Tryz.prog GG f [x,.int .u16 (qN b)] (.int .u16 r)):Pure Tryz.prog GG 334 [.fn f [x] [],.int .i64 b] (.int .i64 r):=by
 refine Pure.vc qe Tryz.func334 rfl (by kernel_rfl) ?_
 try simp
 refine qb.call (KR b) rfl ?_
 try simp
 refine qb.call h (by simp[hx]) ?_
 try simp
 refine qb.call (JR r h0 h1) rfl ?_;simp
theorem qm8 {f:FuncId}{x:AV}{r:Int}(hx:qC x=true)(h0:0<=r)(h1:r<=65535)(h:Pure Tryz.prog GG f [x] (.int .u16 r)):Pure Tryz.prog GG 344 [.fn f [x] []] (.int .i64 r):=by
 refine Pure.vc qe Tryz.func344 rfl (by kernel_rfl) ?_
 try simp
 refine qb.call h (by simp[hx]) ?_
 try simp
 refine qb.call (JR r h0 h1) rfl ?_;simp
theorem qnZ (a b:Int):Pure Tryz.prog GG 335 [.int .u16 (qN a),.int .u16 (qN b)] (.int .u16 (qN (a+b))):=by
 refine Pure.vc qe Tryz.func335 rfl (by kernel_rfl) ?_;have h:IntKind.u16.wrap (qN a+qN b)=qN (a+b):=by rw[qgI];unfold qN;omega
 simp[zQ,h]
theorem qnP (a b:Int):Pure Tryz.prog GG 348 [.int .u16 (qN a),.int .u16 (qN b)] (.int .u16 (qN (a-b))):=by
 refine Pure.vc qe Tryz.func348 rfl (by kernel_rfl) ?_;have h:IntKind.u16.wrap (qN a-qN b)=qN (a-b):=by rw[qgI];unfold qN;omega
 simp[zQ,h]
theorem qgH (a b:Int):qN (qN a*qN b)=qN (a*b):=by
 unfold qN;rw[<- qtO]
theorem qnW (a b:Int):Pure Tryz.prog GG 349 [.int .u16 (qN a),.int .u16 (qN b)] (.int .u16 (qN (a*b))):=by
 refine Pure.vc qe Tryz.func349 rfl (by kernel_rfl) ?_;have h:IntKind.u16.wrap (qN a*qN b)=qN (a*b):=by rw[qgI];exact qgH a b
 simp[zQ,h]
theorem qnV (a:Int):Pure Tryz.prog GG 346 [.int .u16 (qN a)] (.int .u16 (qN (0-a))):=by
 refine Pure.vc qe Tryz.func346 rfl (by kernel_rfl) ?_;have h:IntKind.u16.wrap (0-qN a)=qN (0-a):=by rw[qgI];unfold qN;omega
 simp only[Int.zero_sub]at h ⊢;simp[unA,h]
theorem qj3 {n:Int}(h0:0<=n)(h1:n<=65535):(((BitVec.ofInt 16 65535) ^^^ (BitVec.ofInt 16 n)).toNat:Int)=65535-n:=by
 have e:BitVec.ofInt 16 65535=BitVec.allOnes 16:=by decide
 rw[e,BitVec.allOnes_xor,BitVec.toNat_not,BitVec.toNat_ofInt];omega
theorem qnX (a:Int):Pure Tryz.prog GG 345 [.int .u16 (qN a)] (.int .u16 (65535-qN a)):=by
 refine Pure.vc qe Tryz.func345 rfl (by kernel_rfl) ?_;have hr:=qF a;have h:=qj3 hr.1 hr.2;have h2:IntKind.u16.wrap (65535-qN a)=65535-qN a:=wr16 (by omega) (by omega);have h3:(if IntKind.u16.signed=true then (-1:Int) else IntKind.u16.max)=65535:=by decide
 have h4:unA .xor (.int .u16 (qN a))=some (.int .u16 (65535-qN a)):=by
  unfold unA;simp only[];rw[h3];show some (AV.int .u16 (IntKind.u16.wrap (((BitVec.ofInt 16 65535) ^^^ (BitVec.ofInt 16 (qN a))).toNat:Int)))=_;rw[h,h2]
 simp[-unA,h4]
theorem qnD (a b:Int):Pure Tryz.prog GG 325 [.int .i64 a,.int .i64 b] (.int .i64 (qN (a+b))):=by
 refine Pure.vc qe Tryz.func325 rfl (by kernel_rfl) ?_
 try simp
 refine qb.call (KR a) rfl ?_
 try simp
 refine qb.call (qhb (by simp) (qF _).1 (qF _).2 (qnZ a b)) rfl ?_;simp
theorem sub301 (a b:Int):Pure Tryz.prog GG 340 [.int .i64 a,.int .i64 b] (.int .i64 (qN (a-b))):=by
 refine Pure.vc qe Tryz.func340 rfl (by kernel_rfl) ?_
 try simp
 refine qb.call (KR a) rfl ?_
 try simp
 refine qb.call (qhb (by simp) (qF _).1 (qF _).2 (qnP a b)) rfl ?_;simp
theorem mul302 (a b:Int):Pure Tryz.prog GG 341 [.int .i64 a,.int .i64 b] (.int .i64 (qN (a*b))):=by
 refine Pure.vc qe Tryz.func341 rfl (by kernel_rfl) ?_
 try simp
 refine qb.call (KR a) rfl ?_
 try simp
 refine qb.call (qhb (by simp) (qF _).1 (qF _).2 (qnW a b)) rfl ?_;simp
theorem inv298 (a:Int):Pure Tryz.prog GG 337 [.int .i64 a] (.int .i64 (65535-qN a)):=by
 refine Pure.vc qe Tryz.func337 rfl (by kernel_rfl) ?_;have hr:=qF a
 try simp
 refine qb.call (KR a) rfl ?_
 try simp
 refine qb.call (qm8 (by simp) (by omega) (by omega) (qnX a)) rfl ?_;simp
theorem neg299 (a:Int):Pure Tryz.prog GG 338 [.int .i64 a] (.int .i64 (qN (0-a))):=by
 refine Pure.vc qe Tryz.func338 rfl (by kernel_rfl) ?_
 try simp
 refine qb.call (KR a) rfl ?_
 try simp
 refine qb.call (qm8 (by simp) (qF _).1 (qF _).2 (qnV a)) rfl ?_;simp
def shlW (a b:Int):Int:=if 0<=b/\b<16 then qN (a*2 ^ b.toNat) else 0
def shrW (a b:Int):Int:=if 0<=b/\b<16 then qN a / 2 ^ b.toNat else 0
theorem qdP {f:FuncId}{x:AV}{b r:Int}(hx:qC x=true)(h0:0<=r)(h1:r<=65535)(h:0<=b->b<16->Pure Tryz.prog GG f [x,.int .i64 b] (.int .u16 r)) :
 Pure Tryz.prog GG 350 [.fn f [x] [],.int .i64 b] (.int .i64 (if 0<=b/\b<16 then r else 0)):=by
 refine Pure.vc qe Tryz.func350 rfl (by kernel_rfl) ?_;by_cases c0:b<0
 . rw[if_neg (by omega)];simp[c0]
 . by_cases c1:16<=b
   . rw[if_neg (by omega)];simp[c0,c1]
   . rw[if_pos (by omega)];simp[c0,c1];refine qb.call (h (by omega) (by omega)) (by simp[hx]) ?_
     try simp
     refine qb.call (JR r h0 h1) rfl ?_;simp
theorem qe5 (a c:Int):qN (qN a*c)=qN (a*c):=by
 unfold qN;rw[qtO,Int.emod_emod_of_dvd _ (Int.dvd_refl _),<- qtO]
theorem qnR (a b:Int)(h0:0<=b)(h1:b<16):Pure Tryz.prog GG 351 [.int .u16 (qN a),.int .i64 b] (.int .u16 (qN (a*2 ^ b.toNat))):=by
 refine Pure.vc qe Tryz.func351 rfl (by kernel_rfl) ?_;have hm:min b.toNat 16=b.toNat:=by omega
 have h:IntKind.u16.wrap (qN a*2 ^ b.toNat)=qN (a*2 ^ b.toNat):=by rw[qgI];exact qe5 a _
 have h2:¬ b<0:=by omega
 simp[qmw,IntKind.bits,hm,h,h2]
theorem qnQ (a b:Int)(h0:0<=b)(h1:b<16):Pure Tryz.prog GG 352 [.int .u16 (qN a),.int .i64 b] (.int .u16 (qN a / 2 ^ b.toNat)):=by
 refine Pure.vc qe Tryz.func352 rfl (by kernel_rfl) ?_;have hm:min b.toNat 16=b.toNat:=by omega
 have hp:(0:Int)<2 ^ b.toNat:=qtw (by omega);have h:(qN a).fdiv (2 ^ b.toNat)=qN a / 2 ^ b.toNat:=qsf _ (by omega);have h2:¬ b<0:=by omega
 simp[qmw,IntKind.bits,hm,h,h2]
theorem shl303 (a b:Int):Pure Tryz.prog GG 342 [.int .i64 a,.int .i64 b] (.int .i64 (shlW a b)):=by
 refine Pure.vc qe Tryz.func342 rfl (by kernel_rfl) ?_
 try simp
 refine qb.call (KR a) rfl ?_
 try simp
 refine qb.call (qdP (by simp) (qF _).1 (qF _).2 (qnR a b)) rfl ?_;simp[shlW]
theorem shr304 (a b:Int):Pure Tryz.prog GG 343 [.int .i64 a,.int .i64 b] (.int .i64 (shrW a b)):=by
 refine Pure.vc qe Tryz.func343 rfl (by kernel_rfl) ?_;have hr:=qaI b.toNat (qF a).1 (qF a).2
 try simp
 refine qb.call (KR a) rfl ?_
 try simp
 refine qb.call (qdP (by simp) hr.1 hr.2 (qnQ a b)) rfl ?_;simp[shrW]
def tabW:List UInt8:=(List.range 256).map fun i=>UInt8.ofNat (kD i 8)
theorem qdB {i:Nat}(h:i<256):tabW[i]?=some (UInt8.ofNat (kD i 8)):=by simp[tabW,h]
theorem qea (a:Nat):∀ i,i<=8->kD (a % 256) i=kD a i
 | 0,_=>rfl
 | i+1,h=>by
  have h1:(a % 256).testBit i=a.testBit i:=by
   rw[show 256=2 ^ 8 by decide,qsU];simp;omega
  simp only[kD,qea a i (by omega),h1]
theorem qeb (a:Nat):∀ i,kD a (8+i)=kD a 8+kD (a / 256) i
 | 0=>by simp[kD]
 | i+1=>by
  have h1:(a / 256).testBit i=a.testBit (8+i):=by
   rw[show 256=2 ^ 8 by decide,qts,qrO]
  show kD a (8+i+1)=_;simp only[kD,qeb a i,h1];omega
theorem qlc (a:Nat):kD a 16=kD (a / 256) 8+kD (a % 256) 8:=by
 rw[qea a 8 (qqf _),show 16=8+8 by rfl,qeb];omega
theorem tabL:([0,1,1,2,1,2,2,3,1,2,2,3,2,3,3,4,1,2,2,3,2,3,3,4,2,3,3,4,3,4,4,5,1,2,2,3,2,3,3,4,2,3,3,4,3,4,4,5,2,3,3,4,3,4,4,5,3,4,4,5,4,5,5,6,1,2,2,3,2,3,3,4,2,3,3,4,3,4,4,5,2,3,3,4,3,4,4,5,3,4,4,5,4,5,5,6,2,3,3,4,3,4,4,5,3,4,4,5,4,5,5,6,3,4,4,5,4,5,5,6,4,5,5,6,5,6,6,7,1,2,2,3,2,3,3,4,2,3,3,4,3,4,4,5,2,3,3,4,3,4,4,5,3,4,4,5,4,5,5,6,2,3,3,4,3,4,4,5,3,4,4,5,4,5,5,6,3,4,4,5,4,5,5,6,4,5,5,6,5,6,6,7,2,3,3,4,3,4,4,5,3,4,4,5,4,5,5,6,3,4,4,5,4,5,5,6,4,5,5,6,5,6,6,7,3,4,4,5,4,5,5,6,4,5,5,6,5,6,6,7,4,5,5,6,5,6,6,7,5,6,6,7,6,7,7,8]:List UInt8)=tabW:=by decide +kernel
theorem qoL (a:Int)(h0:0<=a)(h1:a<=65535):Pure Tryz.prog GG 347 [.int .u16 a] (.int .i64 (kD a.toNat 16)):=by
 refine Pure.vc qe Tryz.func347 rfl (by kernel_rfl) ?_;obtain⟨n,rfl⟩:=qqM h0;have e1:qmw (Dof Tryz.prog) .shr 324 (.int .u16 (n:Int)) (.int .u64 8)=some (.int .u16 ((n / 256:Nat):Int)):=by
  have e:(n:Int).fdiv (2 ^ (min 8 IntKind.u16.bits))=((n / 256:Nat):Int):=by
   show (n:Int).fdiv 256=_;rw[qsf _ (by omega)];omega
  show some (AV.int .u16 ((n:Int).fdiv (2 ^ (min 8 IntKind.u16.bits))))=_;rw[e]
 have e2:qmw (Dof Tryz.prog) .and 324 (.int .u16 (n:Int)) (.int .u16 255)=some (.int .u16 ((n % 256:Nat):Int)):=by
  have e:((BitVec.ofInt 16 (n:Int) &&& 255#16).toNat:Int)=((n % 256:Nat):Int):=by
   rw[BitVec.toNat_and,BitVec.toNat_ofInt];have e:(255#16).toNat=2 ^ 8-1:=(by decide);rw[e,qsx];omega
  show some (AV.int .u16 (IntKind.u16.wrap ((BitVec.ofInt 16 (n:Int) &&& 255#16).toNat:Int)))=_;rw[e,wr16 (by omega) (by omega)]
 have g1:=qdB (i:=n / 256) (by omega);have g2:=qdB (i:=n % 256) (by omega);have l1:=JX (n / 256) 8;have l2:=JX (n % 256) 8;have e4:=qlc n;have p1:(0:Int)<=((n / 256:Nat):Int):=by omega
 have p2:(0:Int)<=((n % 256:Nat):Int):=by omega
 have u:∀ x y:Nat,x<=8->y<=8->IntKind.u8.wrap (((x:Int) % 256)+((y:Int) % 256))=(x:Int)+y/\IntKind.i64.wrap ((x:Int)+y)=x+y:=by
  intro x y hx hy;refine⟨?_,wr (by omega) (by omega)⟩;simp[IntKind.wrap,IntKind.bits,IntKind.signed];omega
 obtain⟨w1,w2⟩:=u _ _ l1 l2;rw[qq7,e4];generalize n / 256=p at *;generalize n % 256=q at *;simp[e1,e2,tabL,g1,g2,-qmw,-zQ];simp[w1,w2,yU]
theorem qoM (a:Int):Pure Tryz.prog GG 339 [.int .i64 a] (.int .i64 (kD (qN a).toNat 16)):=by
 refine Pure.vc qe Tryz.func339 rfl (by kernel_rfl) ?_
 try simp
 refine qb.call (KR a) rfl ?_
 try simp
 refine qb.call (qoL (qN a) (qF a).1 (qF a).2) rfl ?_;simp
theorem Jd (a b:Int):(a==b)=decide (a=b):=by
 by_cases h:a=b
 . subst h;simp
 . rw[decide_eq_false h];exact beq_eq_false_iff_ne.2 h
theorem KA (a b:Int):(a != b) = !decide (a=b):=by rw[bne,Jd]
theorem yl (b:Bool):Pure Tryz.prog GG 336 [.bool b] (.int .i64 (b2i b)):=by
 refine Pure.vc qe Tryz.func336 rfl (by kernel_rfl) ?_;cases b<;>simp[b2i]
theorem qpP (a b:Int):b2i (a==b)=b2i (decide (a=b)):=by
 have e:(a==b)=decide (a=b):=by
  by_cases h:a=b
  . subst h;simp
  . rw[decide_eq_false h];exact beq_eq_false_iff_ne.2 h
 rw[e]
theorem qhq (op a:Int):Pure Tryz.prog GG 326 [.int .i64 op,.int .i64 a] (.int .i64 (unW op a)):=by
 refine Pure.vc qe Tryz.func326 rfl (by kernel_rfl) ?_;by_cases h4:op=4
 . subst h4;simp;refine qb.call (yl _) rfl ?_;simp[unW,qpP]
 by_cases h5:op=5
 . subst h5;simp;refine qb.call (inv298 a) rfl ?_;simp[unW]
 by_cases h6:op=6
 . subst h6;simp;refine qb.call (neg299 a) rfl ?_;simp[unW]
 simp[h4,h5,h6];refine qb.call (qoM a) rfl ?_;simp[unW,h4,h5,h6]
theorem qoY {x y:Nat}(hx:x<65536)(hy:y<65536):zQ .and .i64 (x:Int) (y:Int)=some (.int .i64 ((x &&& y:Nat):Int)):=by
 have h:=Nat.and_lt_two_pow (n:=16) x (y:=y) (by omega);have e1:(BitVec.ofInt IntKind.i64.bits (x:Int)).toNat=x:=by
  show (BitVec.ofInt 64 (x:Int)).toNat=x;rw[BitVec.toNat_ofInt];omega
 have e2:(BitVec.ofInt IntKind.i64.bits (y:Int)).toNat=y:=by
  show (BitVec.ofInt 64 (y:Int)).toNat=y;rw[BitVec.toNat_ofInt];omega
 show some (AV.int .i64 (IntKind.i64.wrap ((BitVec.ofInt IntKind.i64.bits (x:Int) &&& BitVec.ofInt IntKind.i64.bits (y:Int)).toNat:Int)))=_;rw[BitVec.toNat_and,e1,e2,wr (by omega) (by omega)]
theorem nat_or {x y:Nat}(hx:x<65536)(hy:y<65536):zQ .or .i64 (x:Int) (y:Int)=some (.int .i64 ((x ||| y:Nat):Int)):=by
 have h:=Nat.or_lt_two_pow (n:=16) (x:=x) (y:=y) (by omega) (by omega);have e1:(BitVec.ofInt IntKind.i64.bits (x:Int)).toNat=x:=by
  show (BitVec.ofInt 64 (x:Int)).toNat=x;rw[BitVec.toNat_ofInt];omega
 have e2:(BitVec.ofInt IntKind.i64.bits (y:Int)).toNat=y:=by
  show (BitVec.ofInt 64 (y:Int)).toNat=y;rw[BitVec.toNat_ofInt];omega
 show some (AV.int .i64 (IntKind.i64.wrap ((BitVec.ofInt IntKind.i64.bits (x:Int) ||| BitVec.ofInt IntKind.i64.bits (y:Int)).toNat:Int)))=_;rw[BitVec.toNat_or,e1,e2,wr (by omega) (by omega)]
theorem qoX {x y:Nat}(hx:x<65536)(hy:y<65536):zQ .xor .i64 (x:Int) (y:Int)=some (.int .i64 ((x ^^^ y:Nat):Int)):=by
 have h:=Nat.xor_lt_two_pow (n:=16) (x:=x) (y:=y) (by omega) (by omega);have e1:(BitVec.ofInt IntKind.i64.bits (x:Int)).toNat=x:=by
  show (BitVec.ofInt 64 (x:Int)).toNat=x;rw[BitVec.toNat_ofInt];omega
 have e2:(BitVec.ofInt IntKind.i64.bits (y:Int)).toNat=y:=by
  show (BitVec.ofInt 64 (y:Int)).toNat=y;rw[BitVec.toNat_ofInt];omega
 show some (AV.int .i64 (IntKind.i64.wrap ((BitVec.ofInt IntKind.i64.bits (x:Int) ^^^ BitVec.ofInt IntKind.i64.bits (y:Int)).toNat:Int)))=_;rw[BitVec.toNat_xor,e1,e2,wr (by omega) (by omega)]
def qbH (env:List Signal)(name:Str):AV:=.tup [.int .i64 ((zV env name).getD 0),.bool (zV env name).isSome]
theorem qlW {env:List Signal}{name:Str}{i:Nat}{s:Signal}(h:env[i]?=some s)(hz:∀ x∈env.take i,x.name≠name)(hs:s.name=name):zV env name=some (qN s.value):=by
 have e:env=env.take i++s::env.drop (i+1):=by
  rw[<- zB h,qqQ]
 unfold zV;have hn:(env.take i).find? (fun s=>s.name==name)=none:=by
  rw[qsS];intro x hx;simpa using hz x hx
 rw[e,List.find?_append,hn];simp[hs]
theorem qga {env:List Signal}{name:Str}(h:∀ x∈env,x.name≠name):zV env name=none:=by
 unfold zV;have hn:env.find? (fun s=>s.name==name)=none:=by
  rw[qsS];intro x hx;simpa using h x hx
 rw[hn];rfl
theorem qcS (env:List Signal)(name:Str)(hl:Fits env):Pure Tryz.prog GG 307 [.agg [.sl 2 (env.map ze) .none],.str name] (qbH env name):=by
 refine Pure.vc qe Tryz.func307 rfl (by kernel_rfl) ?_;simp;refine qD.intro (fun n e U=>∃ i tl,i<=env.length/\n=env.length-i/\e 1=.str name/\e 9=.sl 2 (env.map ze) .none/\e 10=.int .i64 env.length/\e 11=.int .i64 i/\U=⟨tl,[]⟩/\∀ x∈env.take i,x.name≠name) env.length ⟨0,_,by simp,by simp,by simp,by simp,by simp,by simp,rfl,by simp⟩ ?_;rintro n e U ⟨i,tl,hi,rfl,h1,h9,h10,h11,rfl,hz⟩
 cases hv:env[i]? with
 | some s=>
  obtain⟨hc,hv'⟩:=qp5.1 hv;by_cases hs:s.name=name
  . have x:=qlW hv hz hs;simp[h1,h9,h10,h11,hc,hv',hs,qqz];refine qb.call (qnS s.value) rfl ?_;simp[qbH,x]
  . simp[h1,h9,h10,h11,hc,hv',hs,qqz];exact⟨_,by omega,i+1,by omega,rfl,wr (by omega) (by omega),zh hv hz hs⟩
 | none=>
  have hc:¬ i<env.length:=by simp at hv;omega
  have ht:env.take i=env:=qqg (by omega);rw[ht]at hz;have x:=qga hz;simp[h1,h9,h10,h11,hc,qbH,x]
def atR (env:List Signal)(a:Str)(i:Int):AV:=if 0<=i/\i<8 then qbH env (z9 a i.toNat) else .tup [.int .i64 0,.bool false]
theorem qpR (env:List Signal)(a:Str)(i:Int)(hl:Fits env)(ha:a.length<=1000):Pure Tryz.prog GG 308 [.agg [.sl 2 (env.map ze) .none],.str a,.int .i64 i] (atR env a i):=by
 refine Pure.vc qe Tryz.func308 rfl (by kernel_rfl) ?_;unfold atR;by_cases c0:i<0
 . rw[if_neg (by omega)];simp[c0]
 by_cases c1:8<=i
 . rw[if_neg (by omega)];simp[c0,c1]
 rw[if_pos (by omega)];obtain⟨n,rfl⟩:=qqM (show 0<=i by omega);have hn:n<8:=by omega
 have h1:a.length+1<=4611686018427387904:=by omega
 have h2:a.length+(1+1)<=4611686018427387904:=by omega
 have h3:a.length+(1+(1+1))<=4611686018427387904:=by omega
 have h4:a.length+1+1<=4611686018427387904:=by omega
 have h5:a.length+1+1+1<=4611686018427387904:=by omega
 have w1:IntKind.i64.wrap (48+(n:Int))=((48+n:Nat):Int):=by rw[wr (by omega) (by omega)];omega
 have w2:IntKind.u8.wrap ((48+n:Nat):Int)=((48+n:Nat):Int):=by simp[IntKind.wrap,IntKind.bits,IntKind.signed];omega
 have he:a++[91,UInt8.ofNat (48+n),93]=z9 a n:=rfl;have hf:=qcS env (z9 a n) hl;have w3:IntKind.u8.wrap (48+(n:Int))=((48+n:Nat):Int):=by rw[<- w2];congr 1
 have w4:UInt8.ofNat (((48+n:Nat):Int)).toNat=UInt8.ofNat (48+n):=by rw[qq7]
 have w5:UInt8.ofNat (IntKind.u8.wrap (48+(n:Int))).toNat=UInt8.ofNat (48+n):=by rw[w3,w4]
 simp[c0,c1,h1,h2,h3,h4,h5,w1,yU,qk,qA,bytesOf];rw[w5,he];refine qb.call hf (by simp) ?_;simp[qbH]
theorem qde {env:List Signal}{a:Str}{i:Int}:∃ b,atR env a i=.tup [.int .i64 (atV env a i),.bool b]/\(i=0->b=(zV env (z9 a 0)).isSome):=by
 unfold atR atV;by_cases h:0<=i/\i<8
 . rw[if_pos h,if_pos h];exact⟨_,rfl,fun e=>by subst e;rfl⟩
 . rw[if_neg h,if_neg h];exact⟨false,rfl,fun e=>absurd (by omega) h⟩
theorem sum166 (env:List Signal)(a:Str)(hl:Fits env)(ha:a.length<=1000):Pure Tryz.prog GG 309 [.agg [.sl 2 (env.map ze) .none],.str a] (.int .i64 (qmS env a 8)):=by
 refine Pure.vc qe Tryz.func309 rfl (by kernel_rfl) ?_;simp;refine qD.intro (fun n e U=>∃ i:Nat,i<=8/\n=8-i/\e 1=.str a/\e 2=.ptr 0 0/\e 5=.int .i64 (qmS env a i)/\e 9=.int .i64 i/\U=⟨[.cells [.sl 2 (env.map ze) .none]],[]⟩) 8 ⟨0,by simp[qmS]⟩ ?_;rintro n e U ⟨i,hi,rfl,h1,h2,h5,h9,rfl⟩;by_cases hc:i<8
 . have hc':(i:Int)<8:=(by omega);obtain⟨b,hb,_⟩:=qde (env:=env) (a:=a) (i:=i);have hat:=qpR env a i hl ha;rw[hb]at hat;simp[h1,h2,h5,h9,hc'];refine qb.call hat (by simp) ?_;simp[h1,h2,h5,h9];refine qb.call (qnD _ _) rfl ?_;simp[h1,h2,h5,h9];exact⟨_,by omega,i+1,by omega,rfl,rfl,wr (by omega) (by omega)⟩
 . have hi':i=8:=(by omega);subst hi';simp[h1,h2,h5,h9]
theorem Ka (k:IntKind)(a b:Int):zQ .eql k a b=some (.bool (a==b)):=rfl
theorem qi3 (op:Int)(x y:Nat)(hx:x<65536)(hy:y<65536):Pure Tryz.prog GG 327 [.int .i64 op,.int .i64 x,.int .i64 y] (.int .i64 (yL op x y)):=by
 refine Pure.vc qe Tryz.func327 rfl (by kernel_rfl) ?_;have n1:=qoY hx hy;have n2:=nat_or hx hy;have n3:=qoX hx hy;by_cases h7:op=7
 . subst h7;simp;refine qb.call (qnD x y) rfl ?_;simp[yL]
 by_cases h8:op=8
 . subst h8;simp;refine qb.call (sub301 x y) rfl ?_;simp[yL]
 by_cases h9:op=9
 . subst h9;simp;refine qb.call (mul302 x y) rfl ?_;simp[yL]
 by_cases h10:op=10
 . subst h10;have hb:yL 10 x y=((x &&& y:Nat):Int):=(by simp[yL]);rw[hb];simp[n1,Ka,-zQ]
 by_cases h11:op=11
 . subst h11;have hb:yL 11 x y=((x ||| y:Nat):Int):=(by simp[yL]);rw[hb];simp[n2,Ka,-zQ]
 by_cases h12:op=12
 . subst h12;have hb:yL 12 x y=((x ^^^ y:Nat):Int):=(by simp[yL]);rw[hb];simp[n3,Ka,-zQ]
 by_cases h13:op=13
 . subst h13;simp;refine qb.call (shl303 x y) rfl ?_;simp[yL,shlW]
 by_cases h14:op=14
 . subst h14;simp;refine qb.call (shr304 x y) rfl ?_;simp[yL,shrW]
 by_cases h15:op=15
 . subst h15;simp;refine qb.call (yl _) rfl ?_
   try simp only[Jd,KA]
   by_cases h:x=y<;>simp[yL,h]
 by_cases h16:op=16
 . subst h16;simp;refine qb.call (yl _) rfl ?_
   try simp only[Jd,KA]
   by_cases h:x=y<;>simp[yL,h]
 by_cases h17:op=17
 . subst h17;simp;refine qb.call (yl _) rfl ?_;by_cases h:x<y<;>simp[yL,h]
 by_cases h18:op=18
 . subst h18;simp;refine qb.call (yl _) rfl ?_;by_cases h:x<=y<;>simp[yL,h]
 by_cases h19:op=19
 . subst h19;by_cases h:x=0
   . simp[h];refine qb.call (yl _) rfl ?_;simp[yL,h]
   . simp[h];refine qb.call (yl _) rfl ?_
     (try simp only[Jd,KA]);by_cases h':y=0<;>simp[yL,h,h']
 by_cases h20:op=20
 . subst h20;by_cases h:x=0
   . simp[h];refine qb.call (yl _) rfl ?_
     (try simp only[Jd,KA]);by_cases h':y=0<;>simp[yL,h,h']
   . simp[h];refine qb.call (yl _) rfl ?_;simp[yL,h]
 have hb:yL op x y=b2i (decide ((x:Int)=0)||!decide ((y:Int)=0)):=by simp[yL,h7,h8,h9,h10,h11,h12,h13,h14,h15,h16,h17,h18,h19,h20]
 rw[hb];by_cases h:x=0
 . simp[h7,h8,h9,h10,h11,h12,h13,h14,h15,h16,h17,h18,h19,h20,h];refine qb.call (yl _) rfl ?_;simp
 . simp[h7,h8,h9,h10,h11,h12,h13,h14,h15,h16,h17,h18,h19,h20,h];refine qb.call (yl _) rfl ?_
   try simp only[Jd,KA]
   by_cases h':y=0<;>simp[h,h']
section
theorem opW_1 {op a:Int}(h22:op≠22)(h23:op≠23):opW op [a]=unW op a:=by simp[opW,h22,h23]
theorem opW_2 {op a b:Int}(h22:op≠22)(h23:op≠23):opW op [a,b]=yL op a b:=by simp[opW,h22,h23]
theorem qm7 {l:List Int}:opW 22 l=if l.getD 0 0≠0 then l.getD 1 0 else l.getD 2 0:=by simp[opW]
theorem opW_23 {l:List Int}:opW 23 l=b2i (jO (l.getD 0 0) l.tail):=by simp[opW]
theorem qbj {a x y:Int}{r:List Int}:jO a (x::y::r)=((decide (x<=a)&&decide (a<=y))||jO a r):=by simp[jO]
theorem VF {a:Int}{r:List Int}(h:r.length<2):jO a r=false:=by
 match r,h with
 | [],_=>rfl
 | [x],_=>rfl
 | x::y::r,h=>simp at h;omega
theorem qpU {α:Type}{p:α->Bool}{l:List α}{a:α}(h:a∈l)(hp:p a=false):l.all p=false:=by
 rw[qrg];intro e;rw[qqi.1 e a h]at hp;cases hp
theorem list3 {l:List Int}(h:l.length=3):∃ a b c,l=[a,b,c]:=by
 match l,h with
 | [a,b,c],_=>exact⟨a,b,c,rfl⟩
theorem list1 {l:List Int}(h:l.length=1):∃ a,l=[a]:=by
 match l,h with
 | [a],_=>exact⟨a,rfl⟩
theorem list2 {l:List Int}(h:l.length=2):∃ a b,l=[a,b]:=by
 match l,h with
 | [a,b],_=>exact⟨a,b,rfl⟩
theorem qfG (op:Int)(l:List Int)(hr:∀ v∈l,0<=v/\v<=65535)(h22:op=22->l.length=3)(h23:op=23->3<=l.length/\l.length<=33)(ho:op≠22->op≠23->l.length=1\/l.length=2) :
 Pure Tryz.prog GG 310 [.int .i64 op,.sl 1 (l.map qy) .none] (.int .i64 (opW op l)):=by
 refine Pure.vc qe Tryz.func310 rfl (by kernel_rfl) ?_;by_cases c22:op=22
 . obtain⟨a,b,c,rfl⟩:=list3 (h22 c22);subst c22;by_cases ha:a=0
   . simp[ha,qm7]
   . simp[ha,qm7]
 by_cases c23:op=23
 . obtain⟨h3,h33⟩:=h23 c23;subst c23;obtain⟨a,ga⟩:∃ a,l[0]?=some a:=⟨_,qp8 (by omega)⟩;obtain⟨g0,ga'⟩:=qp5.1 ga;have hw:opW 23 l=b2i (jO a (l.drop 1)):=by
    rw[opW_23,qqh,ga];simp
   rw[hw];generalize hT:jO a (l.drop 1)=T;simp;refine qD.intro (fun n env U=>∃ i:Nat,1<=i/\i<=l.length+1/\n=l.length+1-i/\env 1=.sl 1 (l.map qy) .none/\env 5=.int .i64 i/\U=⟨[],[]⟩/\jO a (l.drop i)=T) l.length ⟨1,by simp,by omega,by omega,by simp,by simp,rfl,hT⟩ ?_;rintro n env U ⟨i,hi1,hi2,rfl,h1,h5,rfl,hin⟩;have w1:IntKind.i64.wrap ((i:Int)+1)=(i:Int)+1:=wr (by omega) (by omega);have w2:IntKind.i64.wrap ((i:Int)+2)=((i+2:Nat):Int):=(by rw[wr (by omega) (by omega)];omega);have n1:((i:Int)+1).toNat=i+1:=(by omega);have p1:(0:Int)<=(i:Int)+1:=(by omega);by_cases hc:i+1<l.length
   . obtain⟨x,gx⟩:∃ x,l[i]?=some x:=⟨_,qp8 (by omega)⟩;obtain⟨y,gy⟩:∃ y,l[i+1]?=some y:=⟨_,qp8 (by omega)⟩;obtain⟨q1,gx'⟩:=qp5.1 gx;obtain⟨q2,gy'⟩:=qp5.1 gy;rw[zB gx,zB gy,qbj]at hin;have hc':(i:Int)+1<l.length:=(by omega);by_cases c1:x<=a
     . by_cases c2:a<=y
       . have hT1:T=true:=(by rw[<- hin];simp[c1,c2]);rw[hT1];simp[h1,h5,w1,n1,p1,hc',hc,q1,q2,g0,ga',gx',gy',c1,c2,b2i]
       . have hin:jO a (l.drop (i+2))=T:=(by rw[<- hin];simp[c1,c2]);simp[h1,h5,w1,w2,n1,p1,hc',hc,q1,q2,g0,ga',gx',gy',c1,c2];exact⟨_,by omega,i+2,by omega,by omega,rfl,by omega,hin⟩
     . have hin:jO a (l.drop (i+2))=T:=(by rw[<- hin];simp[c1]);simp[h1,h5,w1,w2,n1,p1,hc',hc,q1,q2,g0,ga',gx',gy',c1];exact⟨_,by omega,i+2,by omega,by omega,rfl,by omega,hin⟩
   . have hc':¬ (i:Int)+1<l.length:=(by omega);have hs:T=false:=(by rw[<- hin];exact VF (by simp;omega));rw[hs];simp[h1,h5,w1,hc',b2i]
 . rcases ho c22 c23 with h|h
   . obtain⟨a,rfl⟩:=list1 h;rw[opW_1 c22 c23];simp[c22,c23];refine qb.call (qhq op a) rfl ?_;simp
   . obtain⟨a,b,rfl⟩:=list2 h;obtain⟨a0,a1⟩:=hr a (by simp);obtain⟨b0,b1⟩:=hr b (by simp);obtain⟨x,rfl⟩:=qqM a0;obtain⟨y,rfl⟩:=qqM b0;rw[opW_2 c22 c23];simp[c22,c23];refine qb.call (qi3 op x y (by omega) (by omega)) rfl ?_;simp
def qd6 (s:List Int):AV:=match s with
 | []=>.sl 0 [] .nil
 | a::r=>.sl 1 ((a::r).map qy) (.chain 0 (r.length+1))
def qfF (s:List Int):List (Option Nat):=match s with
 | []=>[]
 | _::r=>[some (r.length+1)]
theorem qk9 (s:List Int):qC (plain (qd6 s))=true:=by cases s<;>simp[qd6]
theorem qla (s:List Int):Leq (plain (qd6 s)) (.sl 1 (s.map qy) .none):=by
 cases s with
 | nil=>simp[qd6,Leq]
 | cons a r=>exact Leq.sl rfl
section
variable {P:Program}{G:Nat->AV}{U:St}{f:FuncId}{Q:AV->St->Prop}{r:AV}
theorem qb.outN2 {d:Bool}{a:AV}{s:List Int}(ha:qC a=true)(h:Abs.Pure P G f [a,.sl 1 (s.map qy) .none] r)(hq:Q r U):qb P G d f [a,qd6 s] U Q:=by
 refine qb.pure h ?_ ?_ hq
 . simp only[qqk,qqF,qq,qk9,QN ha,ha,Bool.and_self]
 . simp only[qqk,qqF,zm,and_true,QN ha];exact⟨Leq.refl _,qla s⟩
end
theorem qjG {e:Ex}(h:yM e){n:Nat}(hop:e.op≠23)(ha:zy e.op=n):e.args.length=n:=by
 obtain⟨_,_,_,_,ho,_⟩:=jo h.self;have:=wO ho hop;omega
theorem qpS {e:Ex}(h:yM e):e.args.length<=33:=by
 obtain⟨_,_,_,_,ho,_⟩:=jo h.self;by_cases h23:e.op=23
 . have:=YS ho h23;omega
 . have:=wO ho h23;unfold zy at this
   repeat' split at this
   all_goals omega
theorem qoJ {e:Ex}(h:yM e)(h1:e.op≠1)(h2:e.op≠2)(h3:e.op≠3)(h24:e.op≠24)(h22:e.op≠22)(h23:e.op≠23):e.args.length=1\/e.args.length=2:=by
 obtain⟨k1,k2,_,_,ho,_⟩:=jo h.self;have:=wO ho h23;unfold zy at this;rw[if_neg (by omega)]at this
 repeat' split at this
 all_goals omega
theorem qn6 (env:List Signal)(hl:Fits env):∀ e,Wen e->yM e->Pure Tryz.prog GG 271 [.agg [.sl 2 (env.map ze) .none],.agg (qs e)] (.int .i64 (yo env e)):=by
 refine Ex.ind fun e ih hwe hn=>?_
 refine Pure.vc qe Tryz.func271 rfl (by kernel_rfl) ?_;have hfa:=hwe.fits;have hrg:∀ v∈e.args.map (yo env),0<=v/\v<=65535:=by
  intro v hv;obtain⟨a,ha,rfl⟩:=qqx.1 hv;exact qfl env a (hn.arg ha)
 obtain⟨k1,k2,k3,k4,k5,k6,k7,k8⟩:=jo hn.self;simp only[qd e];simp;refine qD.intro (fun n ev U=>∃ i tl,i<=e.args.length/\n=e.args.length-i/\ev 2=.ptr 0 0/\ev 3=.ptr 1 0/\ev 5=qd6 ((e.args.map (yo env)).take i)/\ev 13=.sl 4 (e.args.map qs) .none/\ev 14=.int .i64 e.args.length/\ev 15=.int .i64 i/\U=⟨.cells [.sl 2 (env.map ze) .none]::.cells (qs e)::tl,qfF ((e.args.map (yo env)).take i)⟩) e.args.length ⟨0,[],by simp,by simp,by simp,by simp,by simp[qd6],by simp,by simp,by simp,by simp[qd e,qfF]⟩ ?_;rintro n ev U ⟨i,tl,hi,rfl,h2,h3,h5,h13,h14,h15,rfl⟩
 cases hv:e.args[i]? with
 | some a=>
  obtain⟨hc,hv'⟩:=qp5.1 hv;have hm:=qp6 hv;have ht:(e.args.map (yo env)).take (i+1)=(e.args.map (yo env)).take i++[yo env a]:=by
   rw[qqE,qqp,hv];rfl
  have hlen:((e.args.map (yo env)).take i).length<=e.args.length:=by simp;omega
  generalize hR:(e.args.map (yo env)).take i=R at h5 ht hlen ⊢;have ih:=ih a hm (hwe.arg hm) (hn.arg hm);simp[h2,h3,h5,h13,h14,h15,hc,hv',qd a,qqz];rw[<- qd a];refine qb.call ih (by simp) ?_
  cases R with
  | nil=>
   simp only[qd6]at h5;simp[qd6,qfF,qB,qk,qA,zp,h2,h3,h13,h14,h15];exact⟨_,by omega,i+1,by omega,rfl,by rw[ht];simp[qd6],wr (by omega) (by omega),by rw[ht];simp[qfF]⟩
  | cons b r=>
   have hb:r.length<=549755813886:=(by have:=qpS hn;simp at hlen;omega);simp only[qd6]at h5;simp[qd6,qfF,qB,qk,qA,zp,hb,h2,h3,h13,h14,h15];exact⟨_,by omega,i+1,by omega,rfl,by rw[ht];simp[qd6],wr (by omega) (by omega),by rw[ht];simp[qfF]⟩
 | none=>
  have hc:¬ i<e.args.length:=by simp at hv;omega
  rw[qqg (by simp;omega)]at h5 ⊢;rw[yk];generalize hR:e.args.map (yo env)=R at h5 hrg ⊢;have hRl:R.length=e.args.length:=by rw[<- hR];simp
  unfold Qw;by_cases c1:e.op=1
  . simp[h2,h3,h5,h13,h14,h15,hc,qd e,c1]
  by_cases c2:e.op=2
  . simp[h2,h3,h5,h13,h14,h15,hc,qd e,c1,c2];refine qb.call (qcS env e.name hl) (by simp) ?_;simp[qbH]
  by_cases c3:e.op=3
  . have hname:=wQ (k7 (.inl c3));obtain⟨v,rfl⟩:=list1 (l:=R) (by rw[hRl];exact qjG hn (n:=1) (by omega) (by rw[c3];decide));obtain⟨b,hb,_⟩:=qde (env:=env) (a:=e.name) (i:=v);have hat:=qpR env e.name v hl (by omega);rw[hb]at hat;simp only[qd6]at h5;simp[h2,h3,h5,h13,h14,h15,hc,qd e,c1,c2,c3];refine qb.call hat (by simp) ?_;simp
  by_cases c24:e.op=24
  . have hname:=wQ (k7 (.inr c24));simp[h2,h3,h5,h13,h14,h15,hc,qd e,c1,c2,c3,c24];refine qb.call (sum166 env e.name hl (by omega)) (by simp) ?_;simp
  . simp[h2,h3,h5,h13,h14,h15,hc,qd e,c1,c2,c3,c24];refine qb.outN2 (by simp) (qfG e.op R hrg (fun c=>?_) (fun c=>?_) (fun c22 c23=>?_)) ?_
    . rw[hRl];exact qjG hn (n:=3) (by omega) (by rw[c];decide)
    . rw[hRl];have:=YS k5 c;omega
    . rw[hRl];exact qoJ hn c1 c2 c3 c24 c22 c23
    . simp
end
theorem qbf (env:List Signal)(e:Ex):yt env e=((zJ [2] e).all (fun s=>(zV env s).isSome)&&(zJ [3,24] e).all fun s=>(zV env (z9 s 0)).isSome):=by
 rw[qq1,qp9,yt];simp only[qqi];constructor
 . intro h;refine⟨fun s hs=>?_,fun s hs=>?_⟩
   . obtain⟨x,hx,hop,rfl⟩:=jR.1 hs;have:=h x hx;have h2:x.op=2:=(by simpa using hop);simpa[qjZ,h2] using this
   . obtain⟨x,hx,hop,rfl⟩:=jR.1 hs;have:=h x hx;have h3:x.op=3\/x.op=24:=(by simpa using hop);unfold qjZ at this;rw[if_neg (by omega),if_pos h3]at this;exact this
 . rintro⟨h1,h2⟩ x hx;unfold qjZ;split
   . rename_i h;exact h1 _ (jR.2 ⟨x,hx,by simp[h],rfl⟩)
   . split
     . rename_i h;exact h2 _ (jR.2 ⟨x,hx,by simpa using h,rfl⟩)
     . rfl
theorem qjN {α:Type}{p:α->Bool}{l:List α}{i:Nat}{a:α}(h:l[i]?=some a)(hp:p a=false):l.all p=false:=qpU (qp6 h) hp
theorem qeX {α:Type}{p:α->Bool}{l:List α}{i:Nat}(hi:l.length<=i)(h:∀ a∈l.take i,p a=true):l.all p=true:=by
 rw[qqg hi]at h;exact qqi.2 h
theorem qa5 {ops:List Int}{e:Ex}:(zJ ops e).length<=(pre e).length:=by
 unfold zJ;have:∀ (l:List Ex) (s:List Str),(l.foldl (KF ops) s).length<=s.length+l.length:=by
  intro l
  induction l with
  | nil=>intro s;simp
  | cons a r ih=>
   intro s;have h1:=ih (KF ops s a);have h2:=ve (ops:=ops) (s:=s) (e:=a);simp only[qqV,qqm];omega
 simpa using this (pre e) []
theorem qo7 (env:List Signal)(hl:Fits env)(e:Ex)(hwe:Wen e)(hn:yM e)(hsz:(pre e).length<=100000):Pure Tryz.prog GG 270 [.agg [.sl 2 (env.map ze) .none],.agg (qs e)] (.bool (yt env e)):=by
 refine Pure.vc qe Tryz.func270 rfl (by kernel_rfl) ?_;have hnm:=Zn e hwe hsz;have har:=Qa e hwe hsz;have hk:=qbf env e;generalize yt env e=r at hk ⊢;have harr:∀ s∈zJ [3,24] e,s.length<=1000:=by
  intro s hs;obtain⟨x,hx,hop,rfl⟩:=jR.1 hs;have:=wQ ((jo (hn x hx)).2.2.2.2.2.2.1 (by simpa using hop));omega
 have l1:=qa5 (ops:=[2]) (e:=e);have l2:=qa5 (ops:=[3,24]) (e:=e);generalize zJ [2] e=A at hnm l1 hk ⊢;generalize zJ [3,24] e=B at har harr l2 hk ⊢;simp only[qd e];simp;rw[<- qd e];refine qb.call hnm (by simp) ?_
 try simp
 refine qD.intro (fun n ev U=>∃ i,i<=A.length/\n=A.length-i/\ev 2=.ptr 0 0/\ev 3=.ptr 1 0/\ev 14=.sl 1 (A.map ja) .none/\ev 15=.int .i64 A.length/\ev 16=.int .i64 i/\U=⟨[.cells [.sl 2 (env.map ze) .none],.cells (qs e)],[]⟩/\∀ s∈A.take i,(zV env s).isSome=true) A.length ⟨0,by simp[qd e]⟩ ?_;rintro n ev U ⟨i,hi,rfl,h2,h3,h14,h15,h16,rfl,hz⟩
 cases hv:A[i]? with
 | some s=>
  obtain⟨hc,hv'⟩:=qp5.1 hv;simp[h2,h3,h14,h15,h16,hc,hv'];refine qb.call (qcS env s hl) (by simp) ?_;cases hf:(zV env s).isSome
  . rw[qjN (p:=fun s=>(zV env s).isSome) hv hf,qsl]at hk;subst hk;simp[qbH,hf]
  . simp[qbH,hf,h2,h3,h14,h15,h16];exact⟨_,by omega,i+1,by omega,rfl,wr (by omega) (by omega),by simpa using zh (p:=fun s=>(zV env s).isSome=true) hv (by simpa using hz) hf⟩
 | none=>
  have hlen:A.length<=i:=by simpa using hv
  have hc:¬ i<A.length:=by omega
  rw[qeX (p:=fun s=>(zV env s).isSome) hlen hz,qrm]at hk;simp[h2,h3,h14,h15,h16,hc,qd e];rw[<- qd e];refine qb.call har (by simp) ?_
  try simp
  have h2':=h2;clear h2 h14 h15 h16 hz;refine qD.intro (fun n ev U=>∃ i,i<=B.length/\n=B.length-i/\ev 2=.ptr 0 0/\ev 30=.sl 1 (B.map ja) .none/\ev 31=.int .i64 B.length/\ev 32=.int .i64 i/\U=⟨[.cells [.sl 2 (env.map ze) .none],.cells (qs e)],[]⟩/\∀ s∈B.take i,(zV env (z9 s 0)).isSome=true) B.length ⟨0,by simp[qd e,h2']⟩ ?_;rintro n ev U ⟨i,hi,rfl,h2,h30,h31,h32,rfl,hz⟩
  cases hv:B[i]? with
  | some s=>
   obtain⟨hc,hv'⟩:=qp5.1 hv;obtain⟨b,hb,hb0⟩:=qde (env:=env) (a:=s) (i:=0);have hb0:=hb0 rfl;have hat:=qpR env s 0 hl (harr s (qp6 hv));rw[hb]at hat;simp[h2,h30,h31,h32,hc,hv'];refine qb.call hat (by simp) ?_;cases hf:(zV env (z9 s 0)).isSome
   . rw[qjN (p:=fun s=>(zV env (z9 s 0)).isSome) hv hf]at hk;subst hk;simp[hb0,hf]
   . simp[hb0,hf,h2,h30,h31,h32];exact⟨_,by omega,i+1,by omega,rfl,wr (by omega) (by omega),by simpa using zh (p:=fun s=>(zV env (z9 s 0)).isSome=true) hv (by simpa using hz) hf⟩
  | none=>
   have hlen:B.length<=i:=(by simpa using hv);have hc:¬ i<B.length:=(by omega);rw[qeX (p:=fun s=>(zV env (z9 s 0)).isSome) hlen hz]at hk;subst hk;simp[h2,h30,h31,h32,hc]
theorem eval37 (env:List Signal)(hl:Fits env)(e:Ex)(hwe:Wen e)(hh:hgt e<1000000)(hsz:(pre e).length<=100000):Pure Tryz.prog GG 217 [.agg (qs e),.sl 2 (env.map ze) .none] (.tup [.int .i64 (yr env e),.int .i64 (qcY env e)]):=by
 refine Pure.vc qe Tryz.func217 rfl (by kernel_rfl) ?_;have hva:=Yh e hwe hh;have hE:qcY env e=if zk e≠0 then 1 else if yt env e=true then 0 else 7:=rfl
 have hV:yr env e=if zk e=0/\yt env e=true then yo env e else 0:=rfl
 by_cases h0:zk e=0
 . have hn:=Jl h0;have hkn:=qo7 env hl e hwe hn hsz;have hval:=qn6 env hl e hwe hn;cases hk:yt env e
   . have e1:qcY env e=7:=(by rw[hE];simp[h0,hk]);have e2:yr env e=0:=(by rw[hV];simp[h0,hk]);rw[e1,e2];rw[h0]at hva;rw[hk]at hkn;simp only[qd e];simp[qV,zu,qv,zt];rw[<- qd e];refine qb.call hva (by simp) ?_;simp[qd e];rw[<- qd e];refine qb.call hkn (by simp) ?_;simp
   . have e1:qcY env e=0:=(by rw[hE];simp[h0,hk]);have e2:yr env e=yo env e:=(by rw[hV];simp[h0,hk]);rw[e1,e2];rw[h0]at hva;rw[hk]at hkn;simp only[qd e];simp[qV,zu,qv,zt];rw[<- qd e];refine qb.call hva (by simp) ?_;simp[qd e];rw[<- qd e];refine qb.call hkn (by simp) ?_;simp[qd e];rw[<- qd e];refine qb.call hval (by simp) ?_;simp
 . have e1:qcY env e=1:=(by rw[hE];simp[h0]);have e2:yr env e=0:=(by rw[hV];simp[h0]);rw[e1,e2];simp only[qd e];simp[qV,zu,qv,zt];rw[<- qd e];refine qb.call hva (by simp) ?_;simp[h0]
def HitQ (F A:Nat)(p:Problem)(l:List Ex)(s:Option (List Int)×Bool)(H:List Blk)(r:AV)(U':St):Prop :=
 KpL [F,A] H U'.H/\(∃ va n,U'.H[F]?=some (.cells (KX p l va s.2 n)))/\((∃ a bh vh,s.1=some a/\r=.tup [vh,.bool true]/\qj0 bh U'.H vh a)\/(s.1=none/\r=.tup [.sl 0 [] .nil,.bool false]))
def HitI (F A t:Nat)(p:Problem)(l:List Ex)(s:Option (List Int)×Bool)(H:List Blk)(n:Nat)(ev:Env)(U:St):Prop :=
 ev 0=.ptr F 0/\∃ H' T' a over b c,U=⟨H',T'⟩/\KpL [F,A] H H'/\FndR F A t p l a over n H'/\okA p.vars a/\jw b 2 ze H' (ev 4) (QV p.vars c)/\c.length=p.vars.length/\b≠F/\b≠A/\H.length<=b/\s=if over then (none,true) else qb5 p.vars l n a
theorem qlT {L:List Signal}{i:Nat}{g:Signal}{x:Int}(h:L[i]?=some g):(L.flatMap ze).set (i*2+1) (.int .i64 x)=(L.set i ⟨g.name,x⟩).flatMap ze:=by
 induction L generalizing i with
 | nil=>simp at h
 | cons a r ih=>
  cases i with
  | zero=>simp at h;subst h;simp
  | succ i=>
   simp at h;have e:(i+1)*2+1=(i*2+1)+2:=(by omega);rw[e,qqs,qsu,qqs,<- ih h];simp
theorem ql4 {vs:List Var}{c a:List Int}(hc:c.length=vs.length)(ha:a.length=vs.length){i:Nat}{x:Int}(hx:a[i]?=some x){g:Signal}(hg:(QV vs (a.take i++c.drop i))[i]?=some g):(QV vs (a.take i++c.drop i)).set i ⟨g.name,x⟩=QV vs (a.take (i+1)++c.drop (i+1)):=by
 have hi:=(qp5.1 hx).1;apply qqW;intro k;have hl:(a.take i++c.drop i).length=vs.length:=by simp;omega
 have hl':(a.take (i+1)++c.drop (i+1)).length=vs.length:=by simp;omega
 by_cases hk:k<vs.length
 . obtain⟨v,hv⟩:∃ v,vs[k]?=some v:=⟨_,qp8 hk⟩;by_cases hki:k=i
   . subst hki;have h1:(a.take (k+1)++c.drop (k+1))[k]?=some x:=by
      rw[qqe (by simp;omega),qtp (by omega),hx]
     rw[qqa (by rw[wa hl];exact hk),Zx hv h1];obtain⟨y,hy⟩:∃ y,(a.take k++c.drop k)[k]?=some y:=⟨_,qp8 (by omega)⟩;rw[Zx hv hy]at hg;cases hg;rfl
   . rw[qp7 (Ne.symm hki)];have:(a.take i++c.drop i)[k]?=(a.take (i+1)++c.drop (i+1))[k]? := by
      rw[qqX,qqX];simp only[qqD,qqR,qq4];by_cases h1:k<i
      . rw[if_pos (by omega),if_pos (by omega),if_pos (by omega),if_pos (by omega)]
      . rw[if_neg (by omega),if_neg (by omega)];congr 1;omega
     obtain⟨y,hy⟩:∃ y,(a.take i++c.drop i)[k]?=some y:=⟨_,qp8 (by omega)⟩;rw[Zx hv hy,Zx hv (by rw[<- this];exact hy)]
 . rw[qqG (by rw[qrC,wa hl];omega),qqG (by rw[wa hl'];omega)]
def qkY:List (Nat×Sch×List Nat):=[(1,.step 0 [9,8,3,2,1] (.step 1 [9,8,3,2] (.step 2 [9,8,3] (.step 3 [9,8] (.step 4 [9,8,7,6,5] (.step 5 [9,8,7,6] (.step 6 [9,8,7] (.step 7 [9,8] (.step 8 [9] (.step 9 [] (.done)))))))))),[8])]
theorem hit327 {F A t:Nat}{p:Problem}{l:List Ex}{a:List Int}{n:Nat}{H:List Blk}(T:List (Option Nat))(h:FndR F A t p l a false n H)(hAl:A<H.length)(hn:n<=262144)(hl2:p.vars.length<=1000)(hok:okA p.vars a)(hw:∀ v∈p.vars,0<=v.width/\v.width<=28)
 (hx:∀ e∈l,Wen e/\hgt e<=1000/\(pre e).length<=100000) (hfl:Fits l):qg Tryz.prog GG 165 [.ptr F 0] ⟨H,T⟩ (HitQ F A p l (qb5 p.vars l n a) H):=by
 refine qg.kO ⟨false,qkY,[],[]⟩ qe Tryz.func165 rfl (by kernel_rfl) ?_;have hF:=h.f;have hlen:=hok.len;have henv:=qpw (A:=A) (t:=t) p a hlen hl2 T h.r;simp only[qJ]at henv;simp only[KX]at hF;simp[-getElem?_pos];rw[qG rfl];simp[-getElem?_pos,qM,hF];refine qc.acall henv ?_;rintro v ⟨H1,T1⟩ ⟨rfl,hk1,b,ho,hb⟩;have hen:kE p.vars a=QV p.vars a:=by rw[qc2,if_pos hlen]
 simp only at hk1 ho;simp[-getElem?_pos];obtain⟨s,hs⟩:∃ s,s=qb5 p.vars l n a:=⟨_,rfl⟩;rw[<- hs];have hF1:H1[F]?=some (.cells (KX p l (qad A t a) false n)):=hk1.2 _ _ h.f (by simp);have hFl:=(qp5.1 h.f).1;have hr1:FndR F A t p l a false n H1:=⟨hF1,fun ha=>hk1.2 _ _ (h.r ha) (by simp)⟩;rw[hen]at ho;refine qL.gen (fun m ev U=>m<=262144/\HitI F A t p l s H m ev U) n ?_ ?_
 . refine⟨hn,by simp,H1,T1,a,false,b,a,rfl,hk1.sub (by simp),hr1,hok,by simpa using ho,hlen,?_,?_,hb,by simpa using hs⟩
   . omega
   . omega
 . rintro m ev U R hR ⟨hm,e0,H',T',a',over,b',c,rfl,hk,hfr,hok',ho',hc,hbF,hbA,hbH,hs'⟩;have hF':=hfr.f;have hF'l:=(qp5.1 hF').1;simp only[KX]at hF';have hmi:(m:Int)<=262144:=(by omega)
   cases over with
   | true=>
    simp at hs';subst hs';simp[-getElem?_pos,e0,hF'];exact⟨hk,⟨_,_,hfr.f⟩,.inr ⟨rfl,rfl⟩⟩
   | false=>
    simp only[qqq,if_false]at hs'
    cases m with
    | zero=>
     have hs':s=(none,false):=hs';subst hs';simp[-getElem?_pos,e0,hF'];exact⟨hk,⟨_,_,hfr.f⟩,.inr ⟨rfl,rfl⟩⟩
    | succ m=>
     have hlen':=hok'.len;have hw1:=wr (n:=(m:Int)) (by omega) (by omega);have hp:(0:Int)<(m:Int)+1:=(by omega);have hcl:=qmm (A:=A) (t:=t) a' (by omega) T' (H:=H'.set F (.cells (KX p l (qad A t a') false m))) (fun ha=>by
      have:=hfr.r ha;rw[qp7 (Ne.symm (hfr.ne ha))];exact this)
     have hFs:∀ y,(H'.set F y)[F]?=some y:=fun y=>qqa hF'l
     simp only[KX]at hcl;simp[-getElem?_pos,e0,hF',hw1,hp,hFs];refine qc.acall hcl ?_;rintro vh ⟨H2,T2⟩ ⟨rfl,hk2,bh,hrow,hbh⟩;simp only at hk2 hrow;rw[qrC]at hbh;have hF2:H2[F]?=some (.cells (KX p l (qad A t a') false m)):=hk2.2 _ _ (hFs _) (by simp);have hA2:a'≠[]->H2[A]?=some (.cells (zF a')):=fun ha=>hk2.2 _ _ (by rw[qp7 (Ne.symm (hfr.ne ha))];exact hfr.r ha) (by simp)
     have ho2:jw b' 2 ze H2 (ev 4) (QV p.vars c):=ho'.keep fun x _ hx=>hk2.2 _ _ (by rw[qp7 (Ne.symm hbF)];exact hx) (by simp)
     have hkH2:KpL [F,A] H H2:=(hk.trans (KpL.set (by simp))).trans (hk2.sub (by simp));have hbh':bh≠F/\bh≠A:=by
      have:=hk.1;constructor<;>omega
     have hbb:a'≠[]->bh≠b':=fun ha=>by
      have hne:QV p.vars c≠[]:=fun e=>by
       have:=wa hc;rw[e]at this;exact ha (qqj (by rw[hlen',<- this];rfl))
      have:=ho'.lt hne;omega
     generalize hv4:ev 4=v4 at *;have hln:∀ H T,KL (Dof Tryz.prog) ⟨H,T⟩ 44 vh=some (.int .i64 a'.length):=fun H T=>by
      rcases hrow with ⟨ha0,szt,tok,rfl⟩|⟨ha0,rfl,hbc⟩
      . simp[KL,ha0]
      . simp[KL]
     have hle:a'.length<=1000:=(by omega);have hlN:(zF a').length=a'.length:=qY;by_cases hdummy:True
     . simp[-getElem?_pos,-KL,hln];refine qL.listR a' (fun d ev2 U2=>ev2 0=.ptr F 0/\ev2 4=v4/\ev2 5=vh/\ev2 45=vh/\ev2 46=.int .i64 a'.length/\ev2 47=.int .i64 d.length/\∃ H3,U2=⟨H3,T2⟩/\KpL [b'] H2 H3/\jw b' 2 ze H3 v4 (QV p.vars (a'.take d.length++c.drop d.length))) ?_ ?_ ?_
       . exact⟨by simp[e0],by simp[hv4],by simp,by simp,by simp,by simp,H2,by simp,KpL.refl,by simpa using ho2⟩
       . rintro d x rest ev2 U2 R2 hR2 hd hx2 hlt ⟨g0,g4,g5,g45,g46,g47,H3,rfl,hk3,ho3⟩;have hdw:=wr (n:=(d.length:Int)+1) (by omega) (by omega);have ha0:a'≠[]:=fun e=>by rw[e]at hlt;simp at hlt
         obtain⟨_,hvh,hbc⟩:=hrow.resolve_left (fun h=>ha0 h.1);have hb3:H3[bh]?=some (.cells (zF a')):=hk3.2 _ _ hbc (by simpa using hbb ha0);have g45':=g45;rw[hvh]at g45';have hto:(zF a')[d.length]?=some (.int .i64 x):=(by rw[Kv,hx2];rfl);have hdr:(zF a').drop d.length=.int .i64 x::(zF a').drop (d.length+1):=by
          obtain⟨h1,h2⟩:=qp5.1 hto;rw[qqt h1,h2]
         have hl1:d.length+1<=(zF a').length:=(by rw[qY];omega);have hcl:(a'.take d.length++c.drop d.length).length=p.vars.length:=(by simp;omega);have hel:=wa hcl;have hne:QV p.vars (a'.take d.length++c.drop d.length)≠[]:=fun e=>by rw[e]at hel;simp at hel;omega
         obtain⟨hv,hbl⟩:=ho3.at hne;obtain⟨g,hg⟩:∃ g,(QV p.vars (a'.take d.length++c.drop d.length))[d.length]?=some g:=⟨_,qp8 (by rw[hel];omega)⟩;have hset:=qlT (x:=x) hg;have hput:=ql4 hc hlen' hx2 hg;have hfl2:((QV p.vars (a'.take d.length++c.drop d.length)).flatMap ze).length=p.vars.length*2:=(by rw[Go.Abs.jj (sz:=2) (fun x=>by simp),hel]);have hbll:=(qp5.1 hbl).1;rw[hel]at hv;have hdv:(d.length:Int)<p.vars.length:=(by omega);have hst1:d.length*2+1+1<=p.vars.length*2:=(by omega);rw[hput]at hset;generalize hFL:(QV p.vars (a'.take d.length++c.drop d.length)).flatMap ze=FL at *;simp[-getElem?_pos,g4,g45',g46,g47,hlt,hb3,hdr,hl1,hv,hdv,hbl,hst1,hfl2,hset,hdw];have hcl':(a'.take (d.length+1)++c.drop (d.length+1)).length=p.vars.length:=(by simp;omega);have hel':=wa hcl';refine hR2 _ _ ⟨by simp[g0],by simp[g4],by simp[g5],by simp[g45],by simp[g46],by simp,_,rfl,hk3.trans (KpL.set (by simp)),?_⟩;rw[qqb,qqA];refine .inr ⟨fun e=>by rw[e]at hel';simp at hel';omega,by rw[hel'];exact hv,qqa hbll⟩
       . rintro ev2 U2 ⟨g0,g4,g5,g45,g46,g47,H3,rfl,hk3,ho3⟩;have hta:a'.take a'.length++c.drop a'.length=a':=(by rw[qr5,qqL (by omega),qqP]);rw[hta]at ho3;have hF3:FndR F A t p l a' false m H3:=⟨hk3.2 _ _ hF2 (by simpa using Ne.symm hbF),fun ha=>hk3.2 _ _ (hA2 ha) (by simpa using Ne.symm hbA)⟩;have hadv:=qgy T2 hF3 hlen' (by omega) hok' hw;simp[-getElem?_pos,g0,g46,g47];refine qc.acall hadv ?_;rintro v2 ⟨H4,T4⟩ ⟨rfl,hT4,hF4,hk4⟩;simp only at hT4 hF4 hk4;subst hT4;have ho4:jw b' 2 ze H4 v4 (QV p.vars a'):=ho3.keep fun x _ hx=>hk4.2 _ _ hx (by simp;exact⟨hbF,hbA⟩)
         have hrow4:∀ u,qj0 bh (H4++u) vh a':=fun u=>by
          rcases hrow with h|⟨h1,h2,h3⟩
          . exact .inl h
          . exact .inr ⟨h1,h2,qa (hk4.2 _ _ (hk3.2 _ _ h3 (by simpa using hbb h1)) (by simp;exact hbh')) u⟩
         have hF4f:=hF4.f;simp only[KX]at hF4f;have hkH4:KpL [F,A] H H4:=by
          refine⟨by have:=hkH2.1;have:=hk3.1;have:=hk4.1;omega,fun k x hk0 hn0=>?_⟩;have h2:=hkH2.2 k x hk0 hn0;have hkl:=(qp5.1 hk0).1;have h3:=hk3.2 k x h2 (by simp;omega);exact hk4.2 k x h3 hn0
         have hstep:s=if Qe p.vars l a' then (some a',(qX p.vars a').2) else if (qX p.vars a').2 then (none,true) else qb5 p.vars l m (qX p.vars a').1:=hs'
         have hok4:=Vp hok';have hen4:kE p.vars a'=QV p.vars a':=(by rw[qc2,if_pos hlen']);simp[-getElem?_pos,hF4f,g0];have hel4:=wa hlen';have hfe:Fits (QV p.vars a'):=(by show (QV p.vars a').length<_;omega);have hsat:Qe p.vars l a'=l.all fun e=>decide (yr (QV p.vars a') e≠0):=by unfold Qe;rw[hen4]
         refine qL.listR l (fun d ev3 U3=>ev3 0=.ptr F 0/\ev3 4=v4/\ev3 5=vh/\ev3 63=.sl 4 (l.map qs) .none/\ev3 64=.int .i64 l.length/\ev3 65=.int .i64 d.length/\(∃ u,U3=⟨H4++u,T4⟩)/\∀ e∈d,yr (QV p.vars a') e≠0) ?_ ?_ ?_
         . exact⟨by simp[g0],by simp[g4],by simp[g5],by simp,by simp,by simp,⟨[],by simp⟩,by simp⟩
         . rintro d e rest ev3 U3 R3 hR3 hd hx3 hlt ⟨f0,f4,f5,f63,f64,f65,⟨u,rfl⟩,hnz⟩;have hm3:=qp6 hx3;obtain⟨hwe,hh,hsz⟩:=hx e hm3;have hdw:=wr (n:=(d.length:Int)+1) (by unfold Fits at hfl;omega) (by unfold Fits at hfl;omega);have hev:=eval37 (QV p.vars a') hfe e hwe (by omega) hsz;have hou:∀ u,jw b' 2 ze (H4++u) v4 (QV p.vars a'):=fun u=>ho4.keep fun x _ hx=>qa hx u
           simp[-getElem?_pos,f4,f63,f64,f65,hlt,hx3,qd e];rw[<- qd e];refine qc.lent hev rfl ?_ ?_
           . simp only[qqk,qqF,zm,and_true];refine⟨?_,(hou _).frz (fun x=>by simp) (fun x=>by simp) (fun x=>by simp) 7⟩;rw[qt (by simp)];exact Leq.refl _
           . by_cases hz:yr (QV p.vars a') e=0
             . have hsf:Qe p.vars l a'=false:=(by rw[hsat,qtf];exact⟨e,hm3,by simp[hz]⟩);rw[hsf]at hstep;simp only[qqq,if_false]at hstep;simp[-getElem?_pos,hz];exact hR m _ _ (by omega) ⟨by omega,by simp[f0],_,T4,(qX p.vars a').1,(qX p.vars a').2,b',a',rfl,hkH4.trans KpL.app,hF4.look _,hok4,by simpa[f4] using hou _,hlen',hbF,hbA,hbH,hstep⟩
             . simp[-getElem?_pos,hz,f65,hdw];refine hR3 _ _ ⟨by simp[f0],by simp[f4],by simp[f5],by simp[f63],by simp[f64],by simp,⟨_,by simp;rfl⟩,fun x hx=>?_⟩;rcases qqo.1 hx with hx|hx
               . exact hnz x hx
               . simp only[qqv,qry,or_false]at hx;rw[hx];exact hz
         . rintro ev3 U3 ⟨f0,f4,f5,f63,f64,f65,⟨u,rfl⟩,hnz⟩;have hst:Qe p.vars l a'=true:=(by rw[hsat,qqi];exact fun e he=>by simpa using hnz e he);rw[hst,if_pos rfl]at hstep;simp[-getElem?_pos,f5,f64,f65];rw[hstep];exact⟨hkH4.trans KpL.app,⟨_,_,(hF4.look u).f⟩,.inl ⟨a',bh,_,rfl,rfl,hrow4 u⟩⟩
     . exact absurd trivial hdummy
end Go.Proofs.YtoibbcnfhhggnaaGreatDoor
end
