/- A part of the proof. -/
import Derived.Test.YtcadpamddlofjaaGreatDoorPa08
set_option linter.unusedVariables false
set_option linter.unusedSimpArgs false
set_option maxRecDepth 100000
set_option linter.defProp false
section
namespace Go.Proofs.YtcadpamddlofjaaGreatDoor
open Go Go.Abs
theorem qlB (n:Int):((BitVec.ofInt 64 n &&& 65535#64).toNat:Int)=n % 65536:=by
 rw[BitVec.toNat_and,BitVec.toNat_ofInt];have e:(65535#64).toNat=2 ^ 16-1:=by decide
 rw[e,qq6];omega
theorem wr16 {n:Int}(h0:0<=n)(h1:n<=65535):IntKind.u16.wrap n=n:=by
 simp[IntKind.wrap,IntKind.bits,IntKind.signed];omega
theorem qfI (n:Int):IntKind.u16.wrap n=n % 65536:=by
 simp[IntKind.wrap,IntKind.bits,IntKind.signed]
theorem and_op (n:Int):zM .and .i64 n 65535=some (.int .i64 (qM n)):=by
 have h1:=qD n;have h2:=qlB n;have h5:n % 65536=qM n:=rfl;show some (AV.int .i64 (IntKind.i64.wrap ((BitVec.ofInt 64 n &&& 65535#64).toNat:Int)))=_;rw[h2,h5,wr (by omega) (by omega)]
theorem Ki (n:Int):Pure Tryz.prog GG 296 [.int .i64 n] (.int .u16 (qM n)):=by
 refine Pure.vc qe Tryz.func296 rfl (by kernel_rfl) ?_;have h1:=qD n;have h4:IntKind.u16.wrap (qM n)=qM n:=wr16 h1.1 h1.2;simp[-zM,and_op,yA,h4]
theorem Jj (n:Int)(h0:0<=n)(h1:n<=65535):Pure Tryz.prog GG 297 [.int .u16 n] (.int .i64 n):=by
 refine Pure.vc qe Tryz.func297 rfl (by kernel_rfl) ?_;have h3:IntKind.i64.wrap n=n:=wr (by omega) (by omega);simp[yA,h3]
theorem qmT (n:Int):Pure Tryz.prog GG 290 [.int .i64 n] (.int .i64 (qM n)):=by
 refine Pure.vc qe Tryz.func290 rfl (by kernel_rfl) ?_
 try simp
 refine qb.call (Ki n) rfl ?_
 try simp
 refine qb.call (Jj (qM n) (qD n).1 (qD n).2) rfl ?_;simp
theorem qf7 {f:FuncId}{x:AV}{b r:Int}(hx:qC x=true)(h0:0<=r)(h1:r<=65535)(h:Pure Tryz.prog GG f [x,.int .u16 (qM b)] (.int .u16 r)):Pure Tryz.prog GG 298 [.fn f [x] [],.int .i64 b] (.int .i64 r):=by
 refine Pure.vc qe Tryz.func298 rfl (by kernel_rfl) ?_
 try simp
 refine qb.call (Ki b) rfl ?_
 try simp
 refine qb.call h (by simp[hx]) ?_
 try simp
 refine qb.call (Jj r h0 h1) rfl ?_;simp
theorem ql8 {f:FuncId}{x:AV}{r:Int}(hx:qC x=true)(h0:0<=r)(h1:r<=65535)(h:Pure Tryz.prog GG f [x] (.int .u16 r)):Pure Tryz.prog GG 308 [.fn f [x] []] (.int .i64 r):=by
 refine Pure.vc qe Tryz.func308 rfl (by kernel_rfl) ?_
 try simp
 refine qb.call h (by simp[hx]) ?_
 try simp
 refine qb.call (Jj r h0 h1) rfl ?_;simp
theorem qmZ (a b:Int):Pure Tryz.prog GG 299 [.int .u16 (qM a),.int .u16 (qM b)] (.int .u16 (qM (a+b))):=by
 refine Pure.vc qe Tryz.func299 rfl (by kernel_rfl) ?_;have h:IntKind.u16.wrap (qM a+qM b)=qM (a+b):=by rw[qfI];unfold qM;omega
 simp[zM,h]
theorem qmQ (a b:Int):Pure Tryz.prog GG 312 [.int .u16 (qM a),.int .u16 (qM b)] (.int .u16 (qM (a-b))):=by
 refine Pure.vc qe Tryz.func312 rfl (by kernel_rfl) ?_;have h:IntKind.u16.wrap (qM a-qM b)=qM (a-b):=by rw[qfI];unfold qM;omega
 simp[zM,h]
theorem qfH (a b:Int):qM (qM a*qM b)=qM (a*b):=by
 unfold qM;rw[<- qsk]
theorem qmX (a b:Int):Pure Tryz.prog GG 313 [.int .u16 (qM a),.int .u16 (qM b)] (.int .u16 (qM (a*b))):=by
 refine Pure.vc qe Tryz.func313 rfl (by kernel_rfl) ?_;have h:IntKind.u16.wrap (qM a*qM b)=qM (a*b):=by rw[qfI];exact qfH a b
 simp[zM,h]
theorem qmW (a:Int):Pure Tryz.prog GG 310 [.int .u16 (qM a)] (.int .u16 (qM (0-a))):=by
 refine Pure.vc qe Tryz.func310 rfl (by kernel_rfl) ?_;have h:IntKind.u16.wrap (0-qM a)=qM (0-a):=by rw[qfI];unfold qM;omega
 simp only[Int.zero_sub]at h ⊢;simp[unA,h]
theorem qi9 {n:Int}(h0:0<=n)(h1:n<=65535):(((BitVec.ofInt 16 65535) ^^^ (BitVec.ofInt 16 n)).toNat:Int)=65535-n:=by
 have e:BitVec.ofInt 16 65535=BitVec.allOnes 16:=by decide
 rw[e,BitVec.allOnes_xor,BitVec.toNat_not,BitVec.toNat_ofInt];omega
theorem qmY (a:Int):Pure Tryz.prog GG 309 [.int .u16 (qM a)] (.int .u16 (65535-qM a)):=by
 refine Pure.vc qe Tryz.func309 rfl (by kernel_rfl) ?_;have hr:=qD a;have h:=qi9 hr.1 hr.2;have h2:IntKind.u16.wrap (65535-qM a)=65535-qM a:=wr16 (by omega) (by omega);have h3:(if IntKind.u16.signed=true then (-1:Int) else IntKind.u16.max)=65535:=by decide
 have h4:unA .xor (.int .u16 (qM a))=some (.int .u16 (65535-qM a)):=by
  unfold unA;simp only[];rw[h3];show some (AV.int .u16 (IntKind.u16.wrap (((BitVec.ofInt 16 65535) ^^^ (BitVec.ofInt 16 (qM a))).toNat:Int)))=_;rw[h,h2]
 simp[-unA,h4]
theorem qmF (a b:Int):Pure Tryz.prog GG 291 [.int .i64 a,.int .i64 b] (.int .i64 (qM (a+b))):=by
 refine Pure.vc qe Tryz.func291 rfl (by kernel_rfl) ?_
 try simp
 refine qb.call (Ki a) rfl ?_
 try simp
 refine qb.call (qf7 (by simp) (qD _).1 (qD _).2 (qmZ a b)) rfl ?_;simp
theorem sub301 (a b:Int):Pure Tryz.prog GG 304 [.int .i64 a,.int .i64 b] (.int .i64 (qM (a-b))):=by
 refine Pure.vc qe Tryz.func304 rfl (by kernel_rfl) ?_
 try simp
 refine qb.call (Ki a) rfl ?_
 try simp
 refine qb.call (qf7 (by simp) (qD _).1 (qD _).2 (qmQ a b)) rfl ?_;simp
theorem mul302 (a b:Int):Pure Tryz.prog GG 305 [.int .i64 a,.int .i64 b] (.int .i64 (qM (a*b))):=by
 refine Pure.vc qe Tryz.func305 rfl (by kernel_rfl) ?_
 try simp
 refine qb.call (Ki a) rfl ?_
 try simp
 refine qb.call (qf7 (by simp) (qD _).1 (qD _).2 (qmX a b)) rfl ?_;simp
theorem inv298 (a:Int):Pure Tryz.prog GG 301 [.int .i64 a] (.int .i64 (65535-qM a)):=by
 refine Pure.vc qe Tryz.func301 rfl (by kernel_rfl) ?_;have hr:=qD a
 try simp
 refine qb.call (Ki a) rfl ?_
 try simp
 refine qb.call (ql8 (by simp) (by omega) (by omega) (qmY a)) rfl ?_;simp
theorem neg299 (a:Int):Pure Tryz.prog GG 302 [.int .i64 a] (.int .i64 (qM (0-a))):=by
 refine Pure.vc qe Tryz.func302 rfl (by kernel_rfl) ?_
 try simp
 refine qb.call (Ki a) rfl ?_
 try simp
 refine qb.call (ql8 (by simp) (qD _).1 (qD _).2 (qmW a)) rfl ?_;simp
def shlW (a b:Int):Int:=if 0<=b/\b<16 then qM (a*2 ^ b.toNat) else 0
def shrW (a b:Int):Int:=if 0<=b/\b<16 then qM a / 2 ^ b.toNat else 0
theorem qc3 {f:FuncId}{x:AV}{b r:Int}(hx:qC x=true)(h0:0<=r)(h1:r<=65535)(h:0<=b->b<16->Pure Tryz.prog GG f [x,.int .i64 b] (.int .u16 r)) :
 Pure Tryz.prog GG 314 [.fn f [x] [],.int .i64 b] (.int .i64 (if 0<=b/\b<16 then r else 0)):=by
 refine Pure.vc qe Tryz.func314 rfl (by kernel_rfl) ?_;by_cases c0:b<0
 . rw[if_neg (by omega)];simp[c0]
 . by_cases c1:16<=b
   . rw[if_neg (by omega)];simp[c0,c1]
   . rw[if_pos (by omega)];simp[c0,c1];refine qb.call (h (by omega) (by omega)) (by simp[hx]) ?_
     try simp
     refine qb.call (Jj r h0 h1) rfl ?_;simp
theorem qef (a c:Int):qM (qM a*c)=qM (a*c):=by
 unfold qM;rw[qsk,Int.emod_emod_of_dvd _ (Int.dvd_refl _),<- qsk]
theorem qmS (a b:Int)(h0:0<=b)(h1:b<16):Pure Tryz.prog GG 315 [.int .u16 (qM a),.int .i64 b] (.int .u16 (qM (a*2 ^ b.toNat))):=by
 refine Pure.vc qe Tryz.func315 rfl (by kernel_rfl) ?_;have hm:min b.toNat 16=b.toNat:=by omega
 have h:IntKind.u16.wrap (qM a*2 ^ b.toNat)=qM (a*2 ^ b.toNat):=by rw[qfI];exact qef a _
 have h2:¬ b<0:=by omega
 simp[qls,IntKind.bits,hm,h,h2]
theorem qmR (a b:Int)(h0:0<=b)(h1:b<16):Pure Tryz.prog GG 316 [.int .u16 (qM a),.int .i64 b] (.int .u16 (qM a / 2 ^ b.toNat)):=by
 refine Pure.vc qe Tryz.func316 rfl (by kernel_rfl) ?_;have hm:min b.toNat 16=b.toNat:=by omega
 have hp:(0:Int)<2 ^ b.toNat:=qr9 (by omega);have h:(qM a).fdiv (2 ^ b.toNat)=qM a / 2 ^ b.toNat:=qqW _ (by omega);have h2:¬ b<0:=by omega
 simp[qls,IntKind.bits,hm,h,h2]
theorem shl303 (a b:Int):Pure Tryz.prog GG 306 [.int .i64 a,.int .i64 b] (.int .i64 (shlW a b)):=by
 refine Pure.vc qe Tryz.func306 rfl (by kernel_rfl) ?_
 try simp
 refine qb.call (Ki a) rfl ?_
 try simp
 refine qb.call (qc3 (by simp) (qD _).1 (qD _).2 (qmS a b)) rfl ?_;simp[shlW]
theorem shr304 (a b:Int):Pure Tryz.prog GG 307 [.int .i64 a,.int .i64 b] (.int .i64 (shrW a b)):=by
 refine Pure.vc qe Tryz.func307 rfl (by kernel_rfl) ?_;have hr:=VU b.toNat (qD a).1 (qD a).2
 try simp
 refine qb.call (Ki a) rfl ?_
 try simp
 refine qb.call (qc3 (by simp) hr.1 hr.2 (qmR a b)) rfl ?_;simp[shrW]
def tabW:List UInt8:=(List.range 256).map fun i=>UInt8.ofNat (yZ i 8)
theorem qcQ {i:Nat}(h:i<256):tabW[i]?=some (UInt8.ofNat (yZ i 8)):=by simp[tabW,h]
theorem qdn (a:Nat):∀ i,i<=8->yZ (a % 256) i=yZ a i
 | 0,_=>rfl
 | i+1,h=>by
  have h1:(a % 256).testBit i=a.testBit i:=by
   rw[show 256=2 ^ 8 by decide,qrw];simp;omega
  simp only[yZ,qdn a i (by omega),h1]
theorem qdo (a:Nat):∀ i,yZ a (8+i)=yZ a 8+yZ (a / 256) i
 | 0=>by simp[yZ]
 | i+1=>by
  have h1:(a / 256).testBit i=a.testBit (8+i):=by
   rw[show 256=2 ^ 8 by decide,qr4,qqz]
  show yZ a (8+i+1)=_;simp only[yZ,qdo a i,h1];omega
theorem qke (a:Nat):yZ a 16=yZ (a / 256) 8+yZ (a % 256) 8:=by
 rw[qdn a 8 (qo7 _),show 16=8+8 by rfl,qdo];omega
theorem tabL:([0,1,1,2,1,2,2,3,1,2,2,3,2,3,3,4,1,2,2,3,2,3,3,4,2,3,3,4,3,4,4,5,1,2,2,3,2,3,3,4,2,3,3,4,3,4,4,5,2,3,3,4,3,4,4,5,3,4,4,5,4,5,5,6,1,2,2,3,2,3,3,4,2,3,3,4,3,4,4,5,2,3,3,4,3,4,4,5,3,4,4,5,4,5,5,6,2,3,3,4,3,4,4,5,3,4,4,5,4,5,5,6,3,4,4,5,4,5,5,6,4,5,5,6,5,6,6,7,1,2,2,3,2,3,3,4,2,3,3,4,3,4,4,5,2,3,3,4,3,4,4,5,3,4,4,5,4,5,5,6,2,3,3,4,3,4,4,5,3,4,4,5,4,5,5,6,3,4,4,5,4,5,5,6,4,5,5,6,5,6,6,7,2,3,3,4,3,4,4,5,3,4,4,5,4,5,5,6,3,4,4,5,4,5,5,6,4,5,5,6,5,6,6,7,3,4,4,5,4,5,5,6,4,5,5,6,5,6,6,7,4,5,5,6,5,6,6,7,5,6,6,7,6,7,7,8]:List UInt8)=tabW:=by decide +kernel
theorem qnM (a:Int)(h0:0<=a)(h1:a<=65535):Pure Tryz.prog GG 311 [.int .u16 a] (.int .i64 (yZ a.toNat 16)):=by
 refine Pure.vc qe Tryz.func311 rfl (by kernel_rfl) ?_;obtain⟨n,rfl⟩:=qpC h0;have e1:qls (Dof Tryz.prog) .shr 315 (.int .u16 (n:Int)) (.int .u64 8)=some (.int .u16 ((n / 256:Nat):Int)):=by
  have e:(n:Int).fdiv (2 ^ (min 8 IntKind.u16.bits))=((n / 256:Nat):Int):=by
   show (n:Int).fdiv 256=_;rw[qqW _ (by omega)];omega
  show some (AV.int .u16 ((n:Int).fdiv (2 ^ (min 8 IntKind.u16.bits))))=_;rw[e]
 have e2:qls (Dof Tryz.prog) .and 315 (.int .u16 (n:Int)) (.int .u16 255)=some (.int .u16 ((n % 256:Nat):Int)):=by
  have e:((BitVec.ofInt 16 (n:Int) &&& 255#16).toNat:Int)=((n % 256:Nat):Int):=by
   rw[BitVec.toNat_and,BitVec.toNat_ofInt];have e:(255#16).toNat=2 ^ 8-1:=(by decide);rw[e,qq6];omega
  show some (AV.int .u16 (IntKind.u16.wrap ((BitVec.ofInt 16 (n:Int) &&& 255#16).toNat:Int)))=_;rw[e,wr16 (by omega) (by omega)]
 have g1:=qcQ (i:=n / 256) (by omega);have g2:=qcQ (i:=n % 256) (by omega);have l1:=Jo (n / 256) 8;have l2:=Jo (n % 256) 8;have e4:=qke n;have p1:(0:Int)<=((n / 256:Nat):Int):=by omega
 have p2:(0:Int)<=((n % 256:Nat):Int):=by omega
 have u:∀ x y:Nat,x<=8->y<=8->IntKind.u8.wrap (((x:Int) % 256)+((y:Int) % 256))=(x:Int)+y/\IntKind.i64.wrap ((x:Int)+y)=x+y:=by
  intro x y hx hy;refine⟨?_,wr (by omega) (by omega)⟩;simp[IntKind.wrap,IntKind.bits,IntKind.signed];omega
 obtain⟨w1,w2⟩:=u _ _ l1 l2;rw[qpQ,e4];generalize n / 256=p at *;generalize n % 256=q at *;simp[e1,e2,tabL,g1,g2,-qls,-zM];simp[w1,w2,yA]
theorem qnN (a:Int):Pure Tryz.prog GG 303 [.int .i64 a] (.int .i64 (yZ (qM a).toNat 16)):=by
 refine Pure.vc qe Tryz.func303 rfl (by kernel_rfl) ?_
 try simp
 refine qb.call (Ki a) rfl ?_
 try simp
 refine qb.call (qnM (qM a) (qD a).1 (qD a).2) rfl ?_;simp
theorem ZB (a b:Int):(a==b)=decide (a=b):=by
 by_cases h:a=b
 . subst h;simp
 . rw[decide_eq_false h];exact beq_eq_false_iff_ne.2 h
theorem YW (a b:Int):(a != b) = !decide (a=b):=by rw[bne,ZB]
theorem j4 (b:Bool):Pure Tryz.prog GG 300 [.bool b] (.int .i64 (b2i b)):=by
 refine Pure.vc qe Tryz.func300 rfl (by kernel_rfl) ?_;cases b<;>simp[b2i]
theorem qoE (a b:Int):b2i (a==b)=b2i (decide (a=b)):=by
 have e:(a==b)=decide (a=b):=by
  by_cases h:a=b
  . subst h;simp
  . rw[decide_eq_false h];exact beq_eq_false_iff_ne.2 h
 rw[e]
theorem qgi (op a:Int):Pure Tryz.prog GG 292 [.int .i64 op,.int .i64 a] (.int .i64 (unW op a)):=by
 refine Pure.vc qe Tryz.func292 rfl (by kernel_rfl) ?_;by_cases h4:op=4
 . subst h4;simp;refine qb.call (j4 _) rfl ?_;simp[unW,qoE]
 by_cases h5:op=5
 . subst h5;simp;refine qb.call (inv298 a) rfl ?_;simp[unW]
 by_cases h6:op=6
 . subst h6;simp;refine qb.call (neg299 a) rfl ?_;simp[unW]
 simp[h4,h5,h6];refine qb.call (qnN a) rfl ?_;simp[unW,h4,h5,h6]
theorem qnY {x y:Nat}(hx:x<65536)(hy:y<65536):zM .and .i64 (x:Int) (y:Int)=some (.int .i64 ((x &&& y:Nat):Int)):=by
 have h:=Nat.and_lt_two_pow (n:=16) x (y:=y) (by omega);have e1:(BitVec.ofInt IntKind.i64.bits (x:Int)).toNat=x:=by
  show (BitVec.ofInt 64 (x:Int)).toNat=x;rw[BitVec.toNat_ofInt];omega
 have e2:(BitVec.ofInt IntKind.i64.bits (y:Int)).toNat=y:=by
  show (BitVec.ofInt 64 (y:Int)).toNat=y;rw[BitVec.toNat_ofInt];omega
 show some (AV.int .i64 (IntKind.i64.wrap ((BitVec.ofInt IntKind.i64.bits (x:Int) &&& BitVec.ofInt IntKind.i64.bits (y:Int)).toNat:Int)))=_;rw[BitVec.toNat_and,e1,e2,wr (by omega) (by omega)]
theorem nat_or {x y:Nat}(hx:x<65536)(hy:y<65536):zM .or .i64 (x:Int) (y:Int)=some (.int .i64 ((x ||| y:Nat):Int)):=by
 have h:=Nat.or_lt_two_pow (n:=16) (x:=x) (y:=y) (by omega) (by omega);have e1:(BitVec.ofInt IntKind.i64.bits (x:Int)).toNat=x:=by
  show (BitVec.ofInt 64 (x:Int)).toNat=x;rw[BitVec.toNat_ofInt];omega
 have e2:(BitVec.ofInt IntKind.i64.bits (y:Int)).toNat=y:=by
  show (BitVec.ofInt 64 (y:Int)).toNat=y;rw[BitVec.toNat_ofInt];omega
 show some (AV.int .i64 (IntKind.i64.wrap ((BitVec.ofInt IntKind.i64.bits (x:Int) ||| BitVec.ofInt IntKind.i64.bits (y:Int)).toNat:Int)))=_;rw[BitVec.toNat_or,e1,e2,wr (by omega) (by omega)]
theorem qnX {x y:Nat}(hx:x<65536)(hy:y<65536):zM .xor .i64 (x:Int) (y:Int)=some (.int .i64 ((x ^^^ y:Nat):Int)):=by
 have h:=Nat.xor_lt_two_pow (n:=16) (x:=x) (y:=y) (by omega) (by omega);have e1:(BitVec.ofInt IntKind.i64.bits (x:Int)).toNat=x:=by
  show (BitVec.ofInt 64 (x:Int)).toNat=x;rw[BitVec.toNat_ofInt];omega
 have e2:(BitVec.ofInt IntKind.i64.bits (y:Int)).toNat=y:=by
  show (BitVec.ofInt 64 (y:Int)).toNat=y;rw[BitVec.toNat_ofInt];omega
 show some (AV.int .i64 (IntKind.i64.wrap ((BitVec.ofInt IntKind.i64.bits (x:Int) ^^^ BitVec.ofInt IntKind.i64.bits (y:Int)).toNat:Int)))=_;rw[BitVec.toNat_xor,e1,e2,wr (by omega) (by omega)]
end Go.Proofs.YtcadpamddlofjaaGreatDoor
end
