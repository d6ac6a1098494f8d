/- A part of the proof. -/
import Derived.Test.YtkpkjbchlabaaaaGreatDoorSa20
set_option linter.unusedVariables false
set_option linter.unusedSimpArgs false
set_option maxRecDepth 100000
set_option linter.defProp false
section
namespace Go.Proofs.YtkpkjbchlabaaaaGreatDoor
open Go Go.Abs
theorem qmq (n:Int):((BitVec.ofInt 64 n &&& 65535#64).toNat:Int)=n % 65536:=by
 rw[BitVec.toNat_and,BitVec.toNat_ofInt];have e:(65535#64).toNat=2 ^ 16-1:=by decide
 rw[e,qsz];omega
theorem wr16 {n:Int}(h0:0<=n)(h1:n<=65535):IntKind.u16.wrap n=n:=by
 simp[IntKind.wrap,IntKind.bits,IntKind.signed];omega
theorem qgs (n:Int):IntKind.u16.wrap n=n % 65536:=by
 simp[IntKind.wrap,IntKind.bits,IntKind.signed]
theorem and_op (n:Int):zp .and .i64 n 65535=some (.int .i64 (qK n)):=by
 have h1:=qD n;have h2:=qmq n;have h5:n % 65536=qK n:=rfl;show some (AV.int .i64 (IntKind.i64.wrap ((BitVec.ofInt 64 n &&& 65535#64).toNat:Int)))=_;rw[h2,h5,wr (by omega) (by omega)]
theorem Kw (n:Int):Pure Tryz.prog GG 251 [.int .i64 n] (.int .u16 (qK n)):=by
 refine Pure.vc qe Tryz.func251 rfl (by kernel_rfl) ?_;have h1:=qD n;have h4:IntKind.u16.wrap (qK n)=qK n:=wr16 h1.1 h1.2;simp[-zp,and_op,yK,h4]
theorem Jz (n:Int)(h0:0<=n)(h1:n<=65535):Pure Tryz.prog GG 252 [.int .u16 n] (.int .i64 n):=by
 refine Pure.vc qe Tryz.func252 rfl (by kernel_rfl) ?_;have h3:IntKind.i64.wrap n=n:=wr (by omega) (by omega);simp[yK,h3]
theorem qnL (n:Int):Pure Tryz.prog GG 194 [.int .i64 n] (.int .i64 (qK n)):=by
 refine Pure.vc qe Tryz.func194 rfl (by kernel_rfl) ?_
 try simp
 refine qb.call (Kw n) rfl ?_
 try simp
 refine qb.call (Jz (qK n) (qD n).1 (qD n).2) rfl ?_;simp
theorem qgP {f:FuncId}{x:AV}{b r:Int}(hx:qR x=true)(h0:0<=r)(h1:r<=65535)(h:Pure Tryz.prog GG f [x,.int .u16 (qK b)] (.int .u16 r)):Pure Tryz.prog GG 253 [.fn f [x] [],.int .i64 b] (.int .i64 r):=by
 refine Pure.vc qe Tryz.func253 rfl (by kernel_rfl) ?_
 try simp
 refine qb.call (Kw b) rfl ?_
 try simp
 refine qb.call h (by simp[hx]) ?_
 try simp
 refine qb.call (Jz r h0 h1) rfl ?_;simp
theorem qm0 {f:FuncId}{x:AV}{r:Int}(hx:qR x=true)(h0:0<=r)(h1:r<=65535)(h:Pure Tryz.prog GG f [x] (.int .u16 r)):Pure Tryz.prog GG 301 [.fn f [x] []] (.int .i64 r):=by
 refine Pure.vc qe Tryz.func301 rfl (by kernel_rfl) ?_
 try simp
 refine qb.call h (by simp[hx]) ?_
 try simp
 refine qb.call (Jz r h0 h1) rfl ?_;simp
theorem qnS (a b:Int):Pure Tryz.prog GG 254 [.int .u16 (qK a),.int .u16 (qK b)] (.int .u16 (qK (a+b))):=by
 refine Pure.vc qe Tryz.func254 rfl (by kernel_rfl) ?_;have h:IntKind.u16.wrap (qK a+qK b)=qK (a+b):=by rw[qgs];unfold qK;omega
 simp[zp,h]
theorem qnI (a b:Int):Pure Tryz.prog GG 305 [.int .u16 (qK a),.int .u16 (qK b)] (.int .u16 (qK (a-b))):=by
 refine Pure.vc qe Tryz.func305 rfl (by kernel_rfl) ?_;have h:IntKind.u16.wrap (qK a-qK b)=qK (a-b):=by rw[qgs];unfold qK;omega
 simp[zp,h]
theorem qgr (a b:Int):qK (qK a*qK b)=qK (a*b):=by
 unfold qK;rw[<- qtY]
theorem qnP (a b:Int):Pure Tryz.prog GG 306 [.int .u16 (qK a),.int .u16 (qK b)] (.int .u16 (qK (a*b))):=by
 refine Pure.vc qe Tryz.func306 rfl (by kernel_rfl) ?_;have h:IntKind.u16.wrap (qK a*qK b)=qK (a*b):=by rw[qgs];exact qgr a b
 simp[zp,h]
theorem qnO (a:Int):Pure Tryz.prog GG 303 [.int .u16 (qK a)] (.int .u16 (qK (0-a))):=by
 refine Pure.vc qe Tryz.func303 rfl (by kernel_rfl) ?_;have h:IntKind.u16.wrap (0-qK a)=qK (0-a):=by rw[qgs];unfold qK;omega
 simp only[Int.zero_sub]at h ⊢;simp[unA,h]
theorem qjM {n:Int}(h0:0<=n)(h1:n<=65535):(((BitVec.ofInt 16 65535) ^^^ (BitVec.ofInt 16 n)).toNat:Int)=65535-n:=by
 have e:BitVec.ofInt 16 65535=BitVec.allOnes 16:=by decide
 rw[e,BitVec.allOnes_xor,BitVec.toNat_not,BitVec.toNat_ofInt];omega
theorem qnQ (a:Int):Pure Tryz.prog GG 302 [.int .u16 (qK a)] (.int .u16 (65535-qK a)):=by
 refine Pure.vc qe Tryz.func302 rfl (by kernel_rfl) ?_;have hr:=qD a;have h:=qjM hr.1 hr.2;have h2:IntKind.u16.wrap (65535-qK a)=65535-qK a:=wr16 (by omega) (by omega);have h3:(if IntKind.u16.signed=true then (-1:Int) else IntKind.u16.max)=65535:=by decide
 have h4:unA .xor (.int .u16 (qK a))=some (.int .u16 (65535-qK a)):=by
  unfold unA;simp only[];rw[h3];show some (AV.int .u16 (IntKind.u16.wrap (((BitVec.ofInt 16 65535) ^^^ (BitVec.ofInt 16 (qK a))).toNat:Int)))=_;rw[h,h2]
 simp[-unA,h4]
theorem qny (a b:Int):Pure Tryz.prog GG 195 [.int .i64 a,.int .i64 b] (.int .i64 (qK (a+b))):=by
 refine Pure.vc qe Tryz.func195 rfl (by kernel_rfl) ?_
 try simp
 refine qb.call (Kw a) rfl ?_
 try simp
 refine qb.call (qgP (by simp) (qD _).1 (qD _).2 (qnS a b)) rfl ?_;simp
theorem sub301 (a b:Int):Pure Tryz.prog GG 259 [.int .i64 a,.int .i64 b] (.int .i64 (qK (a-b))):=by
 refine Pure.vc qe Tryz.func259 rfl (by kernel_rfl) ?_
 try simp
 refine qb.call (Kw a) rfl ?_
 try simp
 refine qb.call (qgP (by simp) (qD _).1 (qD _).2 (qnI a b)) rfl ?_;simp
theorem mul302 (a b:Int):Pure Tryz.prog GG 260 [.int .i64 a,.int .i64 b] (.int .i64 (qK (a*b))):=by
 refine Pure.vc qe Tryz.func260 rfl (by kernel_rfl) ?_
 try simp
 refine qb.call (Kw a) rfl ?_
 try simp
 refine qb.call (qgP (by simp) (qD _).1 (qD _).2 (qnP a b)) rfl ?_;simp
theorem inv298 (a:Int):Pure Tryz.prog GG 256 [.int .i64 a] (.int .i64 (65535-qK a)):=by
 refine Pure.vc qe Tryz.func256 rfl (by kernel_rfl) ?_;have hr:=qD a
 try simp
 refine qb.call (Kw a) rfl ?_
 try simp
 refine qb.call (qm0 (by simp) (by omega) (by omega) (qnQ a)) rfl ?_;simp
theorem neg299 (a:Int):Pure Tryz.prog GG 257 [.int .i64 a] (.int .i64 (qK (0-a))):=by
 refine Pure.vc qe Tryz.func257 rfl (by kernel_rfl) ?_
 try simp
 refine qb.call (Kw a) rfl ?_
 try simp
 refine qb.call (qm0 (by simp) (qD _).1 (qD _).2 (qnO a)) rfl ?_;simp
def shlW (a b:Int):Int:=if 0<=b/\b<16 then qK (a*2 ^ b.toNat) else 0
def shrW (a b:Int):Int:=if 0<=b/\b<16 then qK a / 2 ^ b.toNat else 0
theorem qdO {f:FuncId}{x:AV}{b r:Int}(hx:qR x=true)(h0:0<=r)(h1:r<=65535)(h:0<=b->b<16->Pure Tryz.prog GG f [x,.int .i64 b] (.int .u16 r)) :
 Pure Tryz.prog GG 307 [.fn f [x] [],.int .i64 b] (.int .i64 (if 0<=b/\b<16 then r else 0)):=by
 refine Pure.vc qe Tryz.func307 rfl (by kernel_rfl) ?_;by_cases c0:b<0
 . rw[if_neg (by omega)];simp[c0]
 . by_cases c1:16<=b
   . rw[if_neg (by omega)];simp[c0,c1]
   . rw[if_pos (by omega)];simp[c0,c1];refine qb.call (h (by omega) (by omega)) (by simp[hx]) ?_
     try simp
     refine qb.call (Jz r h0 h1) rfl ?_;simp
theorem qeX (a c:Int):qK (qK a*c)=qK (a*c):=by
 unfold qK;rw[qtY,Int.emod_emod_of_dvd _ (Int.dvd_refl _),<- qtY]
theorem qnK (a b:Int)(h0:0<=b)(h1:b<16):Pure Tryz.prog GG 308 [.int .u16 (qK a),.int .i64 b] (.int .u16 (qK (a*2 ^ b.toNat))):=by
 refine Pure.vc qe Tryz.func308 rfl (by kernel_rfl) ?_;have hm:min b.toNat 16=b.toNat:=by omega
 have h:IntKind.u16.wrap (qK a*2 ^ b.toNat)=qK (a*2 ^ b.toNat):=by rw[qgs];exact qeX a _
 have h2:¬ b<0:=by omega
 simp[qmf,IntKind.bits,hm,h,h2]
theorem qnJ (a b:Int)(h0:0<=b)(h1:b<16):Pure Tryz.prog GG 309 [.int .u16 (qK a),.int .i64 b] (.int .u16 (qK a / 2 ^ b.toNat)):=by
 refine Pure.vc qe Tryz.func309 rfl (by kernel_rfl) ?_;have hm:min b.toNat 16=b.toNat:=by omega
 have hp:(0:Int)<2 ^ b.toNat:=qtG (by omega);have h:(qK a).fdiv (2 ^ b.toNat)=qK a / 2 ^ b.toNat:=qsk _ (by omega);have h2:¬ b<0:=by omega
 simp[qmf,IntKind.bits,hm,h,h2]
theorem shl303 (a b:Int):Pure Tryz.prog GG 261 [.int .i64 a,.int .i64 b] (.int .i64 (shlW a b)):=by
 refine Pure.vc qe Tryz.func261 rfl (by kernel_rfl) ?_
 try simp
 refine qb.call (Kw a) rfl ?_
 try simp
 refine qb.call (qdO (by simp) (qD _).1 (qD _).2 (qnK a b)) rfl ?_;simp[shlW]
theorem shr304 (a b:Int):Pure Tryz.prog GG 262 [.int .i64 a,.int .i64 b] (.int .i64 (shrW a b)):=by
 refine Pure.vc qe Tryz.func262 rfl (by kernel_rfl) ?_;have hr:=qaw b.toNat (qD a).1 (qD a).2
 try simp
 refine qb.call (Kw a) rfl ?_
 try simp
 refine qb.call (qdO (by simp) hr.1 hr.2 (qnJ a b)) rfl ?_;simp[shrW]
def tabW:List UInt8:=(List.range 256).map fun i=>UInt8.ofNat (ki i 8)
theorem qdB {i:Nat}(h:i<256):tabW[i]?=some (UInt8.ofNat (ki i 8)):=by simp[tabW,h]
theorem qd9 (a:Nat):∀ i,i<=8->ki (a % 256) i=ki a i
 | 0,_=>rfl
 | i+1,h=>by
  have h1:(a % 256).testBit i=a.testBit i:=by
   rw[show 256=2 ^ 8 by decide,qsZ];simp;omega
  simp only[ki,qd9 a i (by omega),h1]
theorem qea (a:Nat):∀ i,ki a (8+i)=ki a 8+ki (a / 256) i
 | 0=>by simp[ki]
 | i+1=>by
  have h1:(a / 256).testBit i=a.testBit (8+i):=by
   rw[show 256=2 ^ 8 by decide,qtB,qrZ]
  show ki a (8+i+1)=_;simp only[ki,qea a i,h1];omega
theorem qkW (a:Nat):ki a 16=ki (a / 256) 8+ki (a % 256) 8:=by
 rw[qd9 a 8 (qqn _),show 16=8+8 by rfl,qea];omega
theorem tabL:([0,1,1,2,1,2,2,3,1,2,2,3,2,3,3,4,1,2,2,3,2,3,3,4,2,3,3,4,3,4,4,5,1,2,2,3,2,3,3,4,2,3,3,4,3,4,4,5,2,3,3,4,3,4,4,5,3,4,4,5,4,5,5,6,1,2,2,3,2,3,3,4,2,3,3,4,3,4,4,5,2,3,3,4,3,4,4,5,3,4,4,5,4,5,5,6,2,3,3,4,3,4,4,5,3,4,4,5,4,5,5,6,3,4,4,5,4,5,5,6,4,5,5,6,5,6,6,7,1,2,2,3,2,3,3,4,2,3,3,4,3,4,4,5,2,3,3,4,3,4,4,5,3,4,4,5,4,5,5,6,2,3,3,4,3,4,4,5,3,4,4,5,4,5,5,6,3,4,4,5,4,5,5,6,4,5,5,6,5,6,6,7,2,3,3,4,3,4,4,5,3,4,4,5,4,5,5,6,3,4,4,5,4,5,5,6,4,5,5,6,5,6,6,7,3,4,4,5,4,5,5,6,4,5,5,6,5,6,6,7,4,5,5,6,5,6,6,7,5,6,6,7,6,7,7,8]:List UInt8)=tabW:=by decide +kernel
theorem qoH (a:Int)(h0:0<=a)(h1:a<=65535):Pure Tryz.prog GG 304 [.int .u16 a] (.int .i64 (ki a.toNat 16)):=by
 refine Pure.vc qe Tryz.func304 rfl (by kernel_rfl) ?_;obtain⟨n,rfl⟩:=qqL h0;have e1:qmf (Dof Tryz.prog) .shr 292 (.int .u16 (n:Int)) (.int .u64 8)=some (.int .u16 ((n / 256:Nat):Int)):=by
  have e:(n:Int).fdiv (2 ^ (min 8 IntKind.u16.bits))=((n / 256:Nat):Int):=by
   show (n:Int).fdiv 256=_;rw[qsk _ (by omega)];omega
  show some (AV.int .u16 ((n:Int).fdiv (2 ^ (min 8 IntKind.u16.bits))))=_;rw[e]
 have e2:qmf (Dof Tryz.prog) .and 292 (.int .u16 (n:Int)) (.int .u16 255)=some (.int .u16 ((n % 256:Nat):Int)):=by
  have e:((BitVec.ofInt 16 (n:Int) &&& 255#16).toNat:Int)=((n % 256:Nat):Int):=by
   rw[BitVec.toNat_and,BitVec.toNat_ofInt];have e:(255#16).toNat=2 ^ 8-1:=(by decide);rw[e,qsz];omega
  show some (AV.int .u16 (IntKind.u16.wrap ((BitVec.ofInt 16 (n:Int) &&& 255#16).toNat:Int)))=_;rw[e,wr16 (by omega) (by omega)]
 have g1:=qdB (i:=n / 256) (by omega);have g2:=qdB (i:=n % 256) (by omega);have l1:=JF (n / 256) 8;have l2:=JF (n % 256) 8;have e4:=qkW n;have p1:(0:Int)<=((n / 256:Nat):Int):=by omega
 have p2:(0:Int)<=((n % 256:Nat):Int):=by omega
 have u:∀ x y:Nat,x<=8->y<=8->IntKind.u8.wrap (((x:Int) % 256)+((y:Int) % 256))=(x:Int)+y/\IntKind.i64.wrap ((x:Int)+y)=x+y:=by
  intro x y hx hy;refine⟨?_,wr (by omega) (by omega)⟩;simp[IntKind.wrap,IntKind.bits,IntKind.signed];omega
 obtain⟨w1,w2⟩:=u _ _ l1 l2;rw[qqT,e4];generalize n / 256=p at *;generalize n % 256=q at *;simp[e1,e2,tabL,g1,g2,-qmf,-zp];simp[w1,w2,yK]
theorem qoI (a:Int):Pure Tryz.prog GG 258 [.int .i64 a] (.int .i64 (ki (qK a).toNat 16)):=by
 refine Pure.vc qe Tryz.func258 rfl (by kernel_rfl) ?_
 try simp
 refine qb.call (Kw a) rfl ?_
 try simp
 refine qb.call (qoH (qK a) (qD a).1 (qD a).2) rfl ?_;simp
theorem ZR (a b:Int):(a==b)=decide (a=b):=by
 by_cases h:a=b
 . subst h;simp
 . rw[decide_eq_false h];exact beq_eq_false_iff_ne.2 h
theorem Kf (a b:Int):(a != b) = !decide (a=b):=by rw[bne,ZR]
theorem j9 (b:Bool):Pure Tryz.prog GG 255 [.bool b] (.int .i64 (b2i b)):=by
 refine Pure.vc qe Tryz.func255 rfl (by kernel_rfl) ?_;cases b<;>simp[b2i]
theorem qpR (a b:Int):b2i (a==b)=b2i (decide (a=b)):=by
 have e:(a==b)=decide (a=b):=by
  by_cases h:a=b
  . subst h;simp
  . rw[decide_eq_false h];exact beq_eq_false_iff_ne.2 h
 rw[e]
theorem qg7 (op a:Int):Pure Tryz.prog GG 196 [.int .i64 op,.int .i64 a] (.int .i64 (unW op a)):=by
 refine Pure.vc qe Tryz.func196 rfl (by kernel_rfl) ?_;by_cases h4:op=4
 . subst h4;simp;refine qb.call (j9 _) rfl ?_;simp[unW,qpR]
 by_cases h5:op=5
 . subst h5;simp;refine qb.call (inv298 a) rfl ?_;simp[unW]
 by_cases h6:op=6
 . subst h6;simp;refine qb.call (neg299 a) rfl ?_;simp[unW]
 simp[h4,h5,h6];refine qb.call (qoI a) rfl ?_;simp[unW,h4,h5,h6]
theorem qoU {x y:Nat}(hx:x<65536)(hy:y<65536):zp .and .i64 (x:Int) (y:Int)=some (.int .i64 ((x &&& y:Nat):Int)):=by
 have h:=Nat.and_lt_two_pow (n:=16) x (y:=y) (by omega);have e1:(BitVec.ofInt IntKind.i64.bits (x:Int)).toNat=x:=by
  show (BitVec.ofInt 64 (x:Int)).toNat=x;rw[BitVec.toNat_ofInt];omega
 have e2:(BitVec.ofInt IntKind.i64.bits (y:Int)).toNat=y:=by
  show (BitVec.ofInt 64 (y:Int)).toNat=y;rw[BitVec.toNat_ofInt];omega
 show some (AV.int .i64 (IntKind.i64.wrap ((BitVec.ofInt IntKind.i64.bits (x:Int) &&& BitVec.ofInt IntKind.i64.bits (y:Int)).toNat:Int)))=_;rw[BitVec.toNat_and,e1,e2,wr (by omega) (by omega)]
theorem nat_or {x y:Nat}(hx:x<65536)(hy:y<65536):zp .or .i64 (x:Int) (y:Int)=some (.int .i64 ((x ||| y:Nat):Int)):=by
 have h:=Nat.or_lt_two_pow (n:=16) (x:=x) (y:=y) (by omega) (by omega);have e1:(BitVec.ofInt IntKind.i64.bits (x:Int)).toNat=x:=by
  show (BitVec.ofInt 64 (x:Int)).toNat=x;rw[BitVec.toNat_ofInt];omega
 have e2:(BitVec.ofInt IntKind.i64.bits (y:Int)).toNat=y:=by
  show (BitVec.ofInt 64 (y:Int)).toNat=y;rw[BitVec.toNat_ofInt];omega
 show some (AV.int .i64 (IntKind.i64.wrap ((BitVec.ofInt IntKind.i64.bits (x:Int) ||| BitVec.ofInt IntKind.i64.bits (y:Int)).toNat:Int)))=_;rw[BitVec.toNat_or,e1,e2,wr (by omega) (by omega)]
theorem qoT {x y:Nat}(hx:x<65536)(hy:y<65536):zp .xor .i64 (x:Int) (y:Int)=some (.int .i64 ((x ^^^ y:Nat):Int)):=by
 have h:=Nat.xor_lt_two_pow (n:=16) (x:=x) (y:=y) (by omega) (by omega);have e1:(BitVec.ofInt IntKind.i64.bits (x:Int)).toNat=x:=by
  show (BitVec.ofInt 64 (x:Int)).toNat=x;rw[BitVec.toNat_ofInt];omega
 have e2:(BitVec.ofInt IntKind.i64.bits (y:Int)).toNat=y:=by
  show (BitVec.ofInt 64 (y:Int)).toNat=y;rw[BitVec.toNat_ofInt];omega
 show some (AV.int .i64 (IntKind.i64.wrap ((BitVec.ofInt IntKind.i64.bits (x:Int) ^^^ BitVec.ofInt IntKind.i64.bits (y:Int)).toNat:Int)))=_;rw[BitVec.toNat_xor,e1,e2,wr (by omega) (by omega)]
end Go.Proofs.YtkpkjbchlabaaaaGreatDoor
end
