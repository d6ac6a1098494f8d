/- A part of the proof. -/
import Derived.Test.YtpgcmnabljandaaGreatDoorPa30
import Derived.Test.YtpgcmnabljandaaGreatDoorPa16
set_option linter.unusedVariables false
set_option linter.unusedSimpArgs false
set_option maxRecDepth 100000
set_option linter.defProp false
attribute [local simp] Go.Abs.acells Go.Abs.fin Go.Abs.zh Go.Abs.ze Go.Abs.pl1 Go.Abs.plain Go.Abs.pl2 Go.Abs.AV.atom
section
namespace Go.Proofs.YtpgcmnabljandaaGreatDoor
open Go Go.Abs
theorem qn8 (n:Int):((BitVec.ofInt 64 n &&& 65535#64).toNat:Int)=n % 65536:=by
 rw[BitVec.toNat_and,BitVec.toNat_ofInt];have e:(65535#64).toNat=2 ^ 16-1:=by decide
 rw[e,qtq];omega
theorem wr16 {n:Int}(h0:0<=n)(h1:n<=65535):IntKind.u16.wrap n=n:=by
 simp[IntKind.wrap,IntKind.bits,IntKind.signed];omega
theorem qiL (n:Int):IntKind.u16.wrap n=n % 65536:=by
 simp[IntKind.wrap,IntKind.bits,IntKind.signed]
theorem and_op (n:Int):QQ .and .i64 n 65535=some (.int .i64 (zf n)):=by
 have h1:=qL n;have h2:=qn8 n;have h5:n % 65536=zf n:=rfl;show some (AV.int .i64 (IntKind.i64.wrap ((BitVec.ofInt 64 n &&& 65535#64).toNat:Int)))=_;rw[h2,h5,wr (by omega) (by omega)]
theorem Vj (n:Int):PZ 293 [.int .i64 n] (.int .u16 (zf n)):=by
 refine Pure.vc qg Tryz.func293 rfl (by kernel_rfl) ?_;have h1:=qL n;have h4:IntKind.u16.wrap (zf n)=zf n:=wr16 h1.1 h1.2;simp[-QQ,and_op,Zu,h4]
theorem YX (n:Int)(h0:0<=n)(h1:n<=65535):PZ 294 [.int .u16 n] (.int .i64 n):=by
 refine Pure.vc qg Tryz.func294 rfl (by kernel_rfl) ?_;have h3:IntKind.i64.wrap n=n:=wr (by omega) (by omega);simp[Zu,h3]
theorem qo1 (n:Int):PZ 236 [.int .i64 n] (.int .i64 (zf n)):=by
 refine Pure.vc qg Tryz.func236 rfl (by kernel_rfl) ?_
 try simp
 refine qe.call (Vj n) rfl ?_
 try simp
 refine qe.call (YX (zf n) (qL n).1 (qL n).2) rfl ?_;simp
theorem qjd {f:FuncId}{x:AV}{b r:Int}(hx:zg x=true)(h0:0<=r)(h1:r<=65535)(h:PZ f [x,.int .u16 (zf b)] (.int .u16 r)):PZ 295 [.fn f [x] [],.int .i64 b] (.int .i64 r):=by
 refine Pure.vc qg Tryz.func295 rfl (by kernel_rfl) ?_
 try simp
 refine qe.call (Vj b) rfl ?_
 try simp
 refine qe.call h (by simp[hx]) ?_
 try simp
 refine qe.call (YX r h0 h1) rfl ?_;simp
theorem qop {f:FuncId}{x:AV}{r:Int}(hx:zg x=true)(h0:0<=r)(h1:r<=65535)(h:PZ f [x] (.int .u16 r)):PZ 348 [.fn f [x] []] (.int .i64 r):=by
 refine Pure.vc qg Tryz.func348 rfl (by kernel_rfl) ?_
 try simp
 refine qe.call h (by simp[hx]) ?_
 try simp
 refine qe.call (YX r h0 h1) rfl ?_;simp
theorem qo6 (a b:Int):PZ 296 [.int .u16 (zf a),.int .u16 (zf b)] (.int .u16 (zf (a+b))):=by
 refine Pure.vc qg Tryz.func296 rfl (by kernel_rfl) ?_;have h:IntKind.u16.wrap (zf a+zf b)=zf (a+b):=by rw[qiL];unfold zf;omega
 simp[QQ,h]
theorem qoY (a b:Int):PZ 352 [.int .u16 (zf a),.int .u16 (zf b)] (.int .u16 (zf (a-b))):=by
 refine Pure.vc qg Tryz.func352 rfl (by kernel_rfl) ?_;have h:IntKind.u16.wrap (zf a-zf b)=zf (a-b):=by rw[qiL];unfold zf;omega
 simp[QQ,h]
theorem qiK (a b:Int):zf (zf a*zf b)=zf (a*b):=by
 unfold zf;rw[<- qt7]
theorem qo4 (a b:Int):PZ 353 [.int .u16 (zf a),.int .u16 (zf b)] (.int .u16 (zf (a*b))):=by
 refine Pure.vc qg Tryz.func353 rfl (by kernel_rfl) ?_;have h:IntKind.u16.wrap (zf a*zf b)=zf (a*b):=by rw[qiL];exact qiK a b
 simp[QQ,h]
theorem qo3 (a:Int):PZ 350 [.int .u16 (zf a)] (.int .u16 (zf (0-a))):=by
 refine Pure.vc qg Tryz.func350 rfl (by kernel_rfl) ?_;have h:IntKind.u16.wrap (0-zf a)=zf (0-a):=by rw[qiL];unfold zf;omega
 simp only[Int.zero_sub]at h ⊢;simp[unA,h]
theorem qlR {n:Int}(h0:0<=n)(h1:n<=65535):(((BitVec.ofInt 16 65535) ^^^ (BitVec.ofInt 16 n)).toNat:Int)=65535-n:=by
 have e:BitVec.ofInt 16 65535=BitVec.allOnes 16:=by decide
 rw[e,BitVec.allOnes_xor,BitVec.toNat_not,BitVec.toNat_ofInt];omega
theorem qo5 (a:Int):PZ 349 [.int .u16 (zf a)] (.int .u16 (65535-zf a)):=by
 refine Pure.vc qg Tryz.func349 rfl (by kernel_rfl) ?_;have hr:=qL a;have h:=qlR hr.1 hr.2;have h2:IntKind.u16.wrap (65535-zf a)=65535-zf a:=wr16 (by omega) (by omega);have h3:(if IntKind.u16.signed=true then (-1:Int) else IntKind.u16.max)=65535:=by decide
 have h4:unA .xor (.int .u16 (zf a))=some (.int .u16 (65535-zf a)):=by
  unfold unA;simp only[];rw[h3];show some (AV.int .u16 (IntKind.u16.wrap (((BitVec.ofInt 16 65535) ^^^ (BitVec.ofInt 16 (zf a))).toNat:Int)))=_;rw[h,h2]
 simp[-unA,h4]
theorem qoM (a b:Int):PZ 237 [.int .i64 a,.int .i64 b] (.int .i64 (zf (a+b))):=by
 refine Pure.vc qg Tryz.func237 rfl (by kernel_rfl) ?_
 try simp
 refine qe.call (Vj a) rfl ?_
 try simp
 refine qe.call (qjd (by simp) (qL _).1 (qL _).2 (qo6 a b)) rfl ?_;simp
theorem sub301 (a b:Int):PZ 301 [.int .i64 a,.int .i64 b] (.int .i64 (zf (a-b))):=by
 refine Pure.vc qg Tryz.func301 rfl (by kernel_rfl) ?_
 try simp
 refine qe.call (Vj a) rfl ?_
 try simp
 refine qe.call (qjd (by simp) (qL _).1 (qL _).2 (qoY a b)) rfl ?_;simp
theorem mul302 (a b:Int):PZ 302 [.int .i64 a,.int .i64 b] (.int .i64 (zf (a*b))):=by
 refine Pure.vc qg Tryz.func302 rfl (by kernel_rfl) ?_
 try simp
 refine qe.call (Vj a) rfl ?_
 try simp
 refine qe.call (qjd (by simp) (qL _).1 (qL _).2 (qo4 a b)) rfl ?_;simp
theorem inv298 (a:Int):PZ 298 [.int .i64 a] (.int .i64 (65535-zf a)):=by
 refine Pure.vc qg Tryz.func298 rfl (by kernel_rfl) ?_;have hr:=qL a
 try simp
 refine qe.call (Vj a) rfl ?_
 try simp
 refine qe.call (qop (by simp) (by omega) (by omega) (qo5 a)) rfl ?_;simp
theorem neg299 (a:Int):PZ 299 [.int .i64 a] (.int .i64 (zf (0-a))):=by
 refine Pure.vc qg Tryz.func299 rfl (by kernel_rfl) ?_
 try simp
 refine qe.call (Vj a) rfl ?_
 try simp
 refine qe.call (qop (by simp) (qL _).1 (qL _).2 (qo3 a)) rfl ?_;simp
def shlW (a b:Int):Int:=if 0<=b/\b<16 then zf (a*2 ^ b.toNat) else 0
def shrW (a b:Int):Int:=if 0<=b/\b<16 then zf a / 2 ^ b.toNat else 0
theorem qfX {f:FuncId}{x:AV}{b r:Int}(hx:zg x=true)(h0:0<=r)(h1:r<=65535)(h:0<=b->b<16->PZ f [x,.int .i64 b] (.int .u16 r)) :
 PZ 354 [.fn f [x] [],.int .i64 b] (.int .i64 (if 0<=b/\b<16 then r else 0)):=by
 refine Pure.vc qg Tryz.func354 rfl (by kernel_rfl) ?_;by_cases c0:b<0
 . rw[if_neg (by omega)];simp[c0]
 . by_cases c1:16<=b
   . rw[if_neg (by omega)];simp[c0,c1]
   . rw[if_pos (by omega)];simp[c0,c1];refine qe.call (h (by omega) (by omega)) (by simp[hx]) ?_
     try simp
     refine qe.call (YX r h0 h1) rfl ?_;simp
theorem qg4 (a c:Int):zf (zf a*c)=zf (a*c):=by
 unfold zf;rw[qt7,Int.emod_emod_of_dvd _ (Int.dvd_refl _),<- qt7]
theorem qo0 (a b:Int)(h0:0<=b)(h1:b<16):PZ 355 [.int .u16 (zf a),.int .i64 b] (.int .u16 (zf (a*2 ^ b.toNat))):=by
 refine Pure.vc qg Tryz.func355 rfl (by kernel_rfl) ?_;have hm:min b.toNat 16=b.toNat:=by omega
 have h:IntKind.u16.wrap (zf a*2 ^ b.toNat)=zf (a*2 ^ b.toNat):=by rw[qiL];exact qg4 a _
 have h2:¬ b<0:=by omega
 simp[qiw,IntKind.bits,hm,h,h2]
theorem qoZ (a b:Int)(h0:0<=b)(h1:b<16):PZ 356 [.int .u16 (zf a),.int .i64 b] (.int .u16 (zf a / 2 ^ b.toNat)):=by
 refine Pure.vc qg Tryz.func356 rfl (by kernel_rfl) ?_;have hm:min b.toNat 16=b.toNat:=by omega
 have hp:(0:Int)<2 ^ b.toNat:=qtg (by omega);have h:(zf a).fdiv (2 ^ b.toNat)=zf a / 2 ^ b.toNat:=qtA _ (by omega);have h2:¬ b<0:=by omega
 simp[qiw,IntKind.bits,hm,h,h2]
theorem shl303 (a b:Int):PZ 303 [.int .i64 a,.int .i64 b] (.int .i64 (shlW a b)):=by
 refine Pure.vc qg Tryz.func303 rfl (by kernel_rfl) ?_
 try simp
 refine qe.call (Vj a) rfl ?_
 try simp
 refine qe.call (qfX (by simp) (qL _).1 (qL _).2 (qo0 a b)) rfl ?_;simp[shlW]
theorem shr304 (a b:Int):PZ 304 [.int .i64 a,.int .i64 b] (.int .i64 (shrW a b)):=by
 refine Pure.vc qg Tryz.func304 rfl (by kernel_rfl) ?_;have hr:=qci b.toNat (qL a).1 (qL a).2
 try simp
 refine qe.call (Vj a) rfl ?_
 try simp
 refine qe.call (qfX (by simp) hr.1 hr.2 (qoZ a b)) rfl ?_;simp[shrW]
def tabW:List UInt8:=(List.range 256).map fun i=>UInt8.ofNat (vN i 8)
theorem qfQ {i:Nat}(h:i<256):tabW[i]?=some (UInt8.ofNat (vN i 8)):=by simp[tabW,h]
theorem qgh (a:Nat):∀ i,i<=8->vN (a % 256) i=vN a i
 | 0,_=>rfl
 | i+1,h=>by
  have h1:(a % 256).testBit i=a.testBit i:=by
   rw[show 256=2 ^ 8 by decide,Nat.testBit_mod_two_pow];simp;omega
  simp only[vN,qgh a i (by omega),h1]
theorem qgi (a:Nat):∀ i,vN a (8+i)=vN a 8+vN (a / 256) i
 | 0=>by simp[vN]
 | i+1=>by
  have h1:(a / 256).testBit i=a.testBit (8+i):=by
   rw[show 256=2 ^ 8 by decide,Nat.testBit_div_two_pow,qtl]
  show vN a (8+i+1)=_;simp only[vN,qgi a i,h1];omega
theorem qmV (a:Nat):vN a 16=vN (a / 256) 8+vN (a % 256) 8:=by
 rw[qgh a 8 (qrn _),show 16=8+8 by rfl,qgi];omega
theorem tabL:([0,1,1,2,1,2,2,3,1,2,2,3,2,3,3,4,1,2,2,3,2,3,3,4,2,3,3,4,3,4,4,5,1,2,2,3,2,3,3,4,2,3,3,4,3,4,4,5,2,3,3,4,3,4,4,5,3,4,4,5,4,5,5,6,1,2,2,3,2,3,3,4,2,3,3,4,3,4,4,5,2,3,3,4,3,4,4,5,3,4,4,5,4,5,5,6,2,3,3,4,3,4,4,5,3,4,4,5,4,5,5,6,3,4,4,5,4,5,5,6,4,5,5,6,5,6,6,7,1,2,2,3,2,3,3,4,2,3,3,4,3,4,4,5,2,3,3,4,3,4,4,5,3,4,4,5,4,5,5,6,2,3,3,4,3,4,4,5,3,4,4,5,4,5,5,6,3,4,4,5,4,5,5,6,4,5,5,6,5,6,6,7,2,3,3,4,3,4,4,5,3,4,4,5,4,5,5,6,3,4,4,5,4,5,5,6,4,5,5,6,5,6,6,7,3,4,4,5,4,5,5,6,4,5,5,6,5,6,6,7,4,5,5,6,5,6,6,7,5,6,6,7,6,7,7,8]:List UInt8)=tabW:=by decide +kernel
theorem qpW (a:Int)(h0:0<=a)(h1:a<=65535):PZ 351 [.int .u16 a] (.int .i64 (vN a.toNat 16)):=by
 refine Pure.vc qg Tryz.func351 rfl (by kernel_rfl) ?_;obtain⟨n,rfl⟩:=qrj h0;have e1:qiw (Dof Zp) .shr 294 (.int .u16 (n:Int)) (.int .u64 8)=some (.int .u16 ((n / 256:Nat):Int)):=by
  have e:(n:Int).fdiv (2 ^ (min 8 IntKind.u16.bits))=((n / 256:Nat):Int):=by
   show (n:Int).fdiv 256=_;rw[qtA _ (by omega)];omega
  show some (AV.int .u16 ((n:Int).fdiv (2 ^ (min 8 IntKind.u16.bits))))=_;rw[e]
 have e2:qiw (Dof Zp) .and 294 (.int .u16 (n:Int)) (.int .u16 255)=some (.int .u16 ((n % 256:Nat):Int)):=by
  have e:((BitVec.ofInt 16 (n:Int) &&& 255#16).toNat:Int)=((n % 256:Nat):Int):=by
   rw[BitVec.toNat_and,BitVec.toNat_ofInt];have e:(255#16).toNat=2 ^ 8-1:=(by decide);rw[e,qtq];omega
  show some (AV.int .u16 (IntKind.u16.wrap ((BitVec.ofInt 16 (n:Int) &&& 255#16).toNat:Int)))=_;rw[e,wr16 (by omega) (by omega)]
 have g1:=qfQ (i:=n / 256) (by omega);have g2:=qfQ (i:=n % 256) (by omega);have l1:=Y3 (n / 256) 8;have l2:=Y3 (n % 256) 8;have e4:=qmV n;have p1:(0:Int)<=((n / 256:Nat):Int):=by omega
 have p2:(0:Int)<=((n % 256:Nat):Int):=by omega
 have u:∀ x y:Nat,x<=8->y<=8->IntKind.u8.wrap (((x:Int) % 256)+((y:Int) % 256))=(x:Int)+y/\IntKind.i64.wrap ((x:Int)+y)=x+y:=by
  intro x y hx hy;refine⟨?_,wr (by omega) (by omega)⟩;simp[IntKind.wrap,IntKind.bits,IntKind.signed];omega
 obtain⟨w1,w2⟩:=u _ _ l1 l2;rw[qsr,e4];generalize n / 256=p at *;generalize n % 256=q at *;simp[e1,e2,tabL,g1,g2,-qiw,-QQ];simp[w1,w2,Zu]
theorem qpX (a:Int):PZ 300 [.int .i64 a] (.int .i64 (vN (zf a).toNat 16)):=by
 refine Pure.vc qg Tryz.func300 rfl (by kernel_rfl) ?_
 try simp
 refine qe.call (Vj a) rfl ?_
 try simp
 refine qe.call (qpW (zf a) (qL a).1 (qL a).2) rfl ?_;simp
theorem qkc {a b c d:Int}(ha0:0<=a)(ha1:a<=c)(hb0:0<=b)(hb1:b<=d):0<=a*b/\a*b<=c*d :=
 ⟨qtt ha0 hb0,Int.mul_le_mul ha1 hb1 hb0 (by omega)⟩
theorem Yl (a b:Int):(a==b)=decide (a=b):=by
 by_cases h:a=b
 . subst h;simp
 . rw[decide_eq_false h];exact beq_eq_false_iff_ne.2 h
theorem WY (a b:Int):(a != b) = !decide (a=b):=by rw[bne,Yl]
theorem ke (b:Bool):PZ 297 [.bool b] (.int .i64 (b2i b)):=by
 refine Pure.vc qg Tryz.func297 rfl (by kernel_rfl) ?_;cases b<;>simp[b2i]
theorem qqM (a b:Int):b2i (a==b)=b2i (decide (a=b)):=by
 have e:(a==b)=decide (a=b):=by
  by_cases h:a=b
  . subst h;simp
  . rw[decide_eq_false h];exact beq_eq_false_iff_ne.2 h
 rw[e]
theorem qjk (op a:Int):PZ 238 [.int .i64 op,.int .i64 a] (.int .i64 (unW op a)):=by
 refine Pure.vc qg Tryz.func238 rfl (by kernel_rfl) ?_;by_cases h4:op=4
 . subst h4;simp;refine qe.call (ke _) rfl ?_;simp[unW,qqM]
 by_cases h5:op=5
 . subst h5;simp;refine qe.call (inv298 a) rfl ?_;simp[unW]
 by_cases h6:op=6
 . subst h6;simp;refine qe.call (neg299 a) rfl ?_;simp[unW]
 simp[h4,h5,h6];refine qe.call (qpX a) rfl ?_;simp[unW,h4,h5,h6]
theorem qp5 {x y:Nat}(hx:x<65536)(hy:y<65536):QQ .and .i64 (x:Int) (y:Int)=some (.int .i64 ((x &&& y:Nat):Int)):=by
 have h:=Nat.and_lt_two_pow (n:=16) x (y:=y) (by omega);have e1:(BitVec.ofInt IntKind.i64.bits (x:Int)).toNat=x:=by
  show (BitVec.ofInt 64 (x:Int)).toNat=x;rw[BitVec.toNat_ofInt];omega
 have e2:(BitVec.ofInt IntKind.i64.bits (y:Int)).toNat=y:=by
  show (BitVec.ofInt 64 (y:Int)).toNat=y;rw[BitVec.toNat_ofInt];omega
 show some (AV.int .i64 (IntKind.i64.wrap ((BitVec.ofInt IntKind.i64.bits (x:Int) &&& BitVec.ofInt IntKind.i64.bits (y:Int)).toNat:Int)))=_;rw[BitVec.toNat_and,e1,e2,wr (by omega) (by omega)]
theorem nat_or {x y:Nat}(hx:x<65536)(hy:y<65536):QQ .or .i64 (x:Int) (y:Int)=some (.int .i64 ((x ||| y:Nat):Int)):=by
 have h:=Nat.or_lt_two_pow (n:=16) (x:=x) (y:=y) (by omega) (by omega);have e1:(BitVec.ofInt IntKind.i64.bits (x:Int)).toNat=x:=by
  show (BitVec.ofInt 64 (x:Int)).toNat=x;rw[BitVec.toNat_ofInt];omega
 have e2:(BitVec.ofInt IntKind.i64.bits (y:Int)).toNat=y:=by
  show (BitVec.ofInt 64 (y:Int)).toNat=y;rw[BitVec.toNat_ofInt];omega
 show some (AV.int .i64 (IntKind.i64.wrap ((BitVec.ofInt IntKind.i64.bits (x:Int) ||| BitVec.ofInt IntKind.i64.bits (y:Int)).toNat:Int)))=_;rw[BitVec.toNat_or,e1,e2,wr (by omega) (by omega)]
theorem qp4 {x y:Nat}(hx:x<65536)(hy:y<65536):QQ .xor .i64 (x:Int) (y:Int)=some (.int .i64 ((x ^^^ y:Nat):Int)):=by
 have h:=Nat.xor_lt_two_pow (n:=16) (x:=x) (y:=y) (by omega) (by omega);have e1:(BitVec.ofInt IntKind.i64.bits (x:Int)).toNat=x:=by
  show (BitVec.ofInt 64 (x:Int)).toNat=x;rw[BitVec.toNat_ofInt];omega
 have e2:(BitVec.ofInt IntKind.i64.bits (y:Int)).toNat=y:=by
  show (BitVec.ofInt 64 (y:Int)).toNat=y;rw[BitVec.toNat_ofInt];omega
 show some (AV.int .i64 (IntKind.i64.wrap ((BitVec.ofInt IntKind.i64.bits (x:Int) ^^^ BitVec.ofInt IntKind.i64.bits (y:Int)).toNat:Int)))=_;rw[BitVec.toNat_xor,e1,e2,wr (by omega) (by omega)]
end Go.Proofs.YtpgcmnabljandaaGreatDoor
end
