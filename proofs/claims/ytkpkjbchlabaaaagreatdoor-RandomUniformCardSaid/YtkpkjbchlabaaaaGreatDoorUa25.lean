/- A part of the proof. -/
import Derived.Test.YtkpkjbchlabaaaaGreatDoorUa20
set_option linter.unusedVariables false
set_option linter.unusedSimpArgs false
set_option maxRecDepth 100000
set_option linter.defProp false
section
namespace Go.Proofs.YtkpkjbchlabaaaaGreatDoor
open Go Go.Abs
theorem qlU (n:Int):((BitVec.ofInt 64 n &&& 65535#64).toNat:Int)=n % 65536:=by
 rw[BitVec.toNat_and,BitVec.toNat_ofInt];have e:(65535#64).toNat=2 ^ 16-1:=by decide
 rw[e,qq9];omega
theorem wr16 {n:Int}(h0:0<=n)(h1:n<=65535):IntKind.u16.wrap n=n:=by
 simp[IntKind.wrap,IntKind.bits,IntKind.signed];omega
theorem qfS (n:Int):IntKind.u16.wrap n=n % 65536:=by
 simp[IntKind.wrap,IntKind.bits,IntKind.signed]
theorem and_op (n:Int):zj .and .i64 n 65535=some (.int .i64 (qJ n)):=by
 have h1:=qD n;have h2:=qlU n;have h5:n % 65536=qJ n:=rfl;show some (AV.int .i64 (IntKind.i64.wrap ((BitVec.ofInt 64 n &&& 65535#64).toNat:Int)))=_;rw[h2,h5,wr (by omega) (by omega)]
theorem Kg (n:Int):Pure Tryz.prog GG 251 [.int .i64 n] (.int .u16 (qJ n)):=by
 refine Pure.vc qe Tryz.func251 rfl (by kernel_rfl) ?_;have h1:=qD n;have h4:IntKind.u16.wrap (qJ n)=qJ n:=wr16 h1.1 h1.2;simp[-zj,and_op,kW,h4]
theorem Jq (n:Int)(h0:0<=n)(h1:n<=65535):Pure Tryz.prog GG 252 [.int .u16 n] (.int .i64 n):=by
 refine Pure.vc qe Tryz.func252 rfl (by kernel_rfl) ?_;have h3:IntKind.i64.wrap n=n:=wr (by omega) (by omega);simp[kW,h3]
theorem qnd (n:Int):Pure Tryz.prog GG 194 [.int .i64 n] (.int .i64 (qJ n)):=by
 refine Pure.vc qe Tryz.func194 rfl (by kernel_rfl) ?_
 try simp
 refine qb.call (Kg n) rfl ?_
 try simp
 refine qb.call (Jq (qJ n) (qD n).1 (qD n).2) rfl ?_;simp
theorem qgi {f:FuncId}{x:AV}{b r:Int}(hx:q9 x=true)(h0:0<=r)(h1:r<=65535)(h:Pure Tryz.prog GG f [x,.int .u16 (qJ b)] (.int .u16 r)):Pure Tryz.prog GG 253 [.fn f [x] [],.int .i64 b] (.int .i64 r):=by
 refine Pure.vc qe Tryz.func253 rfl (by kernel_rfl) ?_
 try simp
 refine qb.call (Kg b) rfl ?_
 try simp
 refine qb.call h (by simp[hx]) ?_
 try simp
 refine qb.call (Jq r h0 h1) rfl ?_;simp
theorem qmu {f:FuncId}{x:AV}{r:Int}(hx:q9 x=true)(h0:0<=r)(h1:r<=65535)(h:Pure Tryz.prog GG f [x] (.int .u16 r)):Pure Tryz.prog GG 301 [.fn f [x] []] (.int .i64 r):=by
 refine Pure.vc qe Tryz.func301 rfl (by kernel_rfl) ?_
 try simp
 refine qb.call h (by simp[hx]) ?_
 try simp
 refine qb.call (Jq r h0 h1) rfl ?_;simp
theorem qnj (a b:Int):Pure Tryz.prog GG 254 [.int .u16 (qJ a),.int .u16 (qJ b)] (.int .u16 (qJ (a+b))):=by
 refine Pure.vc qe Tryz.func254 rfl (by kernel_rfl) ?_;have h:IntKind.u16.wrap (qJ a+qJ b)=qJ (a+b):=by rw[qfS];unfold qJ;omega
 simp[zj,h]
theorem qna (a b:Int):Pure Tryz.prog GG 305 [.int .u16 (qJ a),.int .u16 (qJ b)] (.int .u16 (qJ (a-b))):=by
 refine Pure.vc qe Tryz.func305 rfl (by kernel_rfl) ?_;have h:IntKind.u16.wrap (qJ a-qJ b)=qJ (a-b):=by rw[qfS];unfold qJ;omega
 simp[zj,h]
theorem qfR (a b:Int):qJ (qJ a*qJ b)=qJ (a*b):=by
 unfold qJ;rw[<- qtd]
theorem qnh (a b:Int):Pure Tryz.prog GG 306 [.int .u16 (qJ a),.int .u16 (qJ b)] (.int .u16 (qJ (a*b))):=by
 refine Pure.vc qe Tryz.func306 rfl (by kernel_rfl) ?_;have h:IntKind.u16.wrap (qJ a*qJ b)=qJ (a*b):=by rw[qfS];exact qfR a b
 simp[zj,h]
theorem qng (a:Int):Pure Tryz.prog GG 303 [.int .u16 (qJ a)] (.int .u16 (qJ (0-a))):=by
 refine Pure.vc qe Tryz.func303 rfl (by kernel_rfl) ?_;have h:IntKind.u16.wrap (0-qJ a)=qJ (0-a):=by rw[qfS];unfold qJ;omega
 simp only[Int.zero_sub]at h ⊢;simp[unA,h]
theorem qjj {n:Int}(h0:0<=n)(h1:n<=65535):(((BitVec.ofInt 16 65535) ^^^ (BitVec.ofInt 16 n)).toNat:Int)=65535-n:=by
 have e:BitVec.ofInt 16 65535=BitVec.allOnes 16:=by decide
 rw[e,BitVec.allOnes_xor,BitVec.toNat_not,BitVec.toNat_ofInt];omega
theorem qni (a:Int):Pure Tryz.prog GG 302 [.int .u16 (qJ a)] (.int .u16 (65535-qJ a)):=by
 refine Pure.vc qe Tryz.func302 rfl (by kernel_rfl) ?_;have hr:=qD a;have h:=qjj hr.1 hr.2;have h2:IntKind.u16.wrap (65535-qJ a)=65535-qJ a:=wr16 (by omega) (by omega);have h3:(if IntKind.u16.signed=true then (-1:Int) else IntKind.u16.max)=65535:=by decide
 have h4:unA .xor (.int .u16 (qJ a))=some (.int .u16 (65535-qJ a)):=by
  unfold unA;simp only[];rw[h3];show some (AV.int .u16 (IntKind.u16.wrap (((BitVec.ofInt 16 65535) ^^^ (BitVec.ofInt 16 (qJ a))).toNat:Int)))=_;rw[h,h2]
 simp[-unA,h4]
theorem qm0 (a b:Int):Pure Tryz.prog GG 195 [.int .i64 a,.int .i64 b] (.int .i64 (qJ (a+b))):=by
 refine Pure.vc qe Tryz.func195 rfl (by kernel_rfl) ?_
 try simp
 refine qb.call (Kg a) rfl ?_
 try simp
 refine qb.call (qgi (by simp) (qD _).1 (qD _).2 (qnj a b)) rfl ?_;simp
theorem sub301 (a b:Int):Pure Tryz.prog GG 259 [.int .i64 a,.int .i64 b] (.int .i64 (qJ (a-b))):=by
 refine Pure.vc qe Tryz.func259 rfl (by kernel_rfl) ?_
 try simp
 refine qb.call (Kg a) rfl ?_
 try simp
 refine qb.call (qgi (by simp) (qD _).1 (qD _).2 (qna a b)) rfl ?_;simp
theorem mul302 (a b:Int):Pure Tryz.prog GG 260 [.int .i64 a,.int .i64 b] (.int .i64 (qJ (a*b))):=by
 refine Pure.vc qe Tryz.func260 rfl (by kernel_rfl) ?_
 try simp
 refine qb.call (Kg a) rfl ?_
 try simp
 refine qb.call (qgi (by simp) (qD _).1 (qD _).2 (qnh a b)) rfl ?_;simp
theorem inv298 (a:Int):Pure Tryz.prog GG 256 [.int .i64 a] (.int .i64 (65535-qJ a)):=by
 refine Pure.vc qe Tryz.func256 rfl (by kernel_rfl) ?_;have hr:=qD a
 try simp
 refine qb.call (Kg a) rfl ?_
 try simp
 refine qb.call (qmu (by simp) (by omega) (by omega) (qni a)) rfl ?_;simp
theorem neg299 (a:Int):Pure Tryz.prog GG 257 [.int .i64 a] (.int .i64 (qJ (0-a))):=by
 refine Pure.vc qe Tryz.func257 rfl (by kernel_rfl) ?_
 try simp
 refine qb.call (Kg a) rfl ?_
 try simp
 refine qb.call (qmu (by simp) (qD _).1 (qD _).2 (qng a)) rfl ?_;simp
def shlW (a b:Int):Int:=if 0<=b/\b<16 then qJ (a*2 ^ b.toNat) else 0
def shrW (a b:Int):Int:=if 0<=b/\b<16 then qJ a / 2 ^ b.toNat else 0
theorem qdf {f:FuncId}{x:AV}{b r:Int}(hx:q9 x=true)(h0:0<=r)(h1:r<=65535)(h:0<=b->b<16->Pure Tryz.prog GG f [x,.int .i64 b] (.int .u16 r)) :
 Pure Tryz.prog GG 307 [.fn f [x] [],.int .i64 b] (.int .i64 (if 0<=b/\b<16 then r else 0)):=by
 refine Pure.vc qe Tryz.func307 rfl (by kernel_rfl) ?_;by_cases c0:b<0
 . rw[if_neg (by omega)];simp[c0]
 . by_cases c1:16<=b
   . rw[if_neg (by omega)];simp[c0,c1]
   . rw[if_pos (by omega)];simp[c0,c1];refine qb.call (h (by omega) (by omega)) (by simp[hx]) ?_
     try simp
     refine qb.call (Jq r h0 h1) rfl ?_;simp
theorem qen (a c:Int):qJ (qJ a*c)=qJ (a*c):=by
 unfold qJ;rw[qtd,Int.emod_emod_of_dvd _ (Int.dvd_refl _),<- qtd]
theorem qnc (a b:Int)(h0:0<=b)(h1:b<16):Pure Tryz.prog GG 308 [.int .u16 (qJ a),.int .i64 b] (.int .u16 (qJ (a*2 ^ b.toNat))):=by
 refine Pure.vc qe Tryz.func308 rfl (by kernel_rfl) ?_;have hm:min b.toNat 16=b.toNat:=by omega
 have h:IntKind.u16.wrap (qJ a*2 ^ b.toNat)=qJ (a*2 ^ b.toNat):=by rw[qfS];exact qen a _
 have h2:¬ b<0:=by omega
 simp[qlJ,IntKind.bits,hm,h,h2]
theorem qnb (a b:Int)(h0:0<=b)(h1:b<16):Pure Tryz.prog GG 309 [.int .u16 (qJ a),.int .i64 b] (.int .u16 (qJ a / 2 ^ b.toNat)):=by
 refine Pure.vc qe Tryz.func309 rfl (by kernel_rfl) ?_;have hm:min b.toNat 16=b.toNat:=by omega
 have hp:(0:Int)<2 ^ b.toNat:=qsW (by omega);have h:(qJ a).fdiv (2 ^ b.toNat)=qJ a / 2 ^ b.toNat:=qrE _ (by omega);have h2:¬ b<0:=by omega
 simp[qlJ,IntKind.bits,hm,h,h2]
theorem shl303 (a b:Int):Pure Tryz.prog GG 261 [.int .i64 a,.int .i64 b] (.int .i64 (shlW a b)):=by
 refine Pure.vc qe Tryz.func261 rfl (by kernel_rfl) ?_
 try simp
 refine qb.call (Kg a) rfl ?_
 try simp
 refine qb.call (qdf (by simp) (qD _).1 (qD _).2 (qnc a b)) rfl ?_;simp[shlW]
theorem shr304 (a b:Int):Pure Tryz.prog GG 262 [.int .i64 a,.int .i64 b] (.int .i64 (shrW a b)):=by
 refine Pure.vc qe Tryz.func262 rfl (by kernel_rfl) ?_;have hr:=V8 b.toNat (qD a).1 (qD a).2
 try simp
 refine qb.call (Kg a) rfl ?_
 try simp
 refine qb.call (qdf (by simp) hr.1 hr.2 (qnb a b)) rfl ?_;simp[shrW]
def tabW:List UInt8:=(List.range 256).map fun i=>UInt8.ofNat (yY i 8)
theorem qc2 {i:Nat}(h:i<256):tabW[i]?=some (UInt8.ofNat (yY i 8)):=by simp[tabW,h]
theorem qdz (a:Nat):∀ i,i<=8->yY (a % 256) i=yY a i
 | 0,_=>rfl
 | i+1,h=>by
  have h1:(a % 256).testBit i=a.testBit i:=by
   rw[show 256=2 ^ 8 by decide,qsj];simp;omega
  simp only[yY,qdz a i (by omega),h1]
theorem qdA (a:Nat):∀ i,yY a (8+i)=yY a 8+yY (a / 256) i
 | 0=>by simp[yY]
 | i+1=>by
  have h1:(a / 256).testBit i=a.testBit (8+i):=by
   rw[show 256=2 ^ 8 by decide,qsR,qrg]
  show yY a (8+i+1)=_;simp only[yY,qdA a i,h1];omega
theorem qks (a:Nat):yY a 16=yY (a / 256) 8+yY (a % 256) 8:=by
 rw[qdz a 8 (qpI _),show 16=8+8 by rfl,qdA];omega
theorem tabL:([0,1,1,2,1,2,2,3,1,2,2,3,2,3,3,4,1,2,2,3,2,3,3,4,2,3,3,4,3,4,4,5,1,2,2,3,2,3,3,4,2,3,3,4,3,4,4,5,2,3,3,4,3,4,4,5,3,4,4,5,4,5,5,6,1,2,2,3,2,3,3,4,2,3,3,4,3,4,4,5,2,3,3,4,3,4,4,5,3,4,4,5,4,5,5,6,2,3,3,4,3,4,4,5,3,4,4,5,4,5,5,6,3,4,4,5,4,5,5,6,4,5,5,6,5,6,6,7,1,2,2,3,2,3,3,4,2,3,3,4,3,4,4,5,2,3,3,4,3,4,4,5,3,4,4,5,4,5,5,6,2,3,3,4,3,4,4,5,3,4,4,5,4,5,5,6,3,4,4,5,4,5,5,6,4,5,5,6,5,6,6,7,2,3,3,4,3,4,4,5,3,4,4,5,4,5,5,6,3,4,4,5,4,5,5,6,4,5,5,6,5,6,6,7,3,4,4,5,4,5,5,6,4,5,5,6,5,6,6,7,4,5,5,6,5,6,6,7,5,6,6,7,6,7,7,8]:List UInt8)=tabW:=by decide +kernel
theorem qn7 (a:Int)(h0:0<=a)(h1:a<=65535):Pure Tryz.prog GG 304 [.int .u16 a] (.int .i64 (yY a.toNat 16)):=by
 refine Pure.vc qe Tryz.func304 rfl (by kernel_rfl) ?_;obtain⟨n,rfl⟩:=qp7 h0;have e1:qlJ (Dof Tryz.prog) .shr 292 (.int .u16 (n:Int)) (.int .u64 8)=some (.int .u16 ((n / 256:Nat):Int)):=by
  have e:(n:Int).fdiv (2 ^ (min 8 IntKind.u16.bits))=((n / 256:Nat):Int):=by
   show (n:Int).fdiv 256=_;rw[qrE _ (by omega)];omega
  show some (AV.int .u16 ((n:Int).fdiv (2 ^ (min 8 IntKind.u16.bits))))=_;rw[e]
 have e2:qlJ (Dof Tryz.prog) .and 292 (.int .u16 (n:Int)) (.int .u16 255)=some (.int .u16 ((n % 256:Nat):Int)):=by
  have e:((BitVec.ofInt 16 (n:Int) &&& 255#16).toNat:Int)=((n % 256:Nat):Int):=by
   rw[BitVec.toNat_and,BitVec.toNat_ofInt];have e:(255#16).toNat=2 ^ 8-1:=(by decide);rw[e,qq9];omega
  show some (AV.int .u16 (IntKind.u16.wrap ((BitVec.ofInt 16 (n:Int) &&& 255#16).toNat:Int)))=_;rw[e,wr16 (by omega) (by omega)]
 have g1:=qc2 (i:=n / 256) (by omega);have g2:=qc2 (i:=n % 256) (by omega);have l1:=Jv (n / 256) 8;have l2:=Jv (n % 256) 8;have e4:=qks n;have p1:(0:Int)<=((n / 256:Nat):Int):=by omega
 have p2:(0:Int)<=((n % 256:Nat):Int):=by omega
 have u:∀ x y:Nat,x<=8->y<=8->IntKind.u8.wrap (((x:Int) % 256)+((y:Int) % 256))=(x:Int)+y/\IntKind.i64.wrap ((x:Int)+y)=x+y:=by
  intro x y hx hy;refine⟨?_,wr (by omega) (by omega)⟩;simp[IntKind.wrap,IntKind.bits,IntKind.signed];omega
 obtain⟨w1,w2⟩:=u _ _ l1 l2;rw[qqi,e4];generalize n / 256=p at *;generalize n % 256=q at *;simp[e1,e2,tabL,g1,g2,-qlJ,-zj];simp[w1,w2,kW]
theorem qn8 (a:Int):Pure Tryz.prog GG 258 [.int .i64 a] (.int .i64 (yY (qJ a).toNat 16)):=by
 refine Pure.vc qe Tryz.func258 rfl (by kernel_rfl) ?_
 try simp
 refine qb.call (Kg a) rfl ?_
 try simp
 refine qb.call (qn7 (qJ a) (qD a).1 (qD a).2) rfl ?_;simp
theorem ZG (a b:Int):(a==b)=decide (a=b):=by
 by_cases h:a=b
 . subst h;simp
 . rw[decide_eq_false h];exact beq_eq_false_iff_ne.2 h
theorem YX (a b:Int):(a != b) = !decide (a=b):=by rw[bne,ZG]
theorem jY (b:Bool):Pure Tryz.prog GG 255 [.bool b] (.int .i64 (b2i b)):=by
 refine Pure.vc qe Tryz.func255 rfl (by kernel_rfl) ?_;cases b<;>simp[b2i]
theorem qpf (a b:Int):b2i (a==b)=b2i (decide (a=b)):=by
 have e:(a==b)=decide (a=b):=by
  by_cases h:a=b
  . subst h;simp
  . rw[decide_eq_false h];exact beq_eq_false_iff_ne.2 h
 rw[e]
theorem qgx (op a:Int):Pure Tryz.prog GG 196 [.int .i64 op,.int .i64 a] (.int .i64 (unW op a)):=by
 refine Pure.vc qe Tryz.func196 rfl (by kernel_rfl) ?_;by_cases h4:op=4
 . subst h4;simp;refine qb.call (jY _) rfl ?_;simp[unW,qpf]
 by_cases h5:op=5
 . subst h5;simp;refine qb.call (inv298 a) rfl ?_;simp[unW]
 by_cases h6:op=6
 . subst h6;simp;refine qb.call (neg299 a) rfl ?_;simp[unW]
 simp[h4,h5,h6];refine qb.call (qn8 a) rfl ?_;simp[unW,h4,h5,h6]
theorem qoj {x y:Nat}(hx:x<65536)(hy:y<65536):zj .and .i64 (x:Int) (y:Int)=some (.int .i64 ((x &&& y:Nat):Int)):=by
 have h:=Nat.and_lt_two_pow (n:=16) x (y:=y) (by omega);have e1:(BitVec.ofInt IntKind.i64.bits (x:Int)).toNat=x:=by
  show (BitVec.ofInt 64 (x:Int)).toNat=x;rw[BitVec.toNat_ofInt];omega
 have e2:(BitVec.ofInt IntKind.i64.bits (y:Int)).toNat=y:=by
  show (BitVec.ofInt 64 (y:Int)).toNat=y;rw[BitVec.toNat_ofInt];omega
 show some (AV.int .i64 (IntKind.i64.wrap ((BitVec.ofInt IntKind.i64.bits (x:Int) &&& BitVec.ofInt IntKind.i64.bits (y:Int)).toNat:Int)))=_;rw[BitVec.toNat_and,e1,e2,wr (by omega) (by omega)]
theorem nat_or {x y:Nat}(hx:x<65536)(hy:y<65536):zj .or .i64 (x:Int) (y:Int)=some (.int .i64 ((x ||| y:Nat):Int)):=by
 have h:=Nat.or_lt_two_pow (n:=16) (x:=x) (y:=y) (by omega) (by omega);have e1:(BitVec.ofInt IntKind.i64.bits (x:Int)).toNat=x:=by
  show (BitVec.ofInt 64 (x:Int)).toNat=x;rw[BitVec.toNat_ofInt];omega
 have e2:(BitVec.ofInt IntKind.i64.bits (y:Int)).toNat=y:=by
  show (BitVec.ofInt 64 (y:Int)).toNat=y;rw[BitVec.toNat_ofInt];omega
 show some (AV.int .i64 (IntKind.i64.wrap ((BitVec.ofInt IntKind.i64.bits (x:Int) ||| BitVec.ofInt IntKind.i64.bits (y:Int)).toNat:Int)))=_;rw[BitVec.toNat_or,e1,e2,wr (by omega) (by omega)]
theorem qoi {x y:Nat}(hx:x<65536)(hy:y<65536):zj .xor .i64 (x:Int) (y:Int)=some (.int .i64 ((x ^^^ y:Nat):Int)):=by
 have h:=Nat.xor_lt_two_pow (n:=16) (x:=x) (y:=y) (by omega) (by omega);have e1:(BitVec.ofInt IntKind.i64.bits (x:Int)).toNat=x:=by
  show (BitVec.ofInt 64 (x:Int)).toNat=x;rw[BitVec.toNat_ofInt];omega
 have e2:(BitVec.ofInt IntKind.i64.bits (y:Int)).toNat=y:=by
  show (BitVec.ofInt 64 (y:Int)).toNat=y;rw[BitVec.toNat_ofInt];omega
 show some (AV.int .i64 (IntKind.i64.wrap ((BitVec.ofInt IntKind.i64.bits (x:Int) ^^^ BitVec.ofInt IntKind.i64.bits (y:Int)).toNat:Int)))=_;rw[BitVec.toNat_xor,e1,e2,wr (by omega) (by omega)]
end Go.Proofs.YtkpkjbchlabaaaaGreatDoor
end
