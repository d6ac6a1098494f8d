/- A part of the proof. -/
import Derived.Test.YtoibbcnfhhggnaaGreatDoorPa11
set_option linter.unusedVariables false
set_option linter.unusedSimpArgs false
set_option maxRecDepth 100000
set_option maxHeartbeats 16000000
set_option linter.defProp false
section
namespace Go.Proofs.YtoibbcnfhhggnaaGreatDoor
open Go Go.Abs
theorem qmP (n:Int):((BitVec.ofInt 64 n &&& 65535#64).toNat:Int)=n % 65536:=by
 rw[BitVec.toNat_and,BitVec.toNat_ofInt];have e:(65535#64).toNat=2 ^ 16-1:=by decide
 rw[e,qsG];omega
theorem wr16 {n:Int}(h0:0<=n)(h1:n<=65535):IntKind.u16.wrap n=n:=by
 simp[IntKind.wrap,IntKind.bits,IntKind.signed];omega
theorem qgI (n:Int):IntKind.u16.wrap n=n % 65536:=by
 simp[IntKind.wrap,IntKind.bits,IntKind.signed]
theorem and_op (n:Int):zL .and .i64 n 65535=some (.int .i64 (qt n)):=by
 have h1:=qs n;have h2:=qmP n;have h5:n % 65536=qt n:=rfl;show some (AV.int .i64 (IntKind.i64.wrap ((BitVec.ofInt 64 n &&& 65535#64).toNat:Int)))=_;rw[h2,h5,wr (by omega) (by omega)]
theorem KD (n:Int):Pure Tryz.prog GG 332 [.int .i64 n] (.int .u16 (qt n)):=by
 refine Pure.vc qe Tryz.func332 rfl (by kernel_rfl) ?_;have h1:=qs n;have h4:IntKind.u16.wrap (qt n)=qt n:=wr16 h1.1 h1.2;simp[-zL,and_op,kj,h4]
theorem JM (n:Int)(h0:0<=n)(h1:n<=65535):Pure Tryz.prog GG 333 [.int .u16 n] (.int .i64 n):=by
 refine Pure.vc qe Tryz.func333 rfl (by kernel_rfl) ?_;have h3:IntKind.i64.wrap n=n:=wr (by omega) (by omega);simp[kj,h3]
theorem qn4 (n:Int):Pure Tryz.prog GG 324 [.int .i64 n] (.int .i64 (qt n)):=by
 refine Pure.vc qe Tryz.func324 rfl (by kernel_rfl) ?_
 try simp
 refine qa.call (KD n) rfl ?_
 try simp
 refine qa.call (JM (qt n) (qs n).1 (qs n).2) rfl ?_;simp
theorem qhb {f:FuncId}{x:AV}{b r:Int}(hx:qF x=true)(h0:0<=r)(h1:r<=65535)(h:Pure Tryz.prog GG f [x,.int .u16 (qt b)] (.int .u16 r)):Pure Tryz.prog GG 334 [.fn f [x] [],.int .i64 b] (.int .i64 r):=by
 refine Pure.vc qe Tryz.func334 rfl (by kernel_rfl) ?_
 try simp
 refine qa.call (KD b) rfl ?_
 try simp
 refine qa.call h (by simp[hx]) ?_
 try simp
 refine qa.call (JM r h0 h1) rfl ?_;simp
theorem qnh {f:FuncId}{x:AV}{r:Int}(hx:qF x=true)(h0:0<=r)(h1:r<=65535)(h:Pure Tryz.prog GG f [x] (.int .u16 r)):Pure Tryz.prog GG 344 [.fn f [x] []] (.int .i64 r):=by
 refine Pure.vc qe Tryz.func344 rfl (by kernel_rfl) ?_
 try simp
 refine qa.call h (by simp[hx]) ?_
 try simp
 refine qa.call (JM r h0 h1) rfl ?_;simp
theorem qoa (a b:Int):Pure Tryz.prog GG 335 [.int .u16 (qt a),.int .u16 (qt b)] (.int .u16 (qt (a+b))):=by
 refine Pure.vc qe Tryz.func335 rfl (by kernel_rfl) ?_;have h:IntKind.u16.wrap (qt a+qt b)=qt (a+b):=by rw[qgI];unfold qt;omega
 simp[zL,h]
theorem qn1 (a b:Int):Pure Tryz.prog GG 348 [.int .u16 (qt a),.int .u16 (qt b)] (.int .u16 (qt (a-b))):=by
 refine Pure.vc qe Tryz.func348 rfl (by kernel_rfl) ?_;have h:IntKind.u16.wrap (qt a-qt b)=qt (a-b):=by rw[qgI];unfold qt;omega
 simp[zL,h]
theorem qac (a b:Int):qt (qt a*qt b)=qt (a*b):=by
 unfold qt;rw[<- qt5]
theorem qn8 (a b:Int):Pure Tryz.prog GG 349 [.int .u16 (qt a),.int .u16 (qt b)] (.int .u16 (qt (a*b))):=by
 refine Pure.vc qe Tryz.func349 rfl (by kernel_rfl) ?_;have h:IntKind.u16.wrap (qt a*qt b)=qt (a*b):=by rw[qgI];exact qac a b
 simp[zL,h]
theorem qn7 (a:Int):Pure Tryz.prog GG 346 [.int .u16 (qt a)] (.int .u16 (qt (0-a))):=by
 refine Pure.vc qe Tryz.func346 rfl (by kernel_rfl) ?_;have h:IntKind.u16.wrap (0-qt a)=qt (0-a):=by rw[qgI];unfold qt;omega
 simp only[Int.zero_sub]at h ⊢;simp[unA,h]
theorem qj6 {n:Int}(h0:0<=n)(h1:n<=65535):(((BitVec.ofInt 16 65535) ^^^ (BitVec.ofInt 16 n)).toNat:Int)=65535-n:=by
 have e:BitVec.ofInt 16 65535=BitVec.allOnes 16:=by decide
 rw[e,BitVec.allOnes_xor,BitVec.toNat_not,BitVec.toNat_ofInt];omega
theorem qn9 (a:Int):Pure Tryz.prog GG 345 [.int .u16 (qt a)] (.int .u16 (65535-qt a)):=by
 refine Pure.vc qe Tryz.func345 rfl (by kernel_rfl) ?_;have hr:=qs a;have h:=qj6 hr.1 hr.2;have h2:IntKind.u16.wrap (65535-qt a)=65535-qt a:=wr16 (by omega) (by omega);have h3:(if IntKind.u16.signed=true then (-1:Int) else IntKind.u16.max)=65535:=by decide
 have h4:unA .xor (.int .u16 (qt a))=some (.int .u16 (65535-qt a)):=by
  unfold unA;simp only[];rw[h3];show some (AV.int .u16 (IntKind.u16.wrap (((BitVec.ofInt 16 65535) ^^^ (BitVec.ofInt 16 (qt a))).toNat:Int)))=_;rw[h,h2]
 simp[-unA,h4]
theorem qnQ (a b:Int):Pure Tryz.prog GG 325 [.int .i64 a,.int .i64 b] (.int .i64 (qt (a+b))):=by
 refine Pure.vc qe Tryz.func325 rfl (by kernel_rfl) ?_
 try simp
 refine qa.call (KD a) rfl ?_
 try simp
 refine qa.call (qhb (by simp) (qs _).1 (qs _).2 (qoa a b)) rfl ?_;simp
theorem sub301 (a b:Int):Pure Tryz.prog GG 340 [.int .i64 a,.int .i64 b] (.int .i64 (qt (a-b))):=by
 refine Pure.vc qe Tryz.func340 rfl (by kernel_rfl) ?_
 try simp
 refine qa.call (KD a) rfl ?_
 try simp
 refine qa.call (qhb (by simp) (qs _).1 (qs _).2 (qn1 a b)) rfl ?_;simp
theorem mul302 (a b:Int):Pure Tryz.prog GG 341 [.int .i64 a,.int .i64 b] (.int .i64 (qt (a*b))):=by
 refine Pure.vc qe Tryz.func341 rfl (by kernel_rfl) ?_
 try simp
 refine qa.call (KD a) rfl ?_
 try simp
 refine qa.call (qhb (by simp) (qs _).1 (qs _).2 (qn8 a b)) rfl ?_;simp
theorem inv298 (a:Int):Pure Tryz.prog GG 337 [.int .i64 a] (.int .i64 (65535-qt a)):=by
 refine Pure.vc qe Tryz.func337 rfl (by kernel_rfl) ?_;have hr:=qs a
 try simp
 refine qa.call (KD a) rfl ?_
 try simp
 refine qa.call (qnh (by simp) (by omega) (by omega) (qn9 a)) rfl ?_;simp
theorem neg299 (a:Int):Pure Tryz.prog GG 338 [.int .i64 a] (.int .i64 (qt (0-a))):=by
 refine Pure.vc qe Tryz.func338 rfl (by kernel_rfl) ?_
 try simp
 refine qa.call (KD a) rfl ?_
 try simp
 refine qa.call (qnh (by simp) (qs _).1 (qs _).2 (qn7 a)) rfl ?_;simp
def shlW (a b:Int):Int:=if 0<=b/\b<16 then qt (a*2 ^ b.toNat) else 0
def qm4 (a b:Int):Int:=if 0<=b/\b<16 then qt a / 2 ^ b.toNat else 0
theorem qdQ {f:FuncId}{x:AV}{b r:Int}(hx:qF x=true)(h0:0<=r)(h1:r<=65535)(h:0<=b->b<16->Pure Tryz.prog GG f [x,.int .i64 b] (.int .u16 r)) :
 Pure Tryz.prog GG 350 [.fn f [x] [],.int .i64 b] (.int .i64 (if 0<=b/\b<16 then r else 0)):=by
 refine Pure.vc qe Tryz.func350 rfl (by kernel_rfl) ?_;by_cases c0:b<0
 . rw[if_neg (by omega)];simp[c0]
 . by_cases c1:16<=b
   . rw[if_neg (by omega)];simp[c0,c1]
   . rw[if_pos (by omega)];simp[c0,c1];refine qa.call (h (by omega) (by omega)) (by simp[hx]) ?_
     try simp
     refine qa.call (JM r h0 h1) rfl ?_;simp
theorem KM (a c:Int):qt (qt a*c)=qt (a*c):=by
 unfold qt;rw[qt5,Int.emod_emod_of_dvd _ (Int.dvd_refl _),<- qt5]
theorem qn3 (a b:Int)(h0:0<=b)(h1:b<16):Pure Tryz.prog GG 351 [.int .u16 (qt a),.int .i64 b] (.int .u16 (qt (a*2 ^ b.toNat))):=by
 refine Pure.vc qe Tryz.func351 rfl (by kernel_rfl) ?_;have hm:min b.toNat 16=b.toNat:=by omega
 have h:IntKind.u16.wrap (qt a*2 ^ b.toNat)=qt (a*2 ^ b.toNat):=by rw[qgI];exact KM a _
 have h2:¬ b<0:=by omega
 simp[qmG,IntKind.bits,hm,h,h2]
theorem qn2 (a b:Int)(h0:0<=b)(h1:b<16):Pure Tryz.prog GG 352 [.int .u16 (qt a),.int .i64 b] (.int .u16 (qt a / 2 ^ b.toNat)):=by
 refine Pure.vc qe Tryz.func352 rfl (by kernel_rfl) ?_;have hm:min b.toNat 16=b.toNat:=by omega
 have hp:(0:Int)<2 ^ b.toNat:=qtN (by omega);have h:(qt a).fdiv (2 ^ b.toNat)=qt a / 2 ^ b.toNat:=qst _ (by omega);have h2:¬ b<0:=by omega
 simp[qmG,IntKind.bits,hm,h,h2]
theorem shl303 (a b:Int):Pure Tryz.prog GG 342 [.int .i64 a,.int .i64 b] (.int .i64 (shlW a b)):=by
 refine Pure.vc qe Tryz.func342 rfl (by kernel_rfl) ?_
 try simp
 refine qa.call (KD a) rfl ?_
 try simp
 refine qa.call (qdQ (by simp) (qs _).1 (qs _).2 (qn3 a b)) rfl ?_;simp[shlW]
theorem shr304 (a b:Int):Pure Tryz.prog GG 343 [.int .i64 a,.int .i64 b] (.int .i64 (qm4 a b)):=by
 refine Pure.vc qe Tryz.func343 rfl (by kernel_rfl) ?_;have hr:=Yk b.toNat (qs a).1 (qs a).2
 try simp
 refine qa.call (KD a) rfl ?_
 try simp
 refine qa.call (qdQ (by simp) hr.1 hr.2 (qn2 a b)) rfl ?_;simp[qm4]
def tabW:List UInt8:=(List.range 256).map fun i=>UInt8.ofNat (yk i 8)
theorem qdD {i:Nat}(h:i<256):tabW[i]?=some (UInt8.ofNat (yk i 8)):=by simp[tabW,h]
theorem qeg (a:Nat):∀ i,i<=8->yk (a % 256) i=yk a i
 | 0,_=>rfl
 | i+1,h=>by
  have h1:(a % 256).testBit i=a.testBit i:=by
   rw[show 256=2 ^ 8 by decide,qs7];simp;omega
  simp only[yk,qeg a i (by omega),h1]
theorem qeh (a:Nat):∀ i,yk a (8+i)=yk a 8+yk (a / 256) i
 | 0=>by simp[yk]
 | i+1=>by
  have h1:(a / 256).testBit i=a.testBit (8+i):=by
   rw[show 256=2 ^ 8 by decide,qtJ,qr4]
  show yk a (8+i+1)=_;simp only[yk,qeh a i,h1];omega
theorem qlo (a:Nat):yk a 16=yk (a / 256) 8+yk (a % 256) 8:=by
 rw[qeg a 8 (qqw _),show 16=8+8 by rfl,qeh];omega
theorem tabL:([0,1,1,2,1,2,2,3,1,2,2,3,2,3,3,4,1,2,2,3,2,3,3,4,2,3,3,4,3,4,4,5,1,2,2,3,2,3,3,4,2,3,3,4,3,4,4,5,2,3,3,4,3,4,4,5,3,4,4,5,4,5,5,6,1,2,2,3,2,3,3,4,2,3,3,4,3,4,4,5,2,3,3,4,3,4,4,5,3,4,4,5,4,5,5,6,2,3,3,4,3,4,4,5,3,4,4,5,4,5,5,6,3,4,4,5,4,5,5,6,4,5,5,6,5,6,6,7,1,2,2,3,2,3,3,4,2,3,3,4,3,4,4,5,2,3,3,4,3,4,4,5,3,4,4,5,4,5,5,6,2,3,3,4,3,4,4,5,3,4,4,5,4,5,5,6,3,4,4,5,4,5,5,6,4,5,5,6,5,6,6,7,2,3,3,4,3,4,4,5,3,4,4,5,4,5,5,6,3,4,4,5,4,5,5,6,4,5,5,6,5,6,6,7,3,4,4,5,4,5,5,6,4,5,5,6,5,6,6,7,4,5,5,6,5,6,6,7,5,6,6,7,6,7,7,8]:List UInt8)=tabW:=by decide +kernel
theorem qo7 (a:Int)(h0:0<=a)(h1:a<=65535):Pure Tryz.prog GG 347 [.int .u16 a] (.int .i64 (yk a.toNat 16)):=by
 refine Pure.vc qe Tryz.func347 rfl (by kernel_rfl) ?_;obtain⟨n,rfl⟩:=qqR h0;have e1:qmG (Dof Tryz.prog) .shr 324 (.int .u16 (n:Int)) (.int .u64 8)=some (.int .u16 ((n / 256:Nat):Int)):=by
  have e:(n:Int).fdiv (2 ^ (min 8 IntKind.u16.bits))=((n / 256:Nat):Int):=by
   show (n:Int).fdiv 256=_;rw[qst _ (by omega)];omega
  show some (AV.int .u16 ((n:Int).fdiv (2 ^ (min 8 IntKind.u16.bits))))=_;rw[e]
 have e2:qmG (Dof Tryz.prog) .and 324 (.int .u16 (n:Int)) (.int .u16 255)=some (.int .u16 ((n % 256:Nat):Int)):=by
  have e:((BitVec.ofInt 16 (n:Int) &&& 255#16).toNat:Int)=((n % 256:Nat):Int):=by
   rw[BitVec.toNat_and,BitVec.toNat_ofInt];have e:(255#16).toNat=2 ^ 8-1:=(by decide);rw[e,qsG];omega
  show some (AV.int .u16 (IntKind.u16.wrap ((BitVec.ofInt 16 (n:Int) &&& 255#16).toNat:Int)))=_;rw[e,wr16 (by omega) (by omega)]
 have g1:=qdD (i:=n / 256) (by omega);have g2:=qdD (i:=n % 256) (by omega);have l1:=Zf (n / 256) 8;have l2:=Zf (n % 256) 8;have e4:=qlo n;have p1:(0:Int)<=((n / 256:Nat):Int):=by omega
 have p2:(0:Int)<=((n % 256:Nat):Int):=by omega
 have u:∀ x y:Nat,x<=8->y<=8->IntKind.u8.wrap (((x:Int) % 256)+((y:Int) % 256))=(x:Int)+y/\IntKind.i64.wrap ((x:Int)+y)=x+y:=by
  intro x y hx hy;refine⟨?_,wr (by omega) (by omega)⟩;simp[IntKind.wrap,IntKind.bits,IntKind.signed];omega
 obtain⟨w1,w2⟩:=u _ _ l1 l2;rw[qrg,e4];generalize n / 256=p at *;generalize n % 256=q at *;simp[e1,e2,tabL,g1,g2,-qmG,-zL];simp[w1,w2,kj]
theorem qo8 (a:Int):Pure Tryz.prog GG 339 [.int .i64 a] (.int .i64 (yk (qt a).toNat 16)):=by
 refine Pure.vc qe Tryz.func339 rfl (by kernel_rfl) ?_
 try simp
 refine qa.call (KD a) rfl ?_
 try simp
 refine qa.call (qo7 (qt a) (qs a).1 (qs a).2) rfl ?_;simp
theorem qfr (n:Int):n.tmod 65536=if 0<=n then n % 65536 else -((-n) % 65536):=by
 split
 . rename_i h;exact qrU h
 . rename_i h;have e:n.tmod 65536 = -((-n).tmod 65536):=(by rw[Int.neg_tmod];omega);rw[e,qrU (by omega)]
theorem qcz {n:Nat}(h:n<=16):(2:Int) ^ n<=65536/\(0:Int)<2 ^ n:=by
 have h1:=qqL (n:=2) (by decide) h;have h2:=Nat.pow_pos (n:=n) (show 0<2 by decide);have e:(2:Int) ^ n=((2 ^ n:Nat):Int):=by simp
 rw[e];omega
theorem jf (n:Int):Pure Tryz.prog GG 189 [.int .i64 n] (.int .i64 (qt n)):=by
 refine Pure.vc qe Tryz.func189 rfl (by kernel_rfl) ?_;have ht:=qfr n;by_cases h:n.tmod 65536<0
 . have hn:¬ 0<=n:=fun hn=>by rw[if_pos hn]at ht;omega
   rw[if_neg hn]at ht;have h1:IntKind.i64.wrap (n.tmod 65536+65535)=n.tmod 65536+65535:=wr (by omega) (by omega);have h2:IntKind.i64.wrap (n.tmod 65536+65535+1)=qt n:=by
    rw[wr (by omega) (by omega)];unfold qt;omega
   simp[h,h1,h2]
   try rw[<- h1,h2]
 . have h2:n.tmod 65536=qt n:=by
    unfold qt;split at ht<;>omega
   simp[zL,h];exact h2
theorem qhD (a b:Int):Pure Tryz.prog GG 144 [.int .i64 a,.int .i64 b] (.int .i64 (qt (a+b))):=by
 refine Pure.vc qe Tryz.func144 rfl (by kernel_rfl) ?_;have ha:=qs a;have hb:=qs b;have h:IntKind.i64.wrap (qt a+qt b)=qt a+qt b:=wr (by omega) (by omega);have h2:qt (qt a+qt b)=qt (a+b):=by unfold qt;omega
 try simp
 refine qa.call (jf a) rfl ?_
 try simp
 refine qa.call (jf b) rfl ?_;simp[h];refine qa.call (jf _) rfl ?_;simp[h2]
theorem qoG (a b:Int):Pure Tryz.prog GG 195 [.int .i64 a,.int .i64 b] (.int .i64 (qt (a-b))):=by
 refine Pure.vc qe Tryz.func195 rfl (by kernel_rfl) ?_;have ha:=qs a;have hb:=qs b;have h:IntKind.i64.wrap (qt a-qt b)=qt a-qt b:=wr (by omega) (by omega);have h2:qt (qt a-qt b)=qt (a-b):=by unfold qt;omega
 try simp
 refine qa.call (jf a) rfl ?_
 try simp
 refine qa.call (jf b) rfl ?_;simp[h];refine qa.call (jf _) rfl ?_;simp[h2]
theorem qa4 {a b c d:Int}(ha0:0<=a)(ha1:a<=c)(hb0:0<=b)(hb1:b<=d):0<=a*b/\a*b<=c*d :=
 ⟨Int.mul_nonneg ha0 hb0,Int.mul_le_mul ha1 hb1 hb0 (by omega)⟩
theorem qoK (a b:Int):Pure Tryz.prog GG 196 [.int .i64 a,.int .i64 b] (.int .i64 (qt (a*b))):=by
 refine Pure.vc qe Tryz.func196 rfl (by kernel_rfl) ?_;have ha:=qs a;have hb:=qs b;have hm:=qa4 ha.1 ha.2 hb.1 hb.2;have h:IntKind.i64.wrap (qt a*qt b)=qt a*qt b:=wr (by omega) (by omega);have h2:=qac a b
 try simp
 refine qa.call (jf a) rfl ?_
 try simp
 refine qa.call (jf b) rfl ?_;simp[h];refine qa.call (jf _) rfl ?_;simp[h2]
theorem qoL (a:Int):Pure Tryz.prog GG 192 [.int .i64 a] (.int .i64 (65535-qt a)):=by
 refine Pure.vc qe Tryz.func192 rfl (by kernel_rfl) ?_;have ha:=qs a;have h:IntKind.i64.wrap (65535-qt a)=65535-qt a:=wr (by omega) (by omega)
 try simp
 refine qa.call (jf a) rfl ?_;simp[h]
theorem qoI (a:Int):Pure Tryz.prog GG 193 [.int .i64 a] (.int .i64 (qt (0-a))):=by
 refine Pure.vc qe Tryz.func193 rfl (by kernel_rfl) ?_;have ha:=qs a;have h:IntKind.i64.wrap (-qt a) = -qt a:=wr (by omega) (by omega);have h2:qt (-qt a)=qt (-a):=by unfold qt;omega
 try simp
 refine qa.call (jf a) rfl ?_;simp[h];refine qa.call (jf _) rfl ?_;simp[h2]
theorem qaI (n:Nat)(hn:n<=16):Pure Tryz.prog GG 261 [.int .i64 n] (.int .i64 (2 ^ n)):=by
 refine Pure.vc qe Tryz.func261 rfl (by kernel_rfl) ?_;simp;refine qE.intro (fun q env U=>∃ i:Nat,i<=n/\q=n-i/\env 0=.int .i64 n/\env 3=.int .i64 (2 ^ i)/\env 4=.int .i64 i/\U=⟨[],[]⟩) n ⟨0,by simp⟩ ?_;rintro q env U ⟨i,hi,rfl,h0,h3,h4,rfl⟩;by_cases hc:i<n
 . have hc':(i:Int)<n:=(by omega);obtain⟨hp,hp0⟩:=qcz (n:=i) (by omega);have hw:IntKind.i64.wrap (2*2 ^ i)=2 ^ (i+1):=(by rw[wr (by omega) (by omega),Int.pow_succ];omega);simp[h0,h3,h4,hc];exact⟨_,by omega,i+1,by omega,rfl,hw,wr (by omega) (by omega)⟩
 . have hi':i=n:=(by omega);subst hi';simp[h0,h3,h4]
theorem qoH (a b:Int):Pure Tryz.prog GG 200 [.int .i64 a,.int .i64 b] (.int .i64 (shlW a b)):=by
 refine Pure.vc qe Tryz.func200 rfl (by kernel_rfl) ?_;unfold shlW;by_cases c0:b<0
 . rw[if_neg (by omega)];simp[c0]
 . by_cases c1:15<b
   . rw[if_neg (by omega)];simp[c0,c1]
   . rw[if_pos (by omega)];obtain⟨n,rfl⟩:=qqR (show 0<=b by omega);have ha:=qs a;obtain⟨hp,hp0⟩:=qcz (n:=n) (by omega);have hn0:¬ (n:Int)<0:=(by omega);have hm:=qa4 ha.1 ha.2 (qt0 hp0) hp;have h:IntKind.i64.wrap (qt a*2 ^ n)=qt a*2 ^ n:=wr (by omega) (by omega);have h2:=KM a (2 ^ n);simp[c1,hn0];refine qa.call (jf a) rfl ?_
     try simp
     refine qa.call (qaI n (by omega)) rfl ?_;simp[h];refine qa.call (jf _) rfl ?_;simp[h2]
theorem qhv (a b:Int):Pure Tryz.prog GG 201 [.int .i64 a,.int .i64 b] (.int .i64 (qm4 a b)):=by
 refine Pure.vc qe Tryz.func201 rfl (by kernel_rfl) ?_;unfold qm4;by_cases c0:b<0
 . rw[if_neg (by omega)];simp[c0]
 . by_cases c1:15<b
   . rw[if_neg (by omega)];simp[c0,c1]
   . rw[if_pos (by omega)];obtain⟨n,rfl⟩:=qqR (show 0<=b by omega);have ha:=qs a;obtain⟨hp,hp0⟩:=qcz (n:=n) (by omega);have hn0:¬ (n:Int)<0:=(by omega);have hr:=Yk n ha.1 ha.2;have h:(qt a).tdiv (2 ^ n)=qt a / 2 ^ n:=qsv ha.1;have h1:IntKind.i64.wrap (qt a / 2 ^ n)=qt a / 2 ^ n:=wr (by omega) (by omega);have h2:¬ ((2:Int) ^ n=0):=(by omega);simp[c1,hn0];refine qa.call (jf a) rfl ?_
     try simp
     refine qa.call (qaI n (by omega)) rfl ?_;simp[h,h1,h2]
theorem qnN (a n:Nat):(a / 2 ^ n) % 2=if a.testBit n=true then 1 else 0:=by
 rw[qta];have:=qtt (a / 2 ^ n);rcases this with h|h<;>simp[h]
theorem qhz (a:Int)(n:Nat)(hn:n<16):Pure Tryz.prog GG 259 [.int .i64 a,.int .i64 n] (.int .i64 (if (qt a).toNat.testBit n=true then 1 else 0)):=by
 refine Pure.vc qe Tryz.func259 rfl (by kernel_rfl) ?_
 try simp
 refine qa.call (qhv a n) rfl ?_;have ha:=qs a;have hs:qm4 a n=qt a / 2 ^ n:=by unfold qm4;rw[if_pos (by omega)];simp
 have he:(qt a / 2 ^ n).tmod 2=(if (qt a).toNat.testBit n=true then 1 else 0):=by
  obtain⟨m,hm⟩:=qqR ha.1;rw[hm];have hb:=qnN m n;have e:((m:Int) / 2 ^ n)=((m / 2 ^ n:Nat):Int):=by simp
  have e3:∀ q:Nat,(q:Int).tmod 2=((q % 2:Nat):Int):=fun q=>by
   rw[qrU (by omega)];omega
  rw[e,e3,qrg,hb];split<;>rfl
 rw[hs];simp[he]
theorem qkM (a:Int):Pure Tryz.prog GG 194 [.int .i64 a] (.int .i64 (yk (qt a).toNat 16)):=by
 refine Pure.vc qe Tryz.func194 rfl (by kernel_rfl) ?_;simp;refine qE.intro (fun q env U=>∃ i:Nat,i<=16/\q=16-i/\env 0=.int .i64 a/\env 3=.int .i64 (yk (qt a).toNat i)/\env 4=.int .i64 i/\U=⟨[],[]⟩) 16 ⟨0,by simp[yk]⟩ ?_;rintro q env U ⟨i,hi,rfl,h0,h3,h4,rfl⟩;by_cases hc:i<16
 . have hc':(i:Int)<16:=(by omega);have hle:=Zf (qt a).toNat i;simp[h0,h3,h4,hc'];refine qa.call (qhz a i hc) rfl ?_;have hw:IntKind.i64.wrap ((yk (qt a).toNat i:Int)+(if (qt a).toNat.testBit i=true then 1 else 0))=(yk (qt a).toNat (i+1):Int):=by
    rw[wr (by split<;>omega) (by split<;>omega)];simp only[yk];split<;>simp
   simp[hw];exact⟨_,by omega,i+1,by omega,rfl,rfl,wr (by omega) (by omega)⟩
 . have hi':i=16:=(by omega);subst hi';simp[h0,h3,h4]
theorem km (a b:Int):(a==b)=decide (a=b):=by
 by_cases h:a=b
 . subst h;simp
 . rw[decide_eq_false h];exact beq_eq_false_iff_ne.2 h
theorem kW (a b:Int):(a != b) = !decide (a=b):=by rw[bne,km]
theorem yf (b:Bool):Pure Tryz.prog GG 336 [.bool b] (.int .i64 (b2i b)):=by
 refine Pure.vc qe Tryz.func336 rfl (by kernel_rfl) ?_;cases b<;>simp[b2i]
theorem jL (b:Bool):Pure Tryz.prog GG 191 [.bool b] (.int .i64 (b2i b)):=by
 refine Pure.vc qe Tryz.func191 rfl (by kernel_rfl) ?_;cases b<;>simp[b2i]
theorem qjw (a b:Int):b2i (a==b)=b2i (decide (a=b)):=by
 have e:(a==b)=decide (a=b):=by
  by_cases h:a=b
  . subst h;simp
  . rw[decide_eq_false h];exact beq_eq_false_iff_ne.2 h
 rw[e]
theorem qhm (op a:Int):Pure Tryz.prog GG 326 [.int .i64 op,.int .i64 a] (.int .i64 (unW op a)):=by
 refine Pure.vc qe Tryz.func326 rfl (by kernel_rfl) ?_;by_cases h4:op=4
 . subst h4;simp;refine qa.call (yf _) rfl ?_;simp[unW,qjw]
 by_cases h5:op=5
 . subst h5;simp;refine qa.call (inv298 a) rfl ?_;simp[unW]
 by_cases h6:op=6
 . subst h6;simp;refine qa.call (neg299 a) rfl ?_;simp[unW]
 simp[h4,h5,h6];refine qa.call (qo8 a) rfl ?_;simp[unW,h4,h5,h6]
theorem qht (op a:Int):Pure Tryz.prog GG 145 [.int .i64 op,.int .i64 a] (.int .i64 (unW op a)):=by
 refine Pure.vc qe Tryz.func145 rfl (by kernel_rfl) ?_;by_cases h4:op=4
 . subst h4;simp;refine qa.call (jL _) rfl ?_;simp[unW,qjw]
 by_cases h5:op=5
 . subst h5;simp;refine qa.call (qoL a) rfl ?_;simp[unW]
 by_cases h6:op=6
 . subst h6;simp;refine qa.call (qoI a) rfl ?_;simp[unW]
 simp[h4,h5,h6];refine qa.call (qkM a) rfl ?_;simp[unW,h4,h5,h6]
theorem qh6 {x y:Nat}(hx:x<65536)(hy:y<65536):zL .and .i64 (x:Int) (y:Int)=some (.int .i64 ((x &&& y:Nat):Int)):=by
 have h:=qto (n:=16) x (y:=y) (by omega);have e1:(BitVec.ofInt IntKind.i64.bits (x:Int)).toNat=x:=by
  show (BitVec.ofInt 64 (x:Int)).toNat=x;rw[BitVec.toNat_ofInt];omega
 have e2:(BitVec.ofInt IntKind.i64.bits (y:Int)).toNat=y:=by
  show (BitVec.ofInt 64 (y:Int)).toNat=y;rw[BitVec.toNat_ofInt];omega
 show some (AV.int .i64 (IntKind.i64.wrap ((BitVec.ofInt IntKind.i64.bits (x:Int) &&& BitVec.ofInt IntKind.i64.bits (y:Int)).toNat:Int)))=_;rw[BitVec.toNat_and,e1,e2,wr (by omega) (by omega)]
theorem qnm {x y:Nat}(hx:x<65536)(hy:y<65536):zL .or .i64 (x:Int) (y:Int)=some (.int .i64 ((x ||| y:Nat):Int)):=by
 have h:=qtu (n:=16) (x:=x) (y:=y) (by omega) (by omega);have e1:(BitVec.ofInt IntKind.i64.bits (x:Int)).toNat=x:=by
  show (BitVec.ofInt 64 (x:Int)).toNat=x;rw[BitVec.toNat_ofInt];omega
 have e2:(BitVec.ofInt IntKind.i64.bits (y:Int)).toNat=y:=by
  show (BitVec.ofInt 64 (y:Int)).toNat=y;rw[BitVec.toNat_ofInt];omega
 show some (AV.int .i64 (IntKind.i64.wrap ((BitVec.ofInt IntKind.i64.bits (x:Int) ||| BitVec.ofInt IntKind.i64.bits (y:Int)).toNat:Int)))=_;rw[BitVec.toNat_or,e1,e2,wr (by omega) (by omega)]
theorem qh5 {x y:Nat}(hx:x<65536)(hy:y<65536):zL .xor .i64 (x:Int) (y:Int)=some (.int .i64 ((x ^^^ y:Nat):Int)):=by
 have h:=qtp (n:=16) (x:=x) (y:=y) (by omega) (by omega);have e1:(BitVec.ofInt IntKind.i64.bits (x:Int)).toNat=x:=by
  show (BitVec.ofInt 64 (x:Int)).toNat=x;rw[BitVec.toNat_ofInt];omega
 have e2:(BitVec.ofInt IntKind.i64.bits (y:Int)).toNat=y:=by
  show (BitVec.ofInt 64 (y:Int)).toNat=y;rw[BitVec.toNat_ofInt];omega
 show some (AV.int .i64 (IntKind.i64.wrap ((BitVec.ofInt IntKind.i64.bits (x:Int) ^^^ BitVec.ofInt IntKind.i64.bits (y:Int)).toNat:Int)))=_;rw[BitVec.toNat_xor,e1,e2,wr (by omega) (by omega)]
def WH (x i:Nat):Int:=if x.testBit i=true then 1 else 0
theorem WG (x i:Nat):0<=WH x i/\WH x i<=1:=by unfold WH;split<;>omega
theorem qdX (x i:Nat)(hx:x<65536)(hi:i<16):Pure Tryz.prog GG 259 [.int .i64 x,.int .i64 i] (.int .i64 (WH x i)):=by
 have h:=qhz (x:Int) i hi;rw[Qb (by omega) (by omega)]at h;simpa[WH] using h
theorem W8 (x y:Nat)(lo hi:Int)(X:Nat)(hx:x<65536)(hy:y<65536)(hX:X<65536)(h:∀ i,i<16->X.testBit i=decide (lo<=WH x i+WH y i/\WH x i+WH y i<=hi)) :
 Pure Tryz.prog GG 260 [.int .i64 x,.int .i64 y,.int .i64 lo,.int .i64 hi] (.int .i64 X):=by
 refine Pure.vc qe Tryz.func260 rfl (by kernel_rfl) ?_;simp;refine qE.intro (fun q env U=>q<=16/\env 0=.int .i64 x/\env 1=.int .i64 y/\env 2=.int .i64 lo/\env 3=.int .i64 hi/\env 9=.int .i64 ((X / 2 ^ q:Nat):Int)/\env 10=.int .i64 ((q:Int)-1)/\U=⟨[],[]⟩) 16 ⟨by simp,by simp,by simp,by simp,by simp,by simp;omega,by simp,rfl⟩ ?_;rintro q env U ⟨hq,h0,h1,h2,h3,h9,h10,rfl⟩
 cases q with
 | zero=>
  simp at h9 h10;simp[h0,h1,h2,h3,h9,h10]
 | succ i=>
  have hi':i<16:=by omega
  have e10:((i+1:Nat):Int)-1=i:=by omega
  rw[e10]at h10;have hbx:=WG x i;have hby:=WG y i;have hw:IntKind.i64.wrap (WH x i+WH y i)=WH x i+WH y i:=wr (by omega) (by omega);have hXb:=h i hi';have hd:X / 2 ^ i=2*(X / 2 ^ (i+1))+(if X.testBit i=true then 1 else 0):=by
   rw[<- qnN,qtc,<- Nat.div_div_eq_div_mul];omega
  have hle:X / 2 ^ i<=X:=qsV _ _;have hw2:IntKind.i64.wrap (2*((X / 2 ^ (i+1):Nat):Int))=((2*(X / 2 ^ (i+1)):Nat):Int):=by
   rw[wr (by omega) (by omega)];omega
  have hwi:IntKind.i64.wrap ((i:Int)-1)=(i:Int)-1:=wr (by omega) (by omega);generalize X / 2 ^ (i+1)=A at h9 hd hw2;generalize hB:X / 2 ^ i=B at hd hle;have hXB:(X:Int) / 2 ^ i=(B:Int):=by rw[<- hB];simp
  have hp:(0:Int)<=i:=by omega
  simp[h0,h1,h2,h3,h9,h10];refine qa.call (qdX x i hx hi') rfl ?_
  try simp[h0,h1,h2,h3,h9,h10]
  refine qa.call (qdX y i hy hi') rfl ?_;by_cases c1:lo<=WH x i+WH y i
  . by_cases c2:WH x i+WH y i<=hi
    . rw[decide_eq_true (⟨c1,c2⟩:_/\_)]at hXb;rw[hXb]at hd;simp at hd;have hw3:IntKind.i64.wrap (((2*A:Nat):Int)+1)=(B:Int):=(by rw[wr (by omega) (by omega)];omega);simp[h0,h1,h2,h3,h9,h10,hw,hw2,c1,c2,hw3,hwi];exact⟨i,by omega,by omega,by rw[hXB,wr (by omega) (by omega)];omega,rfl⟩
    . rw[decide_eq_false (fun h=>c2 h.2)]at hXb;rw[hXb]at hd;simp at hd;simp[h0,h1,h2,h3,h9,h10,hw,hw2,c1,c2,hwi];exact⟨i,by omega,by omega,by rw[hXB];omega,rfl⟩
  . rw[decide_eq_false (fun h=>c1 h.1)]at hXb;rw[hXb]at hd;simp at hd;simp[h0,h1,h2,h3,h9,h10,hw,hw2,c1,hwi];exact⟨i,by omega,by omega,by rw[hXB];omega,rfl⟩
theorem qoP (x y:Nat)(hx:x<65536)(hy:y<65536):Pure Tryz.prog GG 197 [.int .i64 x,.int .i64 y] (.int .i64 ((x &&& y:Nat):Int)):=by
 refine Pure.vc qe Tryz.func197 rfl (by kernel_rfl) ?_;simp;refine qa.call (W8 x y 2 2 (x &&& y) hx hy (qto (n:=16) x hy) fun i hi=>?_) rfl ?_
 . rw[Nat.testBit_and];unfold WH;cases x.testBit i<;>cases y.testBit i<;>rfl
 . simp
theorem ror342 (x y:Nat)(hx:x<65536)(hy:y<65536):Pure Tryz.prog GG 198 [.int .i64 x,.int .i64 y] (.int .i64 ((x ||| y:Nat):Int)):=by
 refine Pure.vc qe Tryz.func198 rfl (by kernel_rfl) ?_;simp;refine qa.call (W8 x y 1 2 (x ||| y) hx hy (qtu (n:=16) hx hy) fun i hi=>?_) rfl ?_
 . rw[Nat.testBit_or];unfold WH;cases x.testBit i<;>cases y.testBit i<;>rfl
 . simp
theorem qoF (x y:Nat)(hx:x<65536)(hy:y<65536):Pure Tryz.prog GG 199 [.int .i64 x,.int .i64 y] (.int .i64 ((x ^^^ y:Nat):Int)):=by
 refine Pure.vc qe Tryz.func199 rfl (by kernel_rfl) ?_;simp;refine qa.call (W8 x y 1 1 (x ^^^ y) hx hy (qtp (n:=16) hx hy) fun i hi=>?_) rfl ?_
 . rw[Nat.testBit_xor];unfold WH;cases x.testBit i<;>cases y.testBit i<;>rfl
 . simp
def Qz (env:List Signal)(name:Str):AV:=.tup [.int .i64 ((jn env name).getD 0),.bool (jn env name).isSome]
theorem qeL {env:List Signal}{name:Str}{i:Nat}{s:Signal}(h:env[i]?=some s)(hz:∀ x∈env.take i,x.name≠name)(hs:s.name=name):jn env name=some (qt s.value):=by
 have e:env=env.take i++s::env.drop (i+1):=by
  rw[<- zz h,qre]
 unfold jn;have hn:(env.take i).find? (fun s=>s.name==name)=none:=by
  rw[qs5];intro x hx;simpa using hz x hx
 rw[e,List.find?_append,hn];simp[hs]
theorem WA {env:List Signal}{name:Str}(h:∀ x∈env,x.name≠name):jn env name=none:=by
 unfold jn;have hn:env.find? (fun s=>s.name==name)=none:=by
  rw[qs5];intro x hx;simpa using h x hx
 rw[hn];rfl
theorem qcV (env:List Signal)(name:Str)(hl:Fits env):Pure Tryz.prog GG 307 [.agg [.sl 2 (env.map qJ) .none],.str name] (Qz env name):=by
 refine Pure.vc qe Tryz.func307 rfl (by kernel_rfl) ?_;simp;refine qE.intro (fun n e U=>∃ i tl,i<=env.length/\n=env.length-i/\e 1=.str name/\e 9=.sl 2 (env.map qJ) .none/\e 10=.int .i64 env.length/\e 11=.int .i64 i/\U=⟨tl,[]⟩/\∀ x∈env.take i,x.name≠name) env.length ⟨0,_,by simp,by simp,by simp,by simp,by simp,by simp,rfl,by simp⟩ ?_;rintro n e U ⟨i,tl,hi,rfl,h1,h9,h10,h11,rfl,hz⟩
 cases hv:env[i]? with
 | some s=>
  obtain⟨hc,hv'⟩:=qql.1 hv;by_cases hs:s.name=name
  . have x:=qeL hv hz hs;simp[h1,h9,h10,h11,hc,hv',hs,qqH];refine qa.call (qn4 s.value) rfl ?_;simp[Qz,x]
  . simp[h1,h9,h10,h11,hc,hv',hs,qqH];exact⟨_,by omega,i+1,by omega,rfl,wr (by omega) (by omega),qZ hv hz hs⟩
 | none=>
  have hc:¬ i<env.length:=by simp at hv;omega
  have ht:env.take i=env:=qqu (by omega);rw[ht]at hz;have x:=WA hz;simp[h1,h9,h10,h11,hc,Qz,x]
theorem W7 (env:List Signal)(name:Str)(hl:Fits env):Pure Tryz.prog GG 141 [.sl 2 (env.map qJ) .none,.str name] (Qz env name):=by
 refine Pure.vc qe Tryz.func141 rfl (by kernel_rfl) ?_;simp;refine qE.intro (fun n e U=>∃ i,i<=env.length/\n=env.length-i/\e 0=.sl 2 (env.map qJ) .none/\e 1=.str name/\e 6=.int .i64 i/\U=⟨[],[]⟩/\∀ x∈env.take i,x.name≠name) env.length ⟨0,by simp,by simp,by simp,by simp,by simp,rfl,by simp⟩ ?_;rintro n e U ⟨i,hi,rfl,h0,h1,h6,rfl,hz⟩
 cases hv:env[i]? with
 | some s=>
  obtain⟨hc,hv'⟩:=qql.1 hv;by_cases hs:s.name=name
  . have x:=qeL hv hz hs;simp[h0,h1,h6,hc,hv',hs];refine qa.call (jf s.value) rfl ?_;simp[Qz,x]
  . simp[h0,h1,h6,hc,hv',hs];exact⟨_,by omega,i+1,by omega,rfl,wr (by omega) (by omega),qZ hv hz hs⟩
 | none=>
  have hc:¬ i<env.length:=by simp at hv;omega
  have ht:env.take i=env:=qqu (by omega);rw[ht]at hz;have x:=WA hz;simp[h0,h1,h6,hc,Qz,x]
def atR (env:List Signal)(a:Str)(i:Int):AV:=if 0<=i/\i<8 then Qz env (zN a i.toNat) else .tup [.int .i64 0,.bool false]
theorem qp9 (env:List Signal)(a:Str)(i:Int)(hl:Fits env)(ha:a.length<=1000):Pure Tryz.prog GG 308 [.agg [.sl 2 (env.map qJ) .none],.str a,.int .i64 i] (atR env a i):=by
 refine Pure.vc qe Tryz.func308 rfl (by kernel_rfl) ?_;unfold atR;by_cases c0:i<0
 . rw[if_neg (by omega)];simp[c0]
 by_cases c1:8<=i
 . rw[if_neg (by omega)];simp[c0,c1]
 rw[if_pos (by omega)];obtain⟨n,rfl⟩:=qqR (show 0<=i by omega);have hn:n<8:=by omega
 have h1:a.length+1<=4611686018427387904:=by omega
 have h2:a.length+(1+1)<=4611686018427387904:=by omega
 have h3:a.length+(1+(1+1))<=4611686018427387904:=by omega
 have h4:a.length+1+1<=4611686018427387904:=by omega
 have h5:a.length+1+1+1<=4611686018427387904:=by omega
 have w1:IntKind.i64.wrap (48+(n:Int))=((48+n:Nat):Int):=by rw[wr (by omega) (by omega)];omega
 have w2:IntKind.u8.wrap ((48+n:Nat):Int)=((48+n:Nat):Int):=by simp[IntKind.wrap,IntKind.bits,IntKind.signed];omega
 have he:a++[91,UInt8.ofNat (48+n),93]=zN a n:=rfl;have hf:=qcV env (zN a n) hl;have w3:IntKind.u8.wrap (48+(n:Int))=((48+n:Nat):Int):=by rw[<- w2];congr 1
 have w4:UInt8.ofNat (((48+n:Nat):Int)).toNat=UInt8.ofNat (48+n):=by rw[qrg]
 have w5:UInt8.ofNat (IntKind.u8.wrap (48+(n:Int))).toNat=UInt8.ofNat (48+n):=by rw[w3,w4]
 simp[c0,c1,h1,h2,h3,h4,h5,w1,kj,qh,qw,bytesOf];rw[w5,he];refine qa.call hf (by simp) ?_;simp[Qz]
theorem qde {env:List Signal}{a:Str}{i:Int}:∃ b,atR env a i=.tup [.int .i64 (atV env a i),.bool b]/\(i=0->b=(jn env (zN a 0)).isSome):=by
 unfold atR atV;by_cases h:0<=i/\i<8
 . rw[if_pos h,if_pos h];exact⟨_,rfl,fun e=>by subst e;rfl⟩
 . rw[if_neg h,if_neg h];exact⟨false,rfl,fun e=>absurd (by omega) h⟩
theorem sum166 (env:List Signal)(a:Str)(hl:Fits env)(ha:a.length<=1000):Pure Tryz.prog GG 309 [.agg [.sl 2 (env.map qJ) .none],.str a] (.int .i64 (qjZ env a 8)):=by
 refine Pure.vc qe Tryz.func309 rfl (by kernel_rfl) ?_;simp;refine qE.intro (fun n e U=>∃ i:Nat,i<=8/\n=8-i/\e 1=.str a/\e 2=.ptr 0 0/\e 5=.int .i64 (qjZ env a i)/\e 9=.int .i64 i/\U=⟨[.cells [.sl 2 (env.map qJ) .none]],[]⟩) 8 ⟨0,by simp[qjZ]⟩ ?_;rintro n e U ⟨i,hi,rfl,h1,h2,h5,h9,rfl⟩;by_cases hc:i<8
 . have hc':(i:Int)<8:=(by omega);obtain⟨b,hb,_⟩:=qde (env:=env) (a:=a) (i:=i);have hat:=qp9 env a i hl ha;rw[hb]at hat;simp[h1,h2,h5,h9,hc'];refine qa.call hat (by simp) ?_;simp[h1,h2,h5,h9];refine qa.call (qnQ _ _) rfl ?_;simp[h1,h2,h5,h9];exact⟨_,by omega,i+1,by omega,rfl,rfl,wr (by omega) (by omega)⟩
 . have hi':i=8:=(by omega);subst hi';simp[h1,h2,h5,h9]
theorem qhx:∀ (i:Nat),i<8->Pure Tryz.prog GG 190 [.int .i64 i] (.str [UInt8.ofNat (48+i)]):=by
 intro i hi;refine Pure.vc qe Tryz.func190 rfl (by kernel_rfl) ?_;have u1:IntKind.i64.wrap 1=1:=wr (by omega) (by omega);have u2:IntKind.i64.wrap 2=2:=wr (by omega) (by omega);have u3:IntKind.i64.wrap 3=3:=wr (by omega) (by omega);have u4:IntKind.i64.wrap 4=4:=wr (by omega) (by omega);have u5:IntKind.i64.wrap 5=5:=wr (by omega) (by omega);have u6:IntKind.i64.wrap 6=6:=wr (by omega) (by omega);have u7:IntKind.i64.wrap 7=7:=wr (by omega) (by omega);have u8:IntKind.i64.wrap 8=8:=wr (by omega) (by omega);have key:i=0\/i=1\/i=2\/i=3\/i=4\/i=5\/i=6\/i=7:=by omega
 rcases key with rfl|rfl|rfl|rfl|rfl|rfl|rfl|rfl<;>simp[zt,zS,u1,u2,u3,u4,u5,u6,u7,u8]
theorem qdW (a:Str)(i:Nat)(hi:i<8)(ha:a.length<=1000):Pure Tryz.prog GG 142 [.str a,.int .i64 i] (.str (zN a i)):=by
 refine Pure.vc qe Tryz.func142 rfl (by kernel_rfl) ?_;have h1:a.length+1<=4611686018427387904:=by omega
 have h2:a.length+(1+1)<=4611686018427387904:=by omega
 have h3:a.length+(1+(1+1))<=4611686018427387904:=by omega
 have h4:a.length+1+1<=4611686018427387904:=by omega
 have h5:a.length+1+1+1<=4611686018427387904:=by omega
 simp[h1];refine qa.call (qhx i hi) rfl ?_;simp[h2,h3,h4,h5,zN]
theorem Yu (env:List Signal)(a:Str)(i:Int)(hl:Fits env)(ha:a.length<=1000):Pure Tryz.prog GG 143 [.sl 2 (env.map qJ) .none,.str a,.int .i64 i] (.int .i64 (atV env a i)):=by
 refine Pure.vc qe Tryz.func143 rfl (by kernel_rfl) ?_;unfold atV;by_cases c0:i<0
 . rw[if_neg (by omega)];simp[c0]
 by_cases c1:8<=i
 . rw[if_neg (by omega)];simp[c0,c1]
 rw[if_pos (by omega)];obtain⟨n,rfl⟩:=qqR (show 0<=i by omega);simp[c0,c1];refine qa.call (qdW a n (by omega) ha) rfl ?_
 try simp
 refine qa.call (W7 env (zN a n) hl) (by simp) ?_;simp[Qz]
theorem YW (k:IntKind)(a b:Int):zL .eql k a b=some (.bool (a==b)):=rfl
theorem qi3 (op:Int)(x y:Nat)(hx:x<65536)(hy:y<65536):Pure Tryz.prog GG 327 [.int .i64 op,.int .i64 x,.int .i64 y] (.int .i64 (jI op x y)):=by
 refine Pure.vc qe Tryz.func327 rfl (by kernel_rfl) ?_;have n1:=qh6 hx hy;have n2:=qnm hx hy;have n3:=qh5 hx hy;by_cases h7:op=7
 . subst h7;simp;refine qa.call (qnQ x y) rfl ?_;simp[jI]
 by_cases h8:op=8
 . subst h8;simp;refine qa.call (sub301 x y) rfl ?_;simp[jI]
 by_cases h9:op=9
 . subst h9;simp;refine qa.call (mul302 x y) rfl ?_;simp[jI]
 by_cases h10:op=10
 . subst h10;have hb:jI 10 x y=((x &&& y:Nat):Int):=(by simp[jI]);rw[hb];simp[n1,YW,-zL]
 by_cases h11:op=11
 . subst h11;have hb:jI 11 x y=((x ||| y:Nat):Int):=(by simp[jI]);rw[hb];simp[n2,YW,-zL]
 by_cases h12:op=12
 . subst h12;have hb:jI 12 x y=((x ^^^ y:Nat):Int):=(by simp[jI]);rw[hb];simp[n3,YW,-zL]
 by_cases h13:op=13
 . subst h13;simp;refine qa.call (shl303 x y) rfl ?_;simp[jI,shlW]
 by_cases h14:op=14
 . subst h14;simp;refine qa.call (shr304 x y) rfl ?_;simp[jI,qm4]
 by_cases h15:op=15
 . subst h15;simp;refine qa.call (yf _) rfl ?_
   try simp only[km,kW]
   by_cases h:x=y<;>simp[jI,h]
 by_cases h16:op=16
 . subst h16;simp;refine qa.call (yf _) rfl ?_
   try simp only[km,kW]
   by_cases h:x=y<;>simp[jI,h]
 by_cases h17:op=17
 . subst h17;simp;refine qa.call (yf _) rfl ?_;by_cases h:x<y<;>simp[jI,h]
 by_cases h18:op=18
 . subst h18;simp;refine qa.call (yf _) rfl ?_;by_cases h:x<=y<;>simp[jI,h]
 by_cases h19:op=19
 . subst h19;by_cases h:x=0
   . simp[h];refine qa.call (yf _) rfl ?_;simp[jI,h]
   . simp[h];refine qa.call (yf _) rfl ?_
     (try simp only[km,kW]);by_cases h':y=0<;>simp[jI,h,h']
 by_cases h20:op=20
 . subst h20;by_cases h:x=0
   . simp[h];refine qa.call (yf _) rfl ?_
     (try simp only[km,kW]);by_cases h':y=0<;>simp[jI,h,h']
   . simp[h];refine qa.call (yf _) rfl ?_;simp[jI,h]
 have hb:jI op x y=b2i (decide ((x:Int)=0)||!decide ((y:Int)=0)):=by simp[jI,h7,h8,h9,h10,h11,h12,h13,h14,h15,h16,h17,h18,h19,h20]
 rw[hb];by_cases h:x=0
 . simp[h7,h8,h9,h10,h11,h12,h13,h14,h15,h16,h17,h18,h19,h20,h];refine qa.call (yf _) rfl ?_;simp
 . simp[h7,h8,h9,h10,h11,h12,h13,h14,h15,h16,h17,h18,h19,h20,h];refine qa.call (yf _) rfl ?_
   try simp only[km,kW]
   by_cases h':y=0<;>simp[h,h']
section
theorem opW_1 {op a:Int}(h22:op≠22)(h23:op≠23):opW op [a]=unW op a:=by simp[opW,h22,h23]
theorem opW_2 {op a b:Int}(h22:op≠22)(h23:op≠23):opW op [a,b]=jI op a b:=by simp[opW,h22,h23]
theorem qee {l:List Int}:opW 22 l=if l.getD 0 0≠0 then l.getD 1 0 else l.getD 2 0:=by simp[opW]
theorem qng {l:List Int}:opW 23 l=b2i (z7 (l.getD 0 0) l.tail):=by simp[opW]
theorem Jm {a x y:Int}{r:List Int}:z7 a (x::y::r)=((decide (x<=a)&&decide (a<=y))||z7 a r):=by simp[z7]
theorem Zp {a:Int}{r:List Int}(h:r.length<2):z7 a r=false:=by
 match r,h with
 | [],_=>rfl
 | [x],_=>rfl
 | x::y::r,h=>simp at h;omega
theorem qdl {α:Type}{p:α->Bool}{l:List α}{a:α}(h:a∈l)(hp:p a=false):l.all p=false:=by
 rw[qru];intro e;rw[qqy.1 e a h]at hp;cases hp
theorem list3 {l:List Int}(h:l.length=3):∃ a b c,l=[a,b,c]:=by
 match l,h with
 | [a,b,c],_=>exact⟨a,b,c,rfl⟩
theorem qpn {l:List Int}(h:l.length=1):∃ a,l=[a]:=by
 match l,h with
 | [a],_=>exact⟨a,rfl⟩
theorem list2 {l:List Int}(h:l.length=2):∃ a b,l=[a,b]:=by
 match l,h with
 | [a,b],_=>exact⟨a,b,rfl⟩
theorem qfI (op:Int)(l:List Int)(hr:∀ v∈l,0<=v/\v<=65535)(h22:op=22->l.length=3)(h23:op=23->3<=l.length/\l.length<=33)(ho:op≠22->op≠23->l.length=1\/l.length=2) :
 Pure Tryz.prog GG 310 [.int .i64 op,.sl 1 (l.map qo) .none] (.int .i64 (opW op l)):=by
 refine Pure.vc qe Tryz.func310 rfl (by kernel_rfl) ?_;by_cases c22:op=22
 . obtain⟨a,b,c,rfl⟩:=list3 (h22 c22);subst c22;by_cases ha:a=0
   . simp[ha,qee]
   . simp[ha,qee]
 by_cases c23:op=23
 . obtain⟨h3,h33⟩:=h23 c23;subst c23;obtain⟨a,ga⟩:∃ a,l[0]?=some a:=⟨_,qqo (by omega)⟩;obtain⟨g0,ga'⟩:=qql.1 ga;have hw:opW 23 l=b2i (z7 a (l.drop 1)):=by
    rw[qng,qqz,ga];simp
   rw[hw];generalize hT:z7 a (l.drop 1)=T;simp;refine qE.intro (fun n env U=>∃ i:Nat,1<=i/\i<=l.length+1/\n=l.length+1-i/\env 1=.sl 1 (l.map qo) .none/\env 5=.int .i64 i/\U=⟨[],[]⟩/\z7 a (l.drop i)=T) l.length ⟨1,by simp,by omega,by omega,by simp,by simp,rfl,hT⟩ ?_;rintro n env U ⟨i,hi1,hi2,rfl,h1,h5,rfl,hin⟩;have w1:IntKind.i64.wrap ((i:Int)+1)=(i:Int)+1:=wr (by omega) (by omega);have w2:IntKind.i64.wrap ((i:Int)+2)=((i+2:Nat):Int):=(by rw[wr (by omega) (by omega)];omega);have n1:((i:Int)+1).toNat=i+1:=(by omega);have p1:(0:Int)<=(i:Int)+1:=(by omega);by_cases hc:i+1<l.length
   . obtain⟨x,gx⟩:∃ x,l[i]?=some x:=⟨_,qqo (by omega)⟩;obtain⟨y,gy⟩:∃ y,l[i+1]?=some y:=⟨_,qqo (by omega)⟩;obtain⟨q1,gx'⟩:=qql.1 gx;obtain⟨q2,gy'⟩:=qql.1 gy;rw[zz gx,zz gy,Jm]at hin;have hc':(i:Int)+1<l.length:=(by omega);by_cases c1:x<=a
     . by_cases c2:a<=y
       . have hT1:T=true:=(by rw[<- hin];simp[c1,c2]);rw[hT1];simp[h1,h5,w1,n1,p1,hc',hc,q1,q2,g0,ga',gx',gy',c1,c2,b2i]
       . have hin:z7 a (l.drop (i+2))=T:=(by rw[<- hin];simp[c1,c2]);simp[h1,h5,w1,w2,n1,p1,hc',hc,q1,q2,g0,ga',gx',gy',c1,c2];exact⟨_,by omega,i+2,by omega,by omega,rfl,by omega,hin⟩
     . have hin:z7 a (l.drop (i+2))=T:=(by rw[<- hin];simp[c1]);simp[h1,h5,w1,w2,n1,p1,hc',hc,q1,q2,g0,ga',gx',gy',c1];exact⟨_,by omega,i+2,by omega,by omega,rfl,by omega,hin⟩
   . have hc':¬ (i:Int)+1<l.length:=(by omega);have hs:T=false:=(by rw[<- hin];exact Zp (by simp;omega));rw[hs];simp[h1,h5,w1,hc',b2i]
 . rcases ho c22 c23 with h|h
   . obtain⟨a,rfl⟩:=qpn h;rw[opW_1 c22 c23];simp[c22,c23];refine qa.call (qhm op a) rfl ?_;simp
   . obtain⟨a,b,rfl⟩:=list2 h;obtain⟨a0,a1⟩:=hr a (by simp);obtain⟨b0,b1⟩:=hr b (by simp);obtain⟨x,rfl⟩:=qqR a0;obtain⟨y,rfl⟩:=qqR b0;rw[opW_2 c22 c23];simp[c22,c23];refine qa.call (qi3 op x y (by omega) (by omega)) rfl ?_;simp
def YF (s:List Int):AV:=match s with
 | []=>.sl 0 [] .nil
 | a::r=>.sl 1 ((a::r).map qo) (.chain 0 (r.length+1))
def JD (s:List Int):List (Option Nat):=match s with
 | []=>[]
 | _::r=>[some (r.length+1)]
theorem qea (s:List Int):qF (plain (YF s))=true:=by cases s<;>simp[YF]
theorem qeb (s:List Int):Leq (plain (YF s)) (.sl 1 (s.map qo) .none):=by
 cases s with
 | nil=>simp[YF,Leq]
 | cons a r=>exact Leq.sl rfl
section
variable {P:Program}{G:Nat->AV}{U:St}{f:FuncId}{Q:AV->St->Prop}{r:AV}
theorem qa.outN2 {d:Bool}{a:AV}{s:List Int}(ha:qF a=true)(h:Abs.Pure P G f [a,.sl 1 (s.map qo) .none] r)(hq:Q r U):qa P G d f [a,YF s] U Q:=by
 refine qa.pure h ?_ ?_ hq
 . simp only[qqx,qqQ,qq,qea,j5 ha,ha,qtZ]
 . simp only[qqx,qqQ,zj,and_true,j5 ha];exact⟨Leq.refl _,qeb s⟩
theorem qa.outN3 {d:Bool}{a b:AV}{s:List Int}(ha:qF a=true)(hb:qF b=true)(h:Abs.Pure P G f [a,b,.sl 1 (s.map qo) .none] r)(hq:Q r U):qa P G d f [a,b,YF s] U Q:=by
 refine qa.pure h ?_ ?_ hq
 . simp only[qqx,qqQ,qq,qea,j5 ha,j5 hb,ha,hb,qtZ]
 . simp only[qqx,qqQ,zj,and_true,j5 ha,j5 hb];exact⟨Leq.refl _,Leq.refl _,qeb s⟩
end
theorem VS {e:Ex}(h:yy e){n:Nat}(hop:e.op≠23)(ha:zx e.op=n):e.args.length=n:=by
 obtain⟨_,_,_,_,ho,_⟩:=z9 h.self;have:=wK ho hop;omega
theorem qjH {e:Ex}(h:yy e):e.args.length<=33:=by
 obtain⟨_,_,_,_,ho,_⟩:=z9 h.self;by_cases h23:e.op=23
 . have:=QL ho h23;omega
 . have:=wK ho h23;unfold zx at this
   repeat' split at this
   all_goals omega
theorem qhU {e:Ex}(h:yy e)(h1:e.op≠1)(h2:e.op≠2)(h3:e.op≠3)(h24:e.op≠24)(h22:e.op≠22)(h23:e.op≠23):e.args.length=1\/e.args.length=2:=by
 obtain⟨k1,k2,_,_,ho,_⟩:=z9 h.self;have:=wK ho h23;unfold zx at this;rw[if_neg (by omega)]at this
 repeat' split at this
 all_goals omega
theorem qoh (env:List Signal)(hl:Fits env):∀ e,Wen e->yy e->Pure Tryz.prog GG 271 [.agg [.sl 2 (env.map qJ) .none],.agg (qu e)] (.int .i64 (jX env e)):=by
 refine Ex.ind fun e ih hwe hn=>?_
 refine Pure.vc qe Tryz.func271 rfl (by kernel_rfl) ?_;have hfa:=hwe.fits;have hrg:∀ v∈e.args.map (jX env),0<=v/\v<=65535:=by
  intro v hv;obtain⟨a,ha,rfl⟩:=qqS.1 hv;exact KQ env a (hn.arg ha)
 obtain⟨k1,k2,k3,k4,k5,k6,k7,k8⟩:=z9 hn.self;simp only[qc e];simp;refine qE.intro (fun n ev U=>∃ i tl,i<=e.args.length/\n=e.args.length-i/\ev 2=.ptr 0 0/\ev 3=.ptr 1 0/\ev 5=YF ((e.args.map (jX env)).take i)/\ev 13=.sl 4 (e.args.map qu) .none/\ev 14=.int .i64 e.args.length/\ev 15=.int .i64 i/\U=⟨.cells [.sl 2 (env.map qJ) .none]::.cells (qu e)::tl,JD ((e.args.map (jX env)).take i)⟩) e.args.length ⟨0,[],by simp,by simp,by simp,by simp,by simp[YF],by simp,by simp,by simp,by simp[qc e,JD]⟩ ?_;rintro n ev U ⟨i,tl,hi,rfl,h2,h3,h5,h13,h14,h15,rfl⟩
 cases hv:e.args[i]? with
 | some a=>
  obtain⟨hc,hv'⟩:=qql.1 hv;have hm:=qqm hv;have ht:(e.args.map (jX env)).take (i+1)=(e.args.map (jX env)).take i++[jX env a]:=by
   rw[qqT,qqI,hv];rfl
  have hlen:((e.args.map (jX env)).take i).length<=e.args.length:=by simp;omega
  generalize hR:(e.args.map (jX env)).take i=R at h5 ht hlen ⊢;have ih:=ih a hm (hwe.arg hm) (hn.arg hm);simp[h2,h3,h5,h13,h14,h15,hc,hv',qc a,qqH];rw[<- qc a];refine qa.call ih (by simp) ?_
  cases R with
  | nil=>
   simp only[YF]at h5;simp[YF,JD,qD,qh,qw,zg,h2,h3,h13,h14,h15];exact⟨_,by omega,i+1,by omega,rfl,by rw[ht];simp[YF],wr (by omega) (by omega),by rw[ht];simp[JD]⟩
  | cons b r=>
   have hb:r.length<=549755813886:=(by have:=qjH hn;simp at hlen;omega);simp only[YF]at h5;simp[YF,JD,qD,qh,qw,zg,hb,h2,h3,h13,h14,h15];exact⟨_,by omega,i+1,by omega,rfl,by rw[ht];simp[YF],wr (by omega) (by omega),by rw[ht];simp[JD]⟩
 | none=>
  have hc:¬ i<e.args.length:=by simp at hv;omega
  rw[qqu (by simp;omega)]at h5 ⊢;rw[yp];generalize hR:e.args.map (jX env)=R at h5 hrg ⊢;have hRl:R.length=e.args.length:=by rw[<- hR];simp
  unfold wM;by_cases c1:e.op=1
  . simp[h2,h3,h5,h13,h14,h15,hc,qc e,c1]
  by_cases c2:e.op=2
  . simp[h2,h3,h5,h13,h14,h15,hc,qc e,c1,c2];refine qa.call (qcV env e.name hl) (by simp) ?_;simp[Qz]
  by_cases c3:e.op=3
  . have hname:=kI (k7 (.inl c3));obtain⟨v,rfl⟩:=qpn (l:=R) (by rw[hRl];exact VS hn (n:=1) (by omega) (by rw[c3];decide));obtain⟨b,hb,_⟩:=qde (env:=env) (a:=e.name) (i:=v);have hat:=qp9 env e.name v hl (by omega);rw[hb]at hat;simp only[YF]at h5;simp[h2,h3,h5,h13,h14,h15,hc,qc e,c1,c2,c3];refine qa.call hat (by simp) ?_;simp
  by_cases c24:e.op=24
  . have hname:=kI (k7 (.inr c24));simp[h2,h3,h5,h13,h14,h15,hc,qc e,c1,c2,c3,c24];refine qa.call (sum166 env e.name hl (by omega)) (by simp) ?_;simp
  . simp[h2,h3,h5,h13,h14,h15,hc,qc e,c1,c2,c3,c24];refine qa.outN2 (by simp) (qfI e.op R hrg (fun c=>?_) (fun c=>?_) (fun c22 c23=>?_)) ?_
    . rw[hRl];exact VS hn (n:=3) (by omega) (by rw[c];decide)
    . rw[hRl];have:=QL k5 c;omega
    . rw[hRl];exact qhU hn c1 c2 c3 c24 c22 c23
    . simp
end
theorem qbd (env:List Signal)(e:Ex):jp env e=((zF [2] e).all (fun s=>(jn env s).isSome)&&(zF [3,24] e).all fun s=>(jn env (zN s 0)).isSome):=by
 rw[qrj,qqq,jp];simp only[qqy];constructor
 . intro h;refine⟨fun s hs=>?_,fun s hs=>?_⟩
   . obtain⟨x,hx,hop,rfl⟩:=jQ.1 hs;have:=h x hx;have h2:x.op=2:=(by simpa using hop);simpa[qgD,h2] using this
   . obtain⟨x,hx,hop,rfl⟩:=jQ.1 hs;have:=h x hx;have h3:x.op=3\/x.op=24:=(by simpa using hop);unfold qgD at this;rw[if_neg (by omega),if_pos h3]at this;exact this
 . rintro⟨h1,h2⟩ x hx;unfold qgD;split
   . rename_i h;exact h1 _ (jQ.2 ⟨x,hx,by simp[h],rfl⟩)
   . split
     . rename_i h;exact h2 _ (jQ.2 ⟨x,hx,by simpa using h,rfl⟩)
     . rfl
theorem qjP {α:Type}{p:α->Bool}{l:List α}{i:Nat}{a:α}(h:l[i]?=some a)(hp:p a=false):l.all p=false:=qdl (qqm h) hp
theorem VX {α:Type}{p:α->Bool}{l:List α}{i:Nat}(hi:l.length<=i)(h:∀ a∈l.take i,p a=true):l.all p=true:=by
 rw[qqu hi]at h;exact qqy.2 h
theorem qa3 {ops:List Int}{e:Ex}:(zF ops e).length<=(pre e).length:=by
 unfold zF;have:∀ (l:List Ex) (s:List Str),(l.foldl (Kq ops) s).length<=s.length+l.length:=by
  intro l
  induction l with
  | nil=>intro s;simp
  | cons a r ih=>
   intro s;have h1:=ih (Kq ops s a);have h2:=wX (ops:=ops) (s:=s) (e:=a);simp only[qq7,qqC];omega
 simpa using this (pre e) []
theorem qps (env:List Signal)(hl:Fits env)(e:Ex)(hwe:Wen e)(hn:yy e)(hsz:(pre e).length<=100000):Pure Tryz.prog GG 270 [.agg [.sl 2 (env.map qJ) .none],.agg (qu e)] (.bool (jp env e)):=by
 refine Pure.vc qe Tryz.func270 rfl (by kernel_rfl) ?_;have hnm:=Zk e hwe hsz;have har:=v9 e hwe hsz;have hk:=qbd env e;generalize jp env e=r at hk ⊢;have harr:∀ s∈zF [3,24] e,s.length<=1000:=by
  intro s hs;obtain⟨x,hx,hop,rfl⟩:=jQ.1 hs;have:=kI ((z9 (hn x hx)).2.2.2.2.2.2.1 (by simpa using hop));omega
 have l1:=qa3 (ops:=[2]) (e:=e);have l2:=qa3 (ops:=[3,24]) (e:=e);generalize zF [2] e=A at hnm l1 hk ⊢;generalize zF [3,24] e=B at har harr l2 hk ⊢;simp only[qc e];simp;rw[<- qc e];refine qa.call hnm (by simp) ?_
 try simp
 refine qE.intro (fun n ev U=>∃ i,i<=A.length/\n=A.length-i/\ev 2=.ptr 0 0/\ev 3=.ptr 1 0/\ev 14=.sl 1 (A.map jc) .none/\ev 15=.int .i64 A.length/\ev 16=.int .i64 i/\U=⟨[.cells [.sl 2 (env.map qJ) .none],.cells (qu e)],[]⟩/\∀ s∈A.take i,(jn env s).isSome=true) A.length ⟨0,by simp[qc e]⟩ ?_;rintro n ev U ⟨i,hi,rfl,h2,h3,h14,h15,h16,rfl,hz⟩
 cases hv:A[i]? with
 | some s=>
  obtain⟨hc,hv'⟩:=qql.1 hv;simp[h2,h3,h14,h15,h16,hc,hv'];refine qa.call (qcV env s hl) (by simp) ?_;cases hf:(jn env s).isSome
  . rw[qjP (p:=fun s=>(jn env s).isSome) hv hf,qsm]at hk;subst hk;simp[Qz,hf]
  . simp[Qz,hf,h2,h3,h14,h15,h16];exact⟨_,by omega,i+1,by omega,rfl,wr (by omega) (by omega),by simpa using qZ (p:=fun s=>(jn env s).isSome=true) hv (by simpa using hz) hf⟩
 | none=>
  have hlen:A.length<=i:=by simpa using hv
  have hc:¬ i<A.length:=by omega
  rw[VX (p:=fun s=>(jn env s).isSome) hlen hz,qrr]at hk;simp[h2,h3,h14,h15,h16,hc,qc e];rw[<- qc e];refine qa.call har (by simp) ?_
  try simp
  have h2':=h2;clear h2 h14 h15 h16 hz;refine qE.intro (fun n ev U=>∃ i,i<=B.length/\n=B.length-i/\ev 2=.ptr 0 0/\ev 30=.sl 1 (B.map jc) .none/\ev 31=.int .i64 B.length/\ev 32=.int .i64 i/\U=⟨[.cells [.sl 2 (env.map qJ) .none],.cells (qu e)],[]⟩/\∀ s∈B.take i,(jn env (zN s 0)).isSome=true) B.length ⟨0,by simp[qc e,h2']⟩ ?_;rintro n ev U ⟨i,hi,rfl,h2,h30,h31,h32,rfl,hz⟩
  cases hv:B[i]? with
  | some s=>
   obtain⟨hc,hv'⟩:=qql.1 hv;obtain⟨b,hb,hb0⟩:=qde (env:=env) (a:=s) (i:=0);have hb0:=hb0 rfl;have hat:=qp9 env s 0 hl (harr s (qqm hv));rw[hb]at hat;simp[h2,h30,h31,h32,hc,hv'];refine qa.call hat (by simp) ?_;cases hf:(jn env (zN s 0)).isSome
   . rw[qjP (p:=fun s=>(jn env (zN s 0)).isSome) hv hf]at hk;subst hk;simp[hb0,hf]
   . simp[hb0,hf,h2,h30,h31,h32];exact⟨_,by omega,i+1,by omega,rfl,wr (by omega) (by omega),by simpa using qZ (p:=fun s=>(jn env (zN s 0)).isSome=true) hv (by simpa using hz) hf⟩
  | none=>
   have hlen:B.length<=i:=(by simpa using hv);have hc:¬ i<B.length:=(by omega);rw[VX (p:=fun s=>(jn env (zN s 0)).isSome) hlen hz]at hk;subst hk;simp[h2,h30,h31,h32,hc]
theorem eval37 (env:List Signal)(hl:Fits env)(e:Ex)(hwe:Wen e)(hh:hgt e<1000000)(hsz:(pre e).length<=100000):Pure Tryz.prog GG 217 [.agg (qu e),.sl 2 (env.map qJ) .none] (.tup [.int .i64 (yh env e),.int .i64 (Zv env e)]):=by
 refine Pure.vc qe Tryz.func217 rfl (by kernel_rfl) ?_;have hva:=J9 e hwe hh;have hE:Zv env e=if zh e≠0 then 1 else if jp env e=true then 0 else 7:=rfl
 have hV:yh env e=if zh e=0/\jp env e=true then jX env e else 0:=rfl
 by_cases h0:zh e=0
 . have hn:=vE h0;have hkn:=qps env hl e hwe hn hsz;have hval:=qoh env hl e hwe hn;cases hk:jp env e
   . have e1:Zv env e=7:=(by rw[hE];simp[h0,hk]);have e2:yh env e=0:=(by rw[hV];simp[h0,hk]);rw[e1,e2];rw[h0]at hva;rw[hk]at hkn;simp only[qc e];simp[qX,zu,qy,zp];rw[<- qc e];refine qa.call hva (by simp) ?_;simp[qc e];rw[<- qc e];refine qa.call hkn (by simp) ?_;simp
   . have e1:Zv env e=0:=(by rw[hE];simp[h0,hk]);have e2:yh env e=jX env e:=(by rw[hV];simp[h0,hk]);rw[e1,e2];rw[h0]at hva;rw[hk]at hkn;simp only[qc e];simp[qX,zu,qy,zp];rw[<- qc e];refine qa.call hva (by simp) ?_;simp[qc e];rw[<- qc e];refine qa.call hkn (by simp) ?_;simp[qc e];rw[<- qc e];refine qa.call hval (by simp) ?_;simp
 . have e1:Zv env e=1:=(by rw[hE];simp[h0]);have e2:yh env e=0:=(by rw[hV];simp[h0]);rw[e1,e2];simp only[qc e];simp[qX,zu,qy,zp];rw[<- qc e];refine qa.call hva (by simp) ?_;simp[h0]
def HitQ (F A:Nat)(p:Problem)(l:List Ex)(s:Option (List Int)×Bool)(H:List Blk)(r:AV)(U':St):Prop :=
 KpL [F,A] H U'.H/\(∃ va n,U'.H[F]?=some (.cells (KH p l va s.2 n)))/\((∃ a bh vh,s.1=some a/\r=.tup [vh,.bool true]/\qj3 bh U'.H vh a)\/(s.1=none/\r=.tup [.sl 0 [] .nil,.bool false]))
def HitI (F A t:Nat)(p:Problem)(l:List Ex)(s:Option (List Int)×Bool)(H:List Blk)(n:Nat)(ev:Env)(U:St):Prop :=
 ev 0=.ptr F 0/\∃ H' T' a over b c,U=⟨H',T'⟩/\KpL [F,A] H H'/\FndR F A t p l a over n H'/\okA p.vars a/\jt b 2 qJ H' (ev 4) (vg p.vars c)/\c.length=p.vars.length/\b≠F/\b≠A/\H.length<=b/\s=if over then (none,true) else qb1 p.vars l n a
theorem ql3 {L:List Signal}{i:Nat}{g:Signal}{x:Int}(h:L[i]?=some g):(L.flatMap qJ).set (i*2+1) (.int .i64 x)=(L.set i ⟨g.name,x⟩).flatMap qJ:=by
 induction L generalizing i with
 | nil=>simp at h
 | cons a r ih=>
  cases i with
  | zero=>simp at h;subst h;simp
  | succ i=>
   simp at h;have e:(i+1)*2+1=(i*2+1)+2:=(by omega);rw[e,qqG,qs0,qqG,<- ih h];simp
theorem qmf {vs:List Var}{c a:List Int}(hc:c.length=vs.length)(ha:a.length=vs.length){i:Nat}{x:Int}(hx:a[i]?=some x){g:Signal}(hg:(vg vs (a.take i++c.drop i))[i]?=some g):(vg vs (a.take i++c.drop i)).set i ⟨g.name,x⟩=vg vs (a.take (i+1)++c.drop (i+1)):=by
 have hi:=(qql.1 hx).1;apply qrb;intro k;have hl:(a.take i++c.drop i).length=vs.length:=by simp;omega
 have hl':(a.take (i+1)++c.drop (i+1)).length=vs.length:=by simp;omega
 by_cases hk:k<vs.length
 . obtain⟨v,hv⟩:∃ v,vs[k]?=some v:=⟨_,qqo hk⟩;by_cases hki:k=i
   . subst hki;have h1:(a.take (k+1)++c.drop (k+1))[k]?=some x:=by
      rw[qqv (by simp;omega),List.getElem?_take_of_lt (by omega),hx]
     rw[qqp (by rw[yB hl];exact hk),Qq hv h1];obtain⟨y,hy⟩:∃ y,(a.take k++c.drop k)[k]?=some y:=⟨_,qqo (by omega)⟩;rw[Qq hv hy]at hg;cases hg;rfl
   . rw[qqn (Ne.symm hki)];have:(a.take i++c.drop i)[k]?=(a.take (i+1)++c.drop (i+1))[k]? := by
      rw[qq9,qq9];simp only[qqY,qq4,qrh];by_cases h1:k<i
      . rw[if_pos (by omega),if_pos (by omega),if_pos (by omega),if_pos (by omega)]
      . rw[if_neg (by omega),if_neg (by omega)];congr 1;omega
     obtain⟨y,hy⟩:∃ y,(a.take i++c.drop i)[k]?=some y:=⟨_,qqo (by omega)⟩;rw[Qq hv hy,Qq hv (by rw[<- this];exact hy)]
 . rw[qqW (by rw[qsd,yB hl];omega),qqW (by rw[yB hl'];omega)]
def qk9:List (Nat×Sch×List Nat):=[(1,.step 0 [9,8,3,2,1] (.step 1 [9,8,3,2] (.step 2 [9,8,3] (.step 3 [9,8] (.step 4 [9,8,7,6,5] (.step 5 [9,8,7,6] (.step 6 [9,8,7] (.step 7 [9,8] (.step 8 [9] (.step 9 [] (.done)))))))))),[8])]
theorem hit327 {F A t:Nat}{p:Problem}{l:List Ex}{a:List Int}{n:Nat}{H:List Blk}(T:List (Option Nat))(h:FndR F A t p l a false n H)(hAl:A<H.length)(hn:n<=262144)(hl2:p.vars.length<=1000)(hok:okA p.vars a)(hw:∀ v∈p.vars,0<=v.width/\v.width<=28)
 (hx:∀ e∈l,Wen e/\hgt e<=1000/\(pre e).length<=100000) (hfl:Fits l):qg Tryz.prog GG 165 [.ptr F 0] ⟨H,T⟩ (HitQ F A p l (qb1 p.vars l n a) H):=by
 refine qg.kO ⟨false,qk9,[],[]⟩ qe Tryz.func165 rfl (by kernel_rfl) ?_;have hF:=h.f;have hlen:=hok.len;have henv:=qpR (A:=A) (t:=t) p a hlen hl2 T h.r;simp only[qL]at henv;simp only[KH]at hF;simp[-getElem?_pos];rw[qH rfl];simp[-getElem?_pos,qP,hF];refine qd.acall henv ?_;rintro v ⟨H1,T1⟩ ⟨rfl,hk1,b,ho,hb⟩;have hen:kr p.vars a=vg p.vars a:=by rw[ZY,if_pos hlen]
 simp only at hk1 ho;simp[-getElem?_pos];obtain⟨s,hs⟩:∃ s,s=qb1 p.vars l n a:=⟨_,rfl⟩;rw[<- hs];have hF1:H1[F]?=some (.cells (KH p l (V8 A t a) false n)):=hk1.2 _ _ h.f (by simp);have hFl:=(qql.1 h.f).1;have hr1:FndR F A t p l a false n H1:=⟨hF1,fun ha=>hk1.2 _ _ (h.r ha) (by simp)⟩;rw[hen]at ho;refine qM.gen (fun m ev U=>m<=262144/\HitI F A t p l s H m ev U) n ?_ ?_
 . refine⟨hn,by simp,H1,T1,a,false,b,a,rfl,hk1.sub (by simp),hr1,hok,by simpa using ho,hlen,?_,?_,hb,by simpa using hs⟩
   . omega
   . omega
 . rintro m ev U R hR ⟨hm,e0,H',T',a',over,b',c,rfl,hk,hfr,hok',ho',hc,hbF,hbA,hbH,hs'⟩;have hF':=hfr.f;have hF'l:=(qql.1 hF').1;simp only[KH]at hF';have hmi:(m:Int)<=262144:=(by omega)
   cases over with
   | true=>
    simp at hs';subst hs';simp[-getElem?_pos,e0,hF'];exact⟨hk,⟨_,_,hfr.f⟩,.inr ⟨rfl,rfl⟩⟩
   | false=>
    simp only[qqF,if_false]at hs'
    cases m with
    | zero=>
     have hs':s=(none,false):=hs';subst hs';simp[-getElem?_pos,e0,hF'];exact⟨hk,⟨_,_,hfr.f⟩,.inr ⟨rfl,rfl⟩⟩
    | succ m=>
     have hlen':=hok'.len;have hw1:=wr (n:=(m:Int)) (by omega) (by omega);have hp:(0:Int)<(m:Int)+1:=(by omega);have hcl:=qmw (A:=A) (t:=t) a' (by omega) T' (H:=H'.set F (.cells (KH p l (V8 A t a') false m))) (fun ha=>by
      have:=hfr.r ha;rw[qqn (Ne.symm (hfr.ne ha))];exact this)
     have hFs:∀ y,(H'.set F y)[F]?=some y:=fun y=>qqp hF'l
     simp only[KH]at hcl;simp[-getElem?_pos,e0,hF',hw1,hp,hFs];refine qd.acall hcl ?_;rintro vh ⟨H2,T2⟩ ⟨rfl,hk2,bh,hrow,hbh⟩;simp only at hk2 hrow;rw[qsd]at hbh;have hF2:H2[F]?=some (.cells (KH p l (V8 A t a') false m)):=hk2.2 _ _ (hFs _) (by simp);have hA2:a'≠[]->H2[A]?=some (.cells (zB a')):=fun ha=>hk2.2 _ _ (by rw[qqn (Ne.symm (hfr.ne ha))];exact hfr.r ha) (by simp)
     have ho2:jt b' 2 qJ H2 (ev 4) (vg p.vars c):=ho'.keep fun x _ hx=>hk2.2 _ _ (by rw[qqn (Ne.symm hbF)];exact hx) (by simp)
     have hkH2:KpL [F,A] H H2:=(hk.trans (KpL.set (by simp))).trans (hk2.sub (by simp));have hbh':bh≠F/\bh≠A:=by
      have:=hk.1;constructor<;>omega
     have hbb:a'≠[]->bh≠b':=fun ha=>by
      have hne:vg p.vars c≠[]:=fun e=>by
       have:=yB hc;rw[e]at this;exact ha (qqA (by rw[hlen',<- this];rfl))
      have:=ho'.lt hne;omega
     generalize hv4:ev 4=v4 at *;have hln:∀ H T,Kv (Dof Tryz.prog) ⟨H,T⟩ 44 vh=some (.int .i64 a'.length):=fun H T=>by
      rcases hrow with ⟨ha0,szt,tok,rfl⟩|⟨ha0,rfl,hbc⟩
      . simp[Kv,ha0]
      . simp[Kv]
     have hle:a'.length<=1000:=(by omega);have hlN:(zB a').length=a'.length:=za;by_cases hdummy:True
     . simp[-getElem?_pos,-Kv,hln];refine qM.listR a' (fun d ev2 U2=>ev2 0=.ptr F 0/\ev2 4=v4/\ev2 5=vh/\ev2 45=vh/\ev2 46=.int .i64 a'.length/\ev2 47=.int .i64 d.length/\∃ H3,U2=⟨H3,T2⟩/\KpL [b'] H2 H3/\jt b' 2 qJ H3 v4 (vg p.vars (a'.take d.length++c.drop d.length))) ?_ ?_ ?_
       . exact⟨by simp[e0],by simp[hv4],by simp,by simp,by simp,by simp,H2,by simp,KpL.refl,by simpa using ho2⟩
       . rintro d x rest ev2 U2 R2 hR2 hd hx2 hlt ⟨g0,g4,g5,g45,g46,g47,H3,rfl,hk3,ho3⟩;have hdw:=wr (n:=(d.length:Int)+1) (by omega) (by omega);have ha0:a'≠[]:=fun e=>by rw[e]at hlt;simp at hlt
         obtain⟨_,hvh,hbc⟩:=hrow.resolve_left (fun h=>ha0 h.1);have hb3:H3[bh]?=some (.cells (zB a')):=hk3.2 _ _ hbc (by simpa using hbb ha0);have g45':=g45;rw[hvh]at g45';have hto:(zB a')[d.length]?=some (.int .i64 x):=(by rw[Kg,hx2];rfl);have hdr:(zB a').drop d.length=.int .i64 x::(zB a').drop (d.length+1):=by
          obtain⟨h1,h2⟩:=qql.1 hto;rw[qqK h1,h2]
         have hl1:d.length+1<=(zB a').length:=(by rw[za];omega);have hcl:(a'.take d.length++c.drop d.length).length=p.vars.length:=(by simp;omega);have hel:=yB hcl;have hne:vg p.vars (a'.take d.length++c.drop d.length)≠[]:=fun e=>by rw[e]at hel;simp at hel;omega
         obtain⟨hv,hbl⟩:=ho3.at hne;obtain⟨g,hg⟩:∃ g,(vg p.vars (a'.take d.length++c.drop d.length))[d.length]?=some g:=⟨_,qqo (by rw[hel];omega)⟩;have hset:=ql3 (x:=x) hg;have hput:=qmf hc hlen' hx2 hg;have hfl2:((vg p.vars (a'.take d.length++c.drop d.length)).flatMap qJ).length=p.vars.length*2:=(by rw[Go.Abs.jg (sz:=2) (fun x=>by simp),hel]);have hbll:=(qql.1 hbl).1;rw[hel]at hv;have hdv:(d.length:Int)<p.vars.length:=(by omega);have hst1:d.length*2+1+1<=p.vars.length*2:=(by omega);rw[hput]at hset;generalize hFL:(vg p.vars (a'.take d.length++c.drop d.length)).flatMap qJ=FL at *;simp[-getElem?_pos,g4,g45',g46,g47,hlt,hb3,hdr,hl1,hv,hdv,hbl,hst1,hfl2,hset,hdw];have hcl':(a'.take (d.length+1)++c.drop (d.length+1)).length=p.vars.length:=(by simp;omega);have hel':=yB hcl';refine hR2 _ _ ⟨by simp[g0],by simp[g4],by simp[g5],by simp[g45],by simp[g46],by simp,_,rfl,hk3.trans (KpL.set (by simp)),?_⟩;rw[qqr,qqO];refine .inr ⟨fun e=>by rw[e]at hel';simp at hel';omega,by rw[hel'];exact hv,qqp hbll⟩
       . rintro ev2 U2 ⟨g0,g4,g5,g45,g46,g47,H3,rfl,hk3,ho3⟩;have hta:a'.take a'.length++c.drop a'.length=a':=(by rw[qr0,qq0 (by omega),qq5]);rw[hta]at ho3;have hF3:FndR F A t p l a' false m H3:=⟨hk3.2 _ _ hF2 (by simpa using Ne.symm hbF),fun ha=>hk3.2 _ _ (hA2 ha) (by simpa using Ne.symm hbA)⟩;have hadv:=qgv T2 hF3 hlen' (by omega) hok' hw;simp[-getElem?_pos,g0,g46,g47];refine qd.acall hadv ?_;rintro v2 ⟨H4,T4⟩ ⟨rfl,hT4,hF4,hk4⟩;simp only at hT4 hF4 hk4;subst hT4;have ho4:jt b' 2 qJ H4 v4 (vg p.vars a'):=ho3.keep fun x _ hx=>hk4.2 _ _ hx (by simp;exact⟨hbF,hbA⟩)
         have hrow4:∀ u,qj3 bh (H4++u) vh a':=fun u=>by
          rcases hrow with h|⟨h1,h2,h3⟩
          . exact .inl h
          . exact .inr ⟨h1,h2,qb (hk4.2 _ _ (hk3.2 _ _ h3 (by simpa using hbb h1)) (by simp;exact hbh')) u⟩
         have hF4f:=hF4.f;simp only[KH]at hF4f;have hkH4:KpL [F,A] H H4:=by
          refine⟨by have:=hkH2.1;have:=hk3.1;have:=hk4.1;omega,fun k x hk0 hn0=>?_⟩;have h2:=hkH2.2 k x hk0 hn0;have hkl:=(qql.1 hk0).1;have h3:=hk3.2 k x h2 (by simp;omega);exact hk4.2 k x h3 hn0
         have hstep:s=if QC p.vars l a' then (some a',(q9 p.vars a').2) else if (q9 p.vars a').2 then (none,true) else qb1 p.vars l m (q9 p.vars a').1:=hs'
         have hok4:=Ve hok';have hen4:kr p.vars a'=vg p.vars a':=(by rw[ZY,if_pos hlen']);simp[-getElem?_pos,hF4f,g0];have hel4:=yB hlen';have hfe:Fits (vg p.vars a'):=(by show (vg p.vars a').length<_;omega);have hsat:QC p.vars l a'=l.all fun e=>decide (yh (vg p.vars a') e≠0):=by unfold QC;rw[hen4]
         refine qM.listR l (fun d ev3 U3=>ev3 0=.ptr F 0/\ev3 4=v4/\ev3 5=vh/\ev3 63=.sl 4 (l.map qu) .none/\ev3 64=.int .i64 l.length/\ev3 65=.int .i64 d.length/\(∃ u,U3=⟨H4++u,T4⟩)/\∀ e∈d,yh (vg p.vars a') e≠0) ?_ ?_ ?_
         . exact⟨by simp[g0],by simp[g4],by simp[g5],by simp,by simp,by simp,⟨[],by simp⟩,by simp⟩
         . rintro d e rest ev3 U3 R3 hR3 hd hx3 hlt ⟨f0,f4,f5,f63,f64,f65,⟨u,rfl⟩,hnz⟩;have hm3:=qqm hx3;obtain⟨hwe,hh,hsz⟩:=hx e hm3;have hdw:=wr (n:=(d.length:Int)+1) (by unfold Fits at hfl;omega) (by unfold Fits at hfl;omega);have hev:=eval37 (vg p.vars a') hfe e hwe (by omega) hsz;have hou:∀ u,jt b' 2 qJ (H4++u) v4 (vg p.vars a'):=fun u=>ho4.keep fun x _ hx=>qb hx u
           simp[-getElem?_pos,f4,f63,f64,f65,hlt,hx3,qc e];rw[<- qc e];refine qd.lent hev rfl ?_ ?_
           . simp only[qqx,qqQ,zj,and_true];refine⟨?_,(hou _).frz (fun x=>by simp) (fun x=>by simp) (fun x=>by simp) 7⟩;rw[qv (by simp)];exact Leq.refl _
           . by_cases hz:yh (vg p.vars a') e=0
             . have hsf:QC p.vars l a'=false:=(by rw[hsat,qtw];exact⟨e,hm3,by simp[hz]⟩);rw[hsf]at hstep;simp only[qqF,if_false]at hstep;simp[-getElem?_pos,hz];exact hR m _ _ (by omega) ⟨by omega,by simp[f0],_,T4,(q9 p.vars a').1,(q9 p.vars a').2,b',a',rfl,hkH4.trans KpL.app,hF4.look _,hok4,by simpa[f4] using hou _,hlen',hbF,hbA,hbH,hstep⟩
             . simp[-getElem?_pos,hz,f65,hdw];refine hR3 _ _ ⟨by simp[f0],by simp[f4],by simp[f5],by simp[f63],by simp[f64],by simp,⟨_,by simp;rfl⟩,fun x hx=>?_⟩;rcases qqE.1 hx with hx|hx
               . exact hnz x hx
               . simp only[qqM,qrI,or_false]at hx;rw[hx];exact hz
         . rintro ev3 U3 ⟨f0,f4,f5,f63,f64,f65,⟨u,rfl⟩,hnz⟩;have hst:QC p.vars l a'=true:=(by rw[hsat,qqy];exact fun e he=>by simpa using hnz e he);rw[hst,if_pos rfl]at hstep;simp[-getElem?_pos,f5,f64,f65];rw[hstep];exact⟨hkH4.trans KpL.app,⟨_,_,(hF4.look u).f⟩,.inl ⟨a',bh,_,rfl,rfl,hrow4 u⟩⟩
     . exact absurd trivial hdummy
end Go.Proofs.YtoibbcnfhhggnaaGreatDoor
end
