import Derived.Test.YtfmdnopgncbmoaaGreatDoorPs08
set_option maxRecDepth 100000
set_option linter.all false
set_option linter.defProp false
namespace Go.Proofs.YtfmdnopgncbmoaaGreatDoor
open Go Go.Abs Tryz
def qm3(n):((BitVec.ofInt 64 n &&& 65535#64).toNat:Int)=n%65536:=by
 rw[BitVec.toNat_and,BitVec.toNat_ofInt];rw[show(65535#64).toNat=2^16-1 by decide,qAp];omega
def qu7{n}(h0:0<=n)(h1:n<=65535):IntKind.u16.wrap n=n:=by
 simp[IntKind.wrap,IntKind.bits,IntKind.signed];omega
def qgJ(n):IntKind.u16.wrap n=n%65536:=by
 simp[IntKind.wrap,IntKind.bits,IntKind.signed]
def qtD(n):qu .and .i64 n 65535=some (.int .i64 (qM n)):=by
 have h2:=qm3 n;have h5:n%65536=qM n:=rfl;show some (AV.int .i64 (IntKind.i64.wrap ((BitVec.ofInt 64 n &&& 65535#64).toNat:Int)))=_;rw[h2,h5,wr (by omega) (by omega)]
def KE(n):Pure prog GG 273 [.int .i64 n] (.int .u16 (qM n)):=by
 refine qDb qe func273 rfl (by kernel_rfl) ?_;have h1:=qF n;simp[-qu,qtD,yS,qu7 h1.1 h1.2]
def JF(n)(h0:0<=n)(h1:n<=65535):Pure prog GG 274 [.int .u16 n] (.int .i64 n):=by
 refine qDb qe func274 rfl (by kernel_rfl) ?_;simp[yS,show IntKind.i64.wrap n=n from wr (by omega) (by omega)]
def qov(n):Pure prog GG 219 [.int .i64 n] (.int .i64 (qM n)):=by
 refine qDb qe func219 rfl (by kernel_rfl) ?_
 try simp
 refine qCW (KE n) rfl ?_
 try simp
 refine qCW (JF (qM n) (qF n).1 (qF n).2) rfl ?_;simp
def qhd{f x b r}(hx:zb x=true)(h0:0<=r)(h1:r<=65535)(h:Pure prog GG f [x,.int .u16 (qM b)] (.int .u16 r)):Pure prog GG 275 [.fn f [x] [],.int .i64 b] (.int .i64 r):=by
 refine qDb qe func275 rfl (by kernel_rfl) ?_
 try simp
 refine qCW (KE b) rfl ?_
 try simp
 refine qCW h (by simp[hx]) ?_
 try simp
 refine qCW (JF r h0 h1) rfl ?_;simp
def qnG{f x r}(hx:zb x=true)(h0:0<=r)(h1:r<=65535)(h:Pure prog GG f [x] (.int .u16 r)):Pure prog GG 311 [.fn f [x] []] (.int .i64 r):=by
 refine qDb qe func311 rfl (by kernel_rfl) ?_
 try simp
 refine qCW h (by simp[hx]) ?_
 try simp
 refine qCW (JF r h0 h1) rfl ?_;simp
def qoD(a b):Pure prog GG 276 [.int .u16 (qM a),.int .u16 (qM b)] (.int .u16 (qM (a+b))):=by
 refine qDb qe func276 rfl (by kernel_rfl) ?_;simp[qu,show IntKind.u16.wrap (qM a+qM b)=qM (a+b) by rw[qgJ];unfold qM;omega]
def qos(a b):Pure prog GG 315 [.int .u16 (qM a),.int .u16 (qM b)] (.int .u16 (qM (a-b))):=by
 refine qDb qe func315 rfl (by kernel_rfl) ?_;simp[qu,show IntKind.u16.wrap (qM a-qM b)=qM (a-b) by rw[qgJ];unfold qM;omega]
def qgI(a b):qM (qM a*qM b)=qM (a*b):=by
 unfold qM;rw[<- qCE]
def qoA(a b):Pure prog GG 316 [.int .u16 (qM a),.int .u16 (qM b)] (.int .u16 (qM (a*b))):=by
 refine qDb qe func316 rfl (by kernel_rfl) ?_;simp[qu,show IntKind.u16.wrap (qM a*qM b)=qM (a*b) by rw[qgJ];exact qgI a b]
def qoz(a):Pure prog GG 313 [.int .u16 (qM a)] (.int .u16 (qM (0-a))):=by
 refine qDb qe func313 rfl (by kernel_rfl) ?_;have h:IntKind.u16.wrap (0-qM a)=qM (0-a):=by rw[qgJ];unfold qM;omega
 simp only[Int.zero_sub]at h⊢;simp[unA,h]
def qkn{n}(h0:0<=n)(h1:n<=65535):(((BitVec.ofInt 16 65535) ^^^ (BitVec.ofInt 16 n)).toNat:Int)=65535-n:=by
 rw[show BitVec.ofInt 16 65535=BitVec.allOnes 16 by decide,BitVec.allOnes_xor,BitVec.toNat_not,BitVec.toNat_ofInt];omega
def qoB(a):Pure prog GG 312 [.int .u16 (qM a)] (.int .u16 (65535-qM a)):=by
 refine qDb qe func312 rfl (by kernel_rfl) ?_;have hr:=qF a;have h:=qkn hr.1 hr.2;have h4:unA .xor (.int .u16 (qM a))=some (.int .u16 (65535-qM a)):=by
  unfold unA;simp only[];rw[show(if IntKind.u16.signed=true then(-1:Int) else IntKind.u16.max)=65535 by decide];show some (AV.int .u16 (IntKind.u16.wrap (((BitVec.ofInt 16 65535) ^^^ (BitVec.ofInt 16 (qM a))).toNat:Int)))=_;rw[h,show IntKind.u16.wrap (65535-qM a)=65535-qM a from qu7 (by omega) (by omega)]
 simp[-unA,h4]
def qog(a b):Pure prog GG 220 [.int .i64 a,.int .i64 b] (.int .i64 (qM (a+b))):=by
 refine qDb qe func220 rfl (by kernel_rfl) ?_
 try simp
 refine qCW (KE a) rfl ?_
 try simp
 refine qCW (qhd (by simp) (qF _).1 (qF _).2 (qoD a b)) rfl ?_;simp
def qr0(a b):Pure prog GG 281 [.int .i64 a,.int .i64 b] (.int .i64 (qM (a-b))):=by
 refine qDb qe func281 rfl (by kernel_rfl) ?_
 try simp
 refine qCW (KE a) rfl ?_
 try simp
 refine qCW (qhd (by simp) (qF _).1 (qF _).2 (qos a b)) rfl ?_;simp
def qsz(a b):Pure prog GG 282 [.int .i64 a,.int .i64 b] (.int .i64 (qM (a*b))):=by
 refine qDb qe func282 rfl (by kernel_rfl) ?_
 try simp
 refine qCW (KE a) rfl ?_
 try simp
 refine qCW (qhd (by simp) (qF _).1 (qF _).2 (qoA a b)) rfl ?_;simp
def qsP(a):Pure prog GG 278 [.int .i64 a] (.int .i64 (65535-qM a)):=by
 refine qDb qe func278 rfl (by kernel_rfl) ?_;have hr:=qF a
 try simp
 refine qCW (KE a) rfl ?_
 try simp
 refine qCW (qnG (by simp) (by omega) (by omega) (qoB a)) rfl ?_;simp
def qsx(a):Pure prog GG 279 [.int .i64 a] (.int .i64 (qM (0-a))):=by
 refine qDb qe func279 rfl (by kernel_rfl) ?_
 try simp
 refine qCW (KE a) rfl ?_
 try simp
 refine qCW (qnG (by simp) (qF _).1 (qF _).2 (qoz a)) rfl ?_;simp
def qvB(a b:Int):Int:=if 0<=b/\b<16 then qM (a*2^b.toNat) else 0
def qvz(a b:Int):Int:=if 0<=b/\b<16 then qM a/2^b.toNat else 0
def qdV{f x b r}(hx:zb x=true)(h0:0<=r)(h1:r<=65535)(h:0<=b->b<16->Pure prog GG f [x,.int .i64 b] (.int .u16 r)):
 Pure prog GG 317 [.fn f [x] [],.int .i64 b] (.int .i64 (if 0<=b/\b<16 then r else 0)):=by
 refine qDb qe func317 rfl (by kernel_rfl) ?_;by_cases c0:b<0
 . rw[if_neg (by omega)];simp[c0]
 by_cases c1:16<=b
 . rw[if_neg (by omega)];simp[c0,c1]
 rw[if_pos (by omega)];simp[c0,c1];refine qCW (h (by omega) (by omega)) (by simp[hx]) ?_
 try simp
 refine qCW (JF r h0 h1) rfl ?_;simp
def qe5(a c):qM (qM a*c)=qM (a*c):=by
 unfold qM;rw[qCE,Int.emod_emod_of_dvd _ (Int.dvd_refl _),<- qCE]
def qou(a b)(h0:0<=b)(h1:b<16):Pure prog GG 318 [.int .u16 (qM a),.int .i64 b] (.int .u16 (qM (a*2^b.toNat))):=by
 refine qDb qe func318 rfl (by kernel_rfl) ?_;simp[qmS,IntKind.bits,show min b.toNat 16=b.toNat by omega,show IntKind.u16.wrap (qM a*2^b.toNat)=qM (a*2^b.toNat) by rw[qgJ];exact qe5 a _,show ¬b<0 by omega]
def qot(a b)(h0:0<=b)(h1:b<16):Pure prog GG 319 [.int .u16 (qM a),.int .i64 b] (.int .u16 (qM a/2^b.toNat)):=by
 refine qDb qe func319 rfl (by kernel_rfl) ?_;have hp:(0:Int)<2^b.toNat:=qCm (by omega);simp[qmS,IntKind.bits,show min b.toNat 16=b.toNat by omega,show(qM a).fdiv (2^b.toNat)=qM a/2^b.toNat from qz7 _ (by omega),show ¬b<0 by omega]
def qr7(a b):Pure prog GG 283 [.int .i64 a,.int .i64 b] (.int .i64 (qvB a b)):=by
 refine qDb qe func283 rfl (by kernel_rfl) ?_
 try simp
 refine qCW (KE a) rfl ?_
 try simp
 refine qCW (qdV (by simp) (qF _).1 (qF _).2 (qou a b)) rfl ?_;simp[qvB]
def qr6(a b):Pure prog GG 284 [.int .i64 a,.int .i64 b] (.int .i64 (qvz a b)):=by
 refine qDb qe func284 rfl (by kernel_rfl) ?_;have hr:=qaJ b.toNat (qF a).1 (qF a).2
 try simp
 refine qCW (KE a) rfl ?_
 try simp
 refine qCW (qdV (by simp) hr.1 hr.2 (qot a b)) rfl ?_;simp[qvz]
def qvt:List UInt8:=(List.range 256).map fun i=>UInt8.ofNat (kw i 8)
def qdF{i}(h:i<256):qvt[i]?=some (UInt8.ofNat (kw i 8)):=by simp[qvt,h]
def qec(a):∀i,i<=8->kw (a%256) i=kw a i
 |0,_=>rfl
 | i+1,h=>by
  have h1:(a%256).testBit i=a.testBit i:=by
   rw[show 256=2^8 by decide,qBG];simp;omega
  simp only[kw,qec a i (by omega),h1]
def qed(a):∀i,kw a (8+i)=kw a 8+kw (a/256) i
 |0=>by simp[kw]
 | i+1=>by
  have h1:(a/256).testBit i=a.testBit (8+i):=by
   rw[show 256=2^8 by decide,qCi,qAt]
  show kw a (8+i+1)=_;simp only[kw,qed a i,h1];omega
def qly(a):kw a 16=kw (a/256) 8+kw (a%256) 8:=by
 rw[qec a 8 (qyQ _),show 16=8+8 by rfl,qed];omega
def qxC:([0,1,1,2,1,2,2,3,1,2,2,3,2,3,3,4,1,2,2,3,2,3,3,4,2,3,3,4,3,4,4,5,1,2,2,3,2,3,3,4,2,3,3,4,3,4,4,5,2,3,3,4,3,4,4,5,3,4,4,5,4,5,5,6,1,2,2,3,2,3,3,4,2,3,3,4,3,4,4,5,2,3,3,4,3,4,4,5,3,4,4,5,4,5,5,6,2,3,3,4,3,4,4,5,3,4,4,5,4,5,5,6,3,4,4,5,4,5,5,6,4,5,5,6,5,6,6,7,1,2,2,3,2,3,3,4,2,3,3,4,3,4,4,5,2,3,3,4,3,4,4,5,3,4,4,5,4,5,5,6,2,3,3,4,3,4,4,5,3,4,4,5,4,5,5,6,3,4,4,5,4,5,5,6,4,5,5,6,5,6,6,7,2,3,3,4,3,4,4,5,3,4,4,5,4,5,5,6,3,4,4,5,4,5,5,6,4,5,5,6,5,6,6,7,3,4,4,5,4,5,5,6,4,5,5,6,5,6,6,7,4,5,5,6,5,6,6,7,5,6,6,7,6,7,7,8]:List UInt8)=qvt:=by decide +kernel
def qpx(a)(h0:0<=a)(h1:a<=65535):Pure prog GG 314 [.int .u16 a] (.int .i64 (kw a.toNat 16)):=by
 refine qDb qe func314 rfl (by kernel_rfl) ?_;obtain⟨n,rfl⟩:=qzg h0;have e1:qmS (Dof prog) .shr 305 (.int .u16 (n:Int)) (.int .u64 8)=some (.int .u16 ((n/256:Nat):Int)):=by
  have e:(n:Int).fdiv (2^(min 8 IntKind.u16.bits))=((n/256:Nat):Int):=by
   show(n:Int).fdiv 256=_;rw[qz7 _ (by omega)];omega
  show some (AV.int .u16 ((n:Int).fdiv (2^(min 8 IntKind.u16.bits))))=_;rw[e]
 have e2:qmS (Dof prog) .and 305 (.int .u16 (n:Int)) (.int .u16 255)=some (.int .u16 ((n%256:Nat):Int)):=by
  have e:((BitVec.ofInt 16 (n:Int) &&& 255#16).toNat:Int)=((n%256:Nat):Int):=by
   rw[BitVec.toNat_and,BitVec.toNat_ofInt];have e:(255#16).toNat=2^8-1:=(by decide);rw[e,qAp];omega
  show some (AV.int .u16 (IntKind.u16.wrap ((BitVec.ofInt 16 (n:Int) &&& 255#16).toNat:Int)))=_;rw[e,qu7 (by omega) (by omega)]
 have g1:=qdF (i:=n/256) (by omega);have g2:=qdF (i:=n%256) (by omega);have l1:=JN (n/256) 8;have l2:=JN (n%256) 8;have e4:=qly n;have u:∀x y:Nat,x<=8->y<=8->IntKind.u8.wrap (((x:Int)%256)+((y:Int)%256))=(x:Int)+y/\IntKind.i64.wrap ((x:Int)+y)=x+y:=by
  intro x y hx hy;refine⟨?_,wr (by omega) (by omega)⟩;simp[IntKind.wrap,IntKind.bits,IntKind.signed];omega
 obtain⟨w1,w2⟩:=u _ _ l1 l2;rw[qzt,e4];generalize n/256=p at *;generalize n%256=q at *;simp[e1,e2,qxC,g1,g2,-qmS,-qu];simp[w1,w2,yS]
def qpy(a):Pure prog GG 280 [.int .i64 a] (.int .i64 (kw (qM a).toNat 16)):=by
 refine qDb qe func280 rfl (by kernel_rfl) ?_
 try simp
 refine qCW (KE a) rfl ?_
 try simp
 refine qCW (qpx (qM a) (qF a).1 (qF a).2) rfl ?_;simp
def qjJ(a b:Int):(a==b)=decide (a=b):=by
 by_cases h:a=b
 . subst h;simp
 rw[decide_eq_false h];exact beq_eq_false_iff_ne.2 h
def VO(a b:Int):(a != b) = !decide (a=b):=by rw[bne,qjJ]
def j8(b):Pure prog GG 277 [.bool b] (.int .i64 (b2i b)):=by
 refine qDb qe func277 rfl (by kernel_rfl) ?_;cases b<;>simp[b2i]
def qqJ(a b:Int):b2i (a==b)=b2i (decide (a=b)):=by
 have e:(a==b)=decide (a=b):=by
  by_cases h:a=b
  . subst h;simp
  rw[decide_eq_false h];exact beq_eq_false_iff_ne.2 h
 rw[e]
def qhv(op a):Pure prog GG 221 [.int .i64 op,.int .i64 a] (.int .i64 (unW op a)):=by
 refine qDb qe func221 rfl (by kernel_rfl) ?_;by_cases h4:op=4
 . subst h4;simp;refine qCW (j8 _) rfl ?_;simp[unW,qqJ]
 by_cases h5:op=5
 . subst h5;simp;refine qCW (qsP a) rfl ?_;simp[unW]
 by_cases h6:op=6
 . subst h6;simp;refine qCW (qsx a) rfl ?_;simp[unW]
 simp[h4,h5,h6];refine qCW (qpy a) rfl ?_;simp[unW,h4,h5,h6]
def qpK{x y:Nat}(hx:x<65536)(hy:y<65536):qu .and .i64 (x:Int) (y:Int)=some (.int .i64 ((x &&& y:Nat):Int)):=by
 have h:=Nat.and_lt_two_pow (n:=16) x (y:=y) (by omega);have e1:(BitVec.ofInt IntKind.i64.bits (x:Int)).toNat=x:=by
  show(BitVec.ofInt 64 (x:Int)).toNat=x;rw[BitVec.toNat_ofInt];omega
 have e2:(BitVec.ofInt IntKind.i64.bits (y:Int)).toNat=y:=by
  show(BitVec.ofInt 64 (y:Int)).toNat=y;rw[BitVec.toNat_ofInt];omega
 show some (AV.int .i64 (IntKind.i64.wrap ((BitVec.ofInt IntKind.i64.bits (x:Int) &&& BitVec.ofInt IntKind.i64.bits (y:Int)).toNat:Int)))=_;rw[BitVec.toNat_and,e1,e2,wr (by omega) (by omega)]
def qsy{x y:Nat}(hx:x<65536)(hy:y<65536):qu .or .i64 (x:Int) (y:Int)=some (.int .i64 ((x ||| y:Nat):Int)):=by
 have h:=Nat.or_lt_two_pow (n:=16) (x:=x) (y:=y) (by omega) (by omega);have e1:(BitVec.ofInt IntKind.i64.bits (x:Int)).toNat=x:=by
  show(BitVec.ofInt 64 (x:Int)).toNat=x;rw[BitVec.toNat_ofInt];omega
 have e2:(BitVec.ofInt IntKind.i64.bits (y:Int)).toNat=y:=by
  show(BitVec.ofInt 64 (y:Int)).toNat=y;rw[BitVec.toNat_ofInt];omega
 show some (AV.int .i64 (IntKind.i64.wrap ((BitVec.ofInt IntKind.i64.bits (x:Int) ||| BitVec.ofInt IntKind.i64.bits (y:Int)).toNat:Int)))=_;rw[BitVec.toNat_or,e1,e2,wr (by omega) (by omega)]
def qpJ{x y:Nat}(hx:x<65536)(hy:y<65536):qu .xor .i64 (x:Int) (y:Int)=some (.int .i64 ((x ^^^ y:Nat):Int)):=by
 have h:=Nat.xor_lt_two_pow (n:=16) (x:=x) (y:=y) (by omega) (by omega);have e1:(BitVec.ofInt IntKind.i64.bits (x:Int)).toNat=x:=by
  show(BitVec.ofInt 64 (x:Int)).toNat=x;rw[BitVec.toNat_ofInt];omega
 have e2:(BitVec.ofInt IntKind.i64.bits (y:Int)).toNat=y:=by
  show(BitVec.ofInt 64 (y:Int)).toNat=y;rw[BitVec.toNat_ofInt];omega
 show some (AV.int .i64 (IntKind.i64.wrap ((BitVec.ofInt IntKind.i64.bits (x:Int) ^^^ BitVec.ofInt IntKind.i64.bits (y:Int)).toNat:Int)))=_;rw[BitVec.toNat_xor,e1,e2,wr (by omega) (by omega)]
