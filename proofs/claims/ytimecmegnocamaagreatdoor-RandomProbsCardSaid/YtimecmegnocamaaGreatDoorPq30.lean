import Derived.Test.YtimecmegnocamaaGreatDoorPq11
set_option maxRecDepth 100000
set_option linter.all false
set_option linter.defProp false
namespace Go.Proofs.YtimecmegnocamaaGreatDoor
open Go Go.Abs Tryz
def qpb(n):((BitVec.ofInt 64 n &&& 65535#64).toNat:Int)=n%65536:=by
 rw[BitVec.toNat_and,BitVec.toNat_ofInt];rw[show(65535#64).toNat=2^16-1 by decide,qDb];omega
def qxI{n}(h0:0<=n)(h1:n<=65535):IntKind.u16.wrap n=n:=by
 simp[IntKind.wrap,IntKind.bits,IntKind.signed];omega
def qiO(n):IntKind.u16.wrap n=n%65536:=by
 simp[IntKind.wrap,IntKind.bits,IntKind.signed]
def qv7(n):zz .and .i64 n 65535=some (.int .i64 (qy n)):=by
 have h2:=qpb n;have h5:n%65536=qy n:=rfl;show some (AV.int .i64 (IntKind.i64.wrap ((BitVec.ofInt 64 n &&& 65535#64).toNat:Int)))=_;rw[h2,h5,wr (by omega) (by omega)]
def WW(n):Pure prog GG 323 [.int .i64 n] (.int .u16 (qy n)):=by
 refine qFP qg func323 rfl (by kernel_rfl) ?_;have h1:=qx n;simp[-zz,qv7,wK,qxI h1.1 h1.2]
def Ys(n)(h0:0<=n)(h1:n<=65535):Pure prog GG 324 [.int .u16 n] (.int .i64 n):=by
 refine qFP qg func324 rfl (by kernel_rfl) ?_;simp[wK,show IntKind.i64.wrap n=n from wr (by omega) (by omega)]
def qqF(n):Pure prog GG 286 [.int .i64 n] (.int .i64 (qy n)):=by
 refine qFP qg func286 rfl (by kernel_rfl) ?_
 try simp
 refine qFz (WW n) rfl ?_
 try simp
 refine qFz (Ys (qy n) (qx n).1 (qx n).2) rfl ?_;simp
def qjf{f x b r}(hx:qO x=true)(h0:0<=r)(h1:r<=65535)(h:Pure prog GG f [x,.int .u16 (qy b)] (.int .u16 r)):Pure prog GG 325 [.fn f [x] [],.int .i64 b] (.int .i64 r):=by
 refine qFP qg func325 rfl (by kernel_rfl) ?_
 try simp
 refine qFz (WW b) rfl ?_
 try simp
 refine qFz h (by simp[hx]) ?_
 try simp
 refine qFz (Ys r h0 h1) rfl ?_;simp
def qpN{f x r}(hx:qO x=true)(h0:0<=r)(h1:r<=65535)(h:Pure prog GG f [x] (.int .u16 r)):Pure prog GG 357 [.fn f [x] []] (.int .i64 r):=by
 refine qFP qg func357 rfl (by kernel_rfl) ?_
 try simp
 refine qFz h (by simp[hx]) ?_
 try simp
 refine qFz (Ys r h0 h1) rfl ?_;simp
def qqM(a b):Pure prog GG 326 [.int .u16 (qy a),.int .u16 (qy b)] (.int .u16 (qy (a+b))):=by
 refine qFP qg func326 rfl (by kernel_rfl) ?_;simp[zz,show IntKind.u16.wrap (qy a+qy b)=qy (a+b) by rw[qiO];unfold qy;omega]
def qqC(a b):Pure prog GG 361 [.int .u16 (qy a),.int .u16 (qy b)] (.int .u16 (qy (a-b))):=by
 refine qFP qg func361 rfl (by kernel_rfl) ?_;simp[zz,show IntKind.u16.wrap (qy a-qy b)=qy (a-b) by rw[qiO];unfold qy;omega]
def qbz(a b):qy (qy a*qy b)=qy (a*b):=by
 unfold qy;rw[<- qFf]
def qqJ(a b):Pure prog GG 362 [.int .u16 (qy a),.int .u16 (qy b)] (.int .u16 (qy (a*b))):=by
 refine qFP qg func362 rfl (by kernel_rfl) ?_;simp[zz,show IntKind.u16.wrap (qy a*qy b)=qy (a*b) by rw[qiO];exact qbz a b]
def qqI(a):Pure prog GG 359 [.int .u16 (qy a)] (.int .u16 (qy (0-a))):=by
 refine qFP qg func359 rfl (by kernel_rfl) ?_;have h:IntKind.u16.wrap (0-qy a)=qy (0-a):=by rw[qiO];unfold qy;omega
 simp at h⊢;simp[unA,h]
def qmr{n}(h0:0<=n)(h1:n<=65535):(((BitVec.ofInt 16 65535) ^^^ (BitVec.ofInt 16 n)).toNat:Int)=65535-n:=by
 rw[show BitVec.ofInt 16 65535=BitVec.allOnes 16 by decide,BitVec.allOnes_xor,BitVec.toNat_not,BitVec.toNat_ofInt];omega
def qqK(a):Pure prog GG 358 [.int .u16 (qy a)] (.int .u16 (65535-qy a)):=by
 refine qFP qg func358 rfl (by kernel_rfl) ?_;have hr:=qx a;have h:=qmr hr.1 hr.2;have h4:unA .xor (.int .u16 (qy a))=some (.int .u16 (65535-qy a)):=by
  unfold unA;simp only[];rw[show(if IntKind.u16.signed=true then(-1:Int) else IntKind.u16.max)=65535 by decide];show some (AV.int .u16 (IntKind.u16.wrap (((BitVec.ofInt 16 65535) ^^^ (BitVec.ofInt 16 (qy a))).toNat:Int)))=_;rw[h,show IntKind.u16.wrap (65535-qy a)=65535-qy a from qxI (by omega) (by omega)]
 simp[-unA,h4]
def qqq(a b):Pure prog GG 287 [.int .i64 a,.int .i64 b] (.int .i64 (qy (a+b))):=by
 refine qFP qg func287 rfl (by kernel_rfl) ?_
 try simp
 refine qFz (WW a) rfl ?_
 try simp
 refine qFz (qjf (by simp) (qx _).1 (qx _).2 (qqM a b)) rfl ?_;simp
def quk(a b):Pure prog GG 331 [.int .i64 a,.int .i64 b] (.int .i64 (qy (a-b))):=by
 refine qFP qg func331 rfl (by kernel_rfl) ?_
 try simp
 refine qFz (WW a) rfl ?_
 try simp
 refine qFz (qjf (by simp) (qx _).1 (qx _).2 (qqC a b)) rfl ?_;simp
def qu1(a b):Pure prog GG 332 [.int .i64 a,.int .i64 b] (.int .i64 (qy (a*b))):=by
 refine qFP qg func332 rfl (by kernel_rfl) ?_
 try simp
 refine qFz (WW a) rfl ?_
 try simp
 refine qFz (qjf (by simp) (qx _).1 (qx _).2 (qqJ a b)) rfl ?_;simp
def qvg(a):Pure prog GG 328 [.int .i64 a] (.int .i64 (65535-qy a)):=by
 refine qFP qg func328 rfl (by kernel_rfl) ?_;have hr:=qx a
 try simp
 refine qFz (WW a) rfl ?_
 try simp
 refine qFz (qpN (by simp) (by omega) (by omega) (qqK a)) rfl ?_;simp
def quX(a):Pure prog GG 329 [.int .i64 a] (.int .i64 (qy (0-a))):=by
 refine qFP qg func329 rfl (by kernel_rfl) ?_
 try simp
 refine qFz (WW a) rfl ?_
 try simp
 refine qFz (qpN (by simp) (qx _).1 (qx _).2 (qqI a)) rfl ?_;simp
def qtw(a b:Int):Int:=if 0<=b/\b<16 then qy (a*2^b.toNat) else 0
def qpx(a b:Int):Int:=if 0<=b/\b<16 then qy a/2^b.toNat else 0
def qfB{f x b r}(hx:qO x=true)(h0:0<=r)(h1:r<=65535)(h:0<=b->b<16->Pure prog GG f [x,.int .i64 b] (.int .u16 r)):
 Pure prog GG 363 [.fn f [x] [],.int .i64 b] (.int .i64 (if 0<=b/\b<16 then r else 0)):=by
 refine qFP qg func363 rfl (by kernel_rfl) ?_;by_cases c0:b<0
 . rw[if_neg (by omega)];simp[c0]
 by_cases c1:16<=b
 . rw[if_neg (by omega)];simp[*]
 rw[if_pos (by omega)];simp[*];refine qFz (h (by omega) (by omega)) (by simp[hx]) ?_
 try simp
 refine qFz (Ys r h0 h1) rfl ?_;simp
def W5(a c):qy (qy a*c)=qy (a*c):=by
 unfold qy;rw[qFf,Int.emod_emod_of_dvd _ (Int.dvd_refl _),<- qFf]
def qqE(a b)(h0:0<=b)(h1:b<16):Pure prog GG 364 [.int .u16 (qy a),.int .i64 b] (.int .u16 (qy (a*2^b.toNat))):=by
 refine qFP qg func364 rfl (by kernel_rfl) ?_;simp[qoY,IntKind.bits,show min b.toNat 16=b.toNat by omega,show IntKind.u16.wrap (qy a*2^b.toNat)=qy (a*2^b.toNat) by rw[qiO];exact W5 a _,show ¬b<0 by omega]
def qqD(a b)(h0:0<=b)(h1:b<16):Pure prog GG 365 [.int .u16 (qy a),.int .i64 b] (.int .u16 (qy a/2^b.toNat)):=by
 refine qFP qg func365 rfl (by kernel_rfl) ?_;have hp:(0:Int)<2^b.toNat:=qET (by omega);simp[qoY,IntKind.bits,show min b.toNat 16=b.toNat by omega,show(qy a).fdiv (2^b.toNat)=qy a/2^b.toNat from qDm _ (by omega),show ¬b<0 by omega]
def quu(a b):Pure prog GG 333 [.int .i64 a,.int .i64 b] (.int .i64 (qtw a b)):=by
 refine qFP qg func333 rfl (by kernel_rfl) ?_
 try simp
 refine qFz (WW a) rfl ?_
 try simp
 refine qFz (qfB (by simp) (qx _).1 (qx _).2 (qqE a b)) rfl ?_;simp[qtw]
def qut(a b):Pure prog GG 334 [.int .i64 a,.int .i64 b] (.int .i64 (qpx a b)):=by
 refine qFP qg func334 rfl (by kernel_rfl) ?_;have hr:=Kf b.toNat (qx a).1 (qx a).2
 try simp
 refine qFz (WW a) rfl ?_
 try simp
 refine qFz (qfB (by simp) hr.1 hr.2 (qqD a b)) rfl ?_;simp[qpx]
def qxY:List UInt8:=(List.range 256).map fun i=>UInt8.ofNat (yR i 8)
def qfq{i}(h:i<256):qxY[i]?=some (UInt8.ofNat (yR i 8)):=by simp[qxY,h]
def qf0(a):∀i,i<=8->yR (a%256) i=yR a i
 |0,_=>rfl
 | i+1,h=>by
  have h1:(a%256).testBit i=a.testBit i:=by
   rw[show 256=2^8 by decide,qD2];simp;omega
  simp only[yR,qf0 a i (by omega),h1]
def qf1(a):∀i,yR a (8+i)=yR a 8+yR (a/256) i
 |0=>by simp[yR]
 | i+1=>by
  have h1:(a/256).testBit i=a.testBit (8+i):=by
   rw[show 256=2^8 by decide,qEQ,qCX]
  show yR a (8+i+1)=_;simp only[yR,qf1 a i,h1];omega
def qnI(a):yR a 16=yR (a/256) 8+yR (a%256) 8:=by
 rw[qf0 a 8 (qA5 _),show 16=8+8 by rfl,qf1];omega
def qzS:([0,1,1,2,1,2,2,3,1,2,2,3,2,3,3,4,1,2,2,3,2,3,3,4,2,3,3,4,3,4,4,5,1,2,2,3,2,3,3,4,2,3,3,4,3,4,4,5,2,3,3,4,3,4,4,5,3,4,4,5,4,5,5,6,1,2,2,3,2,3,3,4,2,3,3,4,3,4,4,5,2,3,3,4,3,4,4,5,3,4,4,5,4,5,5,6,2,3,3,4,3,4,4,5,3,4,4,5,4,5,5,6,3,4,4,5,4,5,5,6,4,5,5,6,5,6,6,7,1,2,2,3,2,3,3,4,2,3,3,4,3,4,4,5,2,3,3,4,3,4,4,5,3,4,4,5,4,5,5,6,2,3,3,4,3,4,4,5,3,4,4,5,4,5,5,6,3,4,4,5,4,5,5,6,4,5,5,6,5,6,6,7,2,3,3,4,3,4,4,5,3,4,4,5,4,5,5,6,3,4,4,5,4,5,5,6,4,5,5,6,5,6,6,7,3,4,4,5,4,5,5,6,4,5,5,6,5,6,6,7,4,5,5,6,5,6,6,7,5,6,6,7,6,7,7,8]:List UInt8)=qxY:=by decide +kernel
def qrO(a)(h0:0<=a)(h1:a<=65535):Pure prog GG 360 [.int .u16 a] (.int .i64 (yR a.toNat 16)):=by
 refine qFP qg func360 rfl (by kernel_rfl) ?_;obtain⟨n,rfl⟩:=qBe h0;have e1:qoY (Dof prog) .shr 326 (.int .u16 (n:Int)) (.int .u64 8)=some (.int .u16 ((n/256:Nat):Int)):=by
  have e:(n:Int).fdiv (2^(min 8 IntKind.u16.bits))=((n/256:Nat):Int):=by
   show(n:Int).fdiv 256=_;rw[qDm _ (by omega)];omega
  show some (AV.int .u16 ((n:Int).fdiv (2^(min 8 IntKind.u16.bits))))=_;rw[e]
 have e2:qoY (Dof prog) .and 326 (.int .u16 (n:Int)) (.int .u16 255)=some (.int .u16 ((n%256:Nat):Int)):=by
  have e:((BitVec.ofInt 16 (n:Int) &&& 255#16).toNat:Int)=((n%256:Nat):Int):=by
   rw[BitVec.toNat_and,BitVec.toNat_ofInt];have e:(255#16).toNat=2^8-1:=(by decide);rw[e,qDb];omega
  show some (AV.int .u16 (IntKind.u16.wrap ((BitVec.ofInt 16 (n:Int) &&& 255#16).toNat:Int)))=_;rw[e,qxI (by omega) (by omega)]
 have g1:=qfq (i:=n/256) (by omega);have g2:=qfq (i:=n%256) (by omega);have l1:=ZQ (n/256) 8;have l2:=ZQ (n%256) 8;have e4:=qnI n;have u:∀x y:Nat,x<=8->y<=8->IntKind.u8.wrap (((x:Int)%256)+((y:Int)%256))=(x:Int)+y/\IntKind.i64.wrap ((x:Int)+y)=x+y:=by
  intro x y hx hy;refine⟨?_,wr (by omega) (by omega)⟩;simp[IntKind.wrap,IntKind.bits,IntKind.signed];omega
 obtain⟨w1,w2⟩:=u _ _ l1 l2;rw[qBu,e4];generalize n/256=p at *;generalize n%256=q at *;simp[*,qzS,-qoY,-zz];simp[*,wK]
def qrP(a):Pure prog GG 330 [.int .i64 a] (.int .i64 (yR (qy a).toNat 16)):=by
 refine qFP qg func330 rfl (by kernel_rfl) ?_
 try simp
 refine qFz (WW a) rfl ?_
 try simp
 refine qFz (qrO (qy a) (qx a).1 (qx a).2) rfl ?_;simp
def qhk(n):n.tmod 65536=if 0<=n then n%65536 else -((-n)%65536):=by
 split
 . rename_i h;exact qCf h
 rename_i h;rw[show n.tmod 65536 = -((-n).tmod 65536) by rw[Int.neg_tmod];omega,qCf (by omega)]
def qej{n}(h:n<=16):(2:Int)^n<=65536/\(0:Int)<2^n:=by
 have h1:=qBn (n:=2) (by decide) h;have h2:=qEV (n:=n) (show 0<2 by decide);rw[show(2:Int)^n=((2^n:Nat):Int) by simp];omega
def jt(n):Pure prog GG 366 [.int .i64 n] (.int .i64 (qy n)):=by
 refine qFP qg func366 rfl (by kernel_rfl) ?_;have ht:=qhk n;by_cases h:n.tmod 65536<0
 . have hn:¬0<=n:=fun hn=>by rw[if_pos hn]at ht;omega
   rw[if_neg hn]at ht;have h1:IntKind.i64.wrap (n.tmod 65536+65535)=n.tmod 65536+65535:=wr (by omega) (by omega);have h2:IntKind.i64.wrap (n.tmod 65536+65535+1)=qy n:=by
    rw[wr (by omega) (by omega)];unfold qy;omega
   simp[h,h1,h2]
   try rw[<- h1,h2]
 have h2:n.tmod 65536=qy n:=by
  unfold qy;split at ht<;>omega
 simp[zz,h];exact h2
def qjS(a b):Pure prog GG 339 [.int .i64 a,.int .i64 b] (.int .i64 (qy (a+b))):=by
 refine qFP qg func339 rfl (by kernel_rfl) ?_;have ha:=qx a;have hb:=qx b
 try simp
 refine qFz (jt a) rfl ?_
 try simp
 refine qFz (jt b) rfl ?_;simp[show IntKind.i64.wrap (qy a+qy b)=qy a+qy b from wr (by omega) (by omega)];refine qFz (jt _) rfl ?_;simp[show qy (qy a+qy b)=qy (a+b) by unfold qy;omega]
def qrj(a b):Pure prog GG 372 [.int .i64 a,.int .i64 b] (.int .i64 (qy (a-b))):=by
 refine qFP qg func372 rfl (by kernel_rfl) ?_;have ha:=qx a;have hb:=qx b
 try simp
 refine qFz (jt a) rfl ?_
 try simp
 refine qFz (jt b) rfl ?_;simp[show IntKind.i64.wrap (qy a-qy b)=qy a-qy b from wr (by omega) (by omega)];refine qFz (jt _) rfl ?_;simp[show qy (qy a-qy b)=qy (a-b) by unfold qy;omega]
def qcz{a b c d:Int}(ha0:0<=a)(ha1:a<=c)(hb0:0<=b)(hb1:b<=d):0<=a*b/\a*b<=c*d :=
 ⟨qE9 ha0 hb0,Int.mul_le_mul ha1 hb1 hb0 (by omega)⟩
def qrn(a b):Pure prog GG 373 [.int .i64 a,.int .i64 b] (.int .i64 (qy (a*b))):=by
 refine qFP qg func373 rfl (by kernel_rfl) ?_;have ha:=qx a;have hb:=qx b;have hm:=qcz ha.1 ha.2 hb.1 hb.2;have h2:=qbz a b
 try simp
 refine qFz (jt a) rfl ?_
 try simp
 refine qFz (jt b) rfl ?_;simp[show IntKind.i64.wrap (qy a*qy b)=qy a*qy b from wr (by omega) (by omega)];refine qFz (jt _) rfl ?_;simp[h2]
def qrp(a):Pure prog GG 369 [.int .i64 a] (.int .i64 (65535-qy a)):=by
 refine qFP qg func369 rfl (by kernel_rfl) ?_;have ha:=qx a
 try simp
 refine qFz (jt a) rfl ?_;simp[show IntKind.i64.wrap (65535-qy a)=65535-qy a from wr (by omega) (by omega)]
def qrl(a):Pure prog GG 370 [.int .i64 a] (.int .i64 (qy (0-a))):=by
 refine qFP qg func370 rfl (by kernel_rfl) ?_;have ha:=qx a
 try simp
 refine qFz (jt a) rfl ?_;simp[show IntKind.i64.wrap (-qy a) = -qy a from wr (by omega) (by omega)];refine qFz (jt _) rfl ?_;simp[show qy (-qy a)=qy (-a) by unfold qy;omega]
def qcd(n:Nat)(hn:n<=16):Pure prog GG 392 [.int .i64 n] (.int .i64 (2^n)):=by
 refine qFP qg func392 rfl (by kernel_rfl) ?_;simp;refine qFM (fun q env U=>∃i:Nat,i<=n/\q=n-i/\env 0=.int .i64 n/\env 3=.int .i64 (2^i)/\env 4=.int .i64 i/\U=⟨[],[]⟩) n ⟨0,by simp⟩ ?_;rintro q env U ⟨i,hi,rfl,h0,h3,h4,rfl⟩;by_cases hc:i<n
 . have hc':(i:Int)<n:=(by omega);obtain⟨hp,hp0⟩:=qej (n:=i) (by omega);simp[*];exact⟨_,by omega,i+1,by omega,rfl,(by rw[wr (by omega) (by omega),Int.pow_succ];omega),wr (by omega) (by omega)⟩
 have hi':i=n:=by omega
 subst hi';simp[*]
def qrk(a b):Pure prog GG 377 [.int .i64 a,.int .i64 b] (.int .i64 (qtw a b)):=by
 refine qFP qg func377 rfl (by kernel_rfl) ?_;unfold qtw;by_cases c0:b<0
 . rw[if_neg (by omega)];simp[c0]
 by_cases c1:15<b
 . rw[if_neg (by omega)];simp[*]
 rw[if_pos (by omega)];obtain⟨n,rfl⟩:=qBe (show 0<=b by omega);have ha:=qx a;obtain⟨hp,hp0⟩:=qej (n:=n) (by omega);have hm:=qcz ha.1 ha.2 (Int.le_of_lt hp0) hp;have h2:=W5 a (2^n);simp[c1,show ¬(n:Int)<0 by omega];refine qFz (jt a) rfl ?_
 try simp
 refine qFz (qcd n (by omega)) rfl ?_;simp[show IntKind.i64.wrap (qy a*2^n)=qy a*2^n from wr (by omega) (by omega)];refine qFz (jt _) rfl ?_;simp[h2]
def qjF(a b):Pure prog GG 378 [.int .i64 a,.int .i64 b] (.int .i64 (qpx a b)):=by
 refine qFP qg func378 rfl (by kernel_rfl) ?_;unfold qpx;by_cases c0:b<0
 . rw[if_neg (by omega)];simp[c0]
 by_cases c1:15<b
 . rw[if_neg (by omega)];simp[*]
 rw[if_pos (by omega)];obtain⟨n,rfl⟩:=qBe (show 0<=b by omega);have ha:=qx a;obtain⟨hp,hp0⟩:=qej (n:=n) (by omega);have hr:=Kf n ha.1 ha.2;simp[c1,show ¬(n:Int)<0 by omega];refine qFz (jt a) rfl ?_
 try simp
 refine qFz (qcd n (by omega)) rfl ?_;simp[qBT ha.1,show IntKind.i64.wrap (qy a/2^n)=qy a/2^n from wr (by omega) (by omega),show ¬((2:Int)^n=0) by omega]
def qqk(a n):(a/2^n)%2=if a.testBit n=true then 1 else 0:=by
 rw[qD9];have:=qEA (a/2^n);rcases this with h|h<;>simp[h]
def qjO(a:Int)(n:Nat)(hn:n<16):Pure prog GG 390 [.int .i64 a,.int .i64 n] (.int .i64 (if(qy a).toNat.testBit n=true then 1 else 0)):=by
 refine qFP qg func390 rfl (by kernel_rfl) ?_
 try simp
 refine qFz (qjF a n) rfl ?_;have ha:=qx a;have he:(qy a/2^n).tmod 2=(if(qy a).toNat.testBit n=true then 1 else 0):=by
  obtain⟨m,hm⟩:=qBe ha.1;rw[hm];have hb:=qqk m n;have e3:∀q:Nat,(q:Int).tmod 2=((q%2:Nat):Int):=fun q=>by
   rw[qCf (by omega)];omega
  rw[show((m:Int)/2^n)=((m/2^n:Nat):Int) by simp,e3,qBu,hb];split<;>rfl
 rw[show qpx a n=qy a/2^n by unfold qpx;rw[if_pos (by omega)];simp];simp[he]
def qm5(a):Pure prog GG 371 [.int .i64 a] (.int .i64 (yR (qy a).toNat 16)):=by
 refine qFP qg func371 rfl (by kernel_rfl) ?_;simp;refine qFM (fun q env U=>∃i:Nat,i<=16/\q=16-i/\env 0=.int .i64 a/\env 3=.int .i64 (yR (qy a).toNat i)/\env 4=.int .i64 i/\U=⟨[],[]⟩) 16 ⟨0,by simp[yR]⟩ ?_;rintro q env U ⟨i,hi,rfl,h0,h3,h4,rfl⟩;by_cases hc:i<16
 . have hc':(i:Int)<16:=(by omega);have hle:=ZQ (qy a).toNat i;simp[*];refine qFz (qjO a i hc) rfl ?_;have hw:IntKind.i64.wrap ((yR (qy a).toNat i:Int)+(if(qy a).toNat.testBit i=true then 1 else 0))=(yR (qy a).toNat (i+1):Int):=by
    rw[wr (by split<;>omega) (by split<;>omega)];simp only[yR];split<;>simp
   simp[hw];exact⟨_,by omega,i+1,by omega,rfl,rfl,wr (by omega) (by omega)⟩
 have hi':i=16:=by omega
 subst hi';simp[*]
def qeY(a b:Int):(a==b)=decide (a=b):=by
 by_cases h:a=b
 . subst h;simp
 rw[decide_eq_false h];exact beq_eq_false_iff_ne.2 h
def Qy(a b:Int):(a != b) = !decide (a=b):=by rw[bne,qeY]
def yG(b):Pure prog GG 327 [.bool b] (.int .i64 (b2i b)):=by
 refine qFP qg func327 rfl (by kernel_rfl) ?_;cases b<;>simp[b2i]
def j7(b):Pure prog GG 368 [.bool b] (.int .i64 (b2i b)):=by
 refine qFP qg func368 rfl (by kernel_rfl) ?_;cases b<;>simp[b2i]
def qlQ(a b:Int):b2i (a==b)=b2i (decide (a=b)):=by
 have e:(a==b)=decide (a=b):=by
  by_cases h:a=b
  . subst h;simp
  rw[decide_eq_false h];exact beq_eq_false_iff_ne.2 h
 rw[e]
def qjt(op a):Pure prog GG 288 [.int .i64 op,.int .i64 a] (.int .i64 (unW op a)):=by
 refine qFP qg func288 rfl (by kernel_rfl) ?_;by_cases h4:op=4
 . subst h4;simp;refine qFz (yG _) rfl ?_;simp[unW,qlQ]
 by_cases h5:op=5
 . subst h5;simp;refine qFz (qvg a) rfl ?_;simp[unW]
 by_cases h6:op=6
 . subst h6;simp;refine qFz (quX a) rfl ?_;simp[unW]
 simp[*];refine qFz (qrP a) rfl ?_;simp[*,unW]
def qjD(op a):Pure prog GG 340 [.int .i64 op,.int .i64 a] (.int .i64 (unW op a)):=by
 refine qFP qg func340 rfl (by kernel_rfl) ?_;by_cases h4:op=4
 . subst h4;simp;refine qFz (j7 _) rfl ?_;simp[unW,qlQ]
 by_cases h5:op=5
 . subst h5;simp;refine qFz (qrp a) rfl ?_;simp[unW]
 by_cases h6:op=6
 . subst h6;simp;refine qFz (qrl a) rfl ?_;simp[unW]
 simp[*];refine qFz (qm5 a) rfl ?_;simp[*,unW]
def qr1{x y:Nat}(hx:x<65536)(hy:y<65536):zz .and .i64 (x:Int) (y:Int)=some (.int .i64 ((x &&& y:Nat):Int)):=by
 have h:=qEv (n:=16) x (y:=y) (by omega);have e1:(BitVec.ofInt IntKind.i64.bits (x:Int)).toNat=x:=by
  show(BitVec.ofInt 64 (x:Int)).toNat=x;rw[BitVec.toNat_ofInt];omega
 have e2:(BitVec.ofInt IntKind.i64.bits (y:Int)).toNat=y:=by
  show(BitVec.ofInt 64 (y:Int)).toNat=y;rw[BitVec.toNat_ofInt];omega
 show some (AV.int .i64 (IntKind.i64.wrap ((BitVec.ofInt IntKind.i64.bits (x:Int) &&& BitVec.ofInt IntKind.i64.bits (y:Int)).toNat:Int)))=_;rw[BitVec.toNat_and,e1,e2,wr (by omega) (by omega)]
def quY{x y:Nat}(hx:x<65536)(hy:y<65536):zz .or .i64 (x:Int) (y:Int)=some (.int .i64 ((x ||| y:Nat):Int)):=by
 have h:=qEB (n:=16) (x:=x) (y:=y) (by omega) (by omega);have e1:(BitVec.ofInt IntKind.i64.bits (x:Int)).toNat=x:=by
  show(BitVec.ofInt 64 (x:Int)).toNat=x;rw[BitVec.toNat_ofInt];omega
 have e2:(BitVec.ofInt IntKind.i64.bits (y:Int)).toNat=y:=by
  show(BitVec.ofInt 64 (y:Int)).toNat=y;rw[BitVec.toNat_ofInt];omega
 show some (AV.int .i64 (IntKind.i64.wrap ((BitVec.ofInt IntKind.i64.bits (x:Int) ||| BitVec.ofInt IntKind.i64.bits (y:Int)).toNat:Int)))=_;rw[BitVec.toNat_or,e1,e2,wr (by omega) (by omega)]
def qr0{x y:Nat}(hx:x<65536)(hy:y<65536):zz .xor .i64 (x:Int) (y:Int)=some (.int .i64 ((x ^^^ y:Nat):Int)):=by
 have h:=qEw (n:=16) (x:=x) (y:=y) (by omega) (by omega);have e1:(BitVec.ofInt IntKind.i64.bits (x:Int)).toNat=x:=by
  show(BitVec.ofInt 64 (x:Int)).toNat=x;rw[BitVec.toNat_ofInt];omega
 have e2:(BitVec.ofInt IntKind.i64.bits (y:Int)).toNat=y:=by
  show(BitVec.ofInt 64 (y:Int)).toNat=y;rw[BitVec.toNat_ofInt];omega
 show some (AV.int .i64 (IntKind.i64.wrap ((BitVec.ofInt IntKind.i64.bits (x:Int) ^^^ BitVec.ofInt IntKind.i64.bits (y:Int)).toNat:Int)))=_;rw[BitVec.toNat_xor,e1,e2,wr (by omega) (by omega)]
def V6(x i:Nat):Int:=if x.testBit i=true then 1 else 0
def V5(x i):0<=V6 x i/\V6 x i<=1:=by unfold V6;split<;>omega
def qfH(x i:Nat)(hx:x<65536)(hi:i<16):Pure prog GG 390 [.int .i64 x,.int .i64 i] (.int .i64 (V6 x i)):=by
 have h:=qjO (x:Int) i hi;rw[QB (by omega) (by omega)]at h;simpa[V6] using h
def qaw(x y:Nat)(lo hi:Int)(X:Nat)(hx:x<65536)(hy:y<65536)(hX:X<65536)(h:∀i,i<16->X.testBit i=decide (lo<=V6 x i+V6 y i/\V6 x i+V6 y i<=hi)):
 Pure prog GG 391 [.int .i64 x,.int .i64 y,.int .i64 lo,.int .i64 hi] (.int .i64 X):=by
 refine qFP qg func391 rfl (by kernel_rfl) ?_;simp;refine qFM (fun q env U=>q<=16/\env 0=.int .i64 x/\env 1=.int .i64 y/\env 2=.int .i64 lo/\env 3=.int .i64 hi/\env 9=.int .i64 ((X/2^q:Nat):Int)/\env 10=.int .i64 ((q:Int)-1)/\U=⟨[],[]⟩) 16 ⟨by simp,by simp,by simp,by simp,by simp,by simp;omega,by simp⟩ ?_;rintro q env U ⟨hq,h0,h1,h2,h3,h9,h10,rfl⟩
 cases q with
 | zero=>
  simp at h9 h10;simp[*]
 | succ i=>
  have hi':i<16:=by omega
  rw[show((i+1:Nat):Int)-1=i by omega]at h10;have hbx:=V5 x i;have hby:=V5 y i;have hw:IntKind.i64.wrap (V6 x i+V6 y i)=V6 x i+V6 y i:=wr (by omega) (by omega);have hXb:=h i hi';have hd:X/2^i=2*(X/2^(i+1))+(if X.testBit i=true then 1 else 0):=by
   rw[<- qqk,qCi,<- Nat.div_div_eq_div_mul];omega
  have hle:X/2^i<=X:=qBQ _ _;have hw2:IntKind.i64.wrap (2*((X/2^(i+1):Nat):Int))=((2*(X/2^(i+1)):Nat):Int):=by
   rw[wr (by omega) (by omega)];omega
  have hwi:IntKind.i64.wrap ((i:Int)-1)=(i:Int)-1:=wr (by omega) (by omega);generalize X/2^(i+1)=A at h9 hd hw2;generalize hB:X/2^i=B at hd hle;have hXB:(X:Int)/2^i=(B:Int):=by rw[<- hB];simp
  simp[*];refine qFz (qfH x i hx hi') rfl ?_
  try simp[*]
  refine qFz (qfH y i hy hi') rfl ?_;by_cases c1:lo<=V6 x i+V6 y i
  . by_cases c2:V6 x i+V6 y i<=hi
    . rw[decide_eq_true (⟨c1,c2⟩:_/\_)]at hXb;rw[hXb]at hd;simp at hd;simp[*];exact⟨i,by omega,by omega,by rw[hXB,wr (by omega) (by omega)];omega,rfl⟩
    . rw[decide_eq_false (fun h=>c2 h.2)]at hXb;rw[hXb]at hd;simp at hd;simp[*];exact⟨i,by omega,by omega,by rw[hXB];omega,rfl⟩
  rw[decide_eq_false (fun h=>c1 h.1)]at hXb;rw[hXb]at hd;simp at hd;simp[*];exact⟨i,by omega,by omega,by rw[hXB];omega,rfl⟩
def qrt(x y:Nat)(hx:x<65536)(hy:y<65536):Pure prog GG 374 [.int .i64 x,.int .i64 y] (.int .i64 ((x &&& y:Nat):Int)):=by
 refine qFP qg func374 rfl (by kernel_rfl) ?_;simp;refine qFz (qaw x y 2 2 (x &&& y) hx hy (qEv (n:=16) x hy) fun i hi=>?_) rfl ?_
 . rw[Nat.testBit_and];unfold V6;cases x.testBit i<;>cases y.testBit i<;>rfl
 simp
def quA(x y:Nat)(hx:x<65536)(hy:y<65536):Pure prog GG 375 [.int .i64 x,.int .i64 y] (.int .i64 ((x ||| y:Nat):Int)):=by
 refine qFP qg func375 rfl (by kernel_rfl) ?_;simp;refine qFz (qaw x y 1 2 (x ||| y) hx hy (qEB (n:=16) hx hy) fun i hi=>?_) rfl ?_
 . rw[Nat.testBit_or];unfold V6;cases x.testBit i<;>cases y.testBit i<;>rfl
 simp
def qri(x y:Nat)(hx:x<65536)(hy:y<65536):Pure prog GG 376 [.int .i64 x,.int .i64 y] (.int .i64 ((x ^^^ y:Nat):Int)):=by
 refine qFP qg func376 rfl (by kernel_rfl) ?_;simp;refine qFz (qaw x y 1 1 (x ^^^ y) hx hy (qEw (n:=16) hx hy) fun i hi=>?_) rfl ?_
 . rw[Nat.testBit_xor];unfold V6;cases x.testBit i<;>cases y.testBit i<;>rfl
 simp
