import Derived.Test.YtafbccendejkeaaGreatDoorPt09
set_option maxRecDepth 100000
set_option linter.all false
set_option linter.defProp false
namespace Go.Proofs.YtafbccendejkeaaGreatDoor
open Go Go.Abs Tryz
def qoP(n):((BitVec.ofInt 64 n &&& 65535#64).toNat:Int)=n%65536:=by
 rw[BitVec.toNat_and,BitVec.toNat_ofInt];rw[show(65535#64).toNat=2^16-1 by decide,qCv];omega
def qxa{n}(h0:0<=n)(h1:n<=65535):IntKind.u16.wrap n=n:=by
 simp[IntKind.wrap,IntKind.bits,IntKind.signed];omega
def qiB(n):IntKind.u16.wrap n=n%65536:=by
 simp[IntKind.wrap,IntKind.bits,IntKind.signed]
def qvA(n):zw .and .i64 n 65535=some (.int .i64 (qv n)):=by
 have h2:=qoP n;have h5:n%65536=qv n:=rfl;show some (AV.int .i64 (IntKind.i64.wrap ((BitVec.ofInt 64 n &&& 65535#64).toNat:Int)))=_;rw[h2,h5,wr (by omega) (by omega)]
def WL(n):Pure prog GG 336 [.int .i64 n] (.int .u16 (qv n)):=by
 refine qE9 qe func336 rfl (by kernel_rfl) ?_;have h1:=qu n;simp[-zw,qvA,wE,qxa h1.1 h1.2]
def Yq(n)(h0:0<=n)(h1:n<=65535):Pure prog GG 337 [.int .u16 n] (.int .i64 n):=by
 refine qE9 qe func337 rfl (by kernel_rfl) ?_;simp[wE,show IntKind.i64.wrap n=n from wr (by omega) (by omega)]
def qqn(n):Pure prog GG 297 [.int .i64 n] (.int .i64 (qv n)):=by
 refine qE9 qe func297 rfl (by kernel_rfl) ?_
 try simp
 refine qET (WL n) rfl ?_
 try simp
 refine qET (Yq (qv n) (qu n).1 (qu n).2) rfl ?_;simp
def qi0{f x b r}(hx:qO x=true)(h0:0<=r)(h1:r<=65535)(h:Pure prog GG f [x,.int .u16 (qv b)] (.int .u16 r)):Pure prog GG 338 [.fn f [x] [],.int .i64 b] (.int .i64 r):=by
 refine qE9 qe func338 rfl (by kernel_rfl) ?_
 try simp
 refine qET (WL b) rfl ?_
 try simp
 refine qET h (by simp[hx]) ?_
 try simp
 refine qET (Yq r h0 h1) rfl ?_;simp
def qpt{f x r}(hx:qO x=true)(h0:0<=r)(h1:r<=65535)(h:Pure prog GG f [x] (.int .u16 r)):Pure prog GG 375 [.fn f [x] []] (.int .i64 r):=by
 refine qE9 qe func375 rfl (by kernel_rfl) ?_
 try simp
 refine qET h (by simp[hx]) ?_
 try simp
 refine qET (Yq r h0 h1) rfl ?_;simp
def qqt(a b):Pure prog GG 339 [.int .u16 (qv a),.int .u16 (qv b)] (.int .u16 (qv (a+b))):=by
 refine qE9 qe func339 rfl (by kernel_rfl) ?_;simp[zw,show IntKind.u16.wrap (qv a+qv b)=qv (a+b) by rw[qiB];unfold qv;omega]
def qqk(a b):Pure prog GG 379 [.int .u16 (qv a),.int .u16 (qv b)] (.int .u16 (qv (a-b))):=by
 refine qE9 qe func379 rfl (by kernel_rfl) ?_;simp[zw,show IntKind.u16.wrap (qv a-qv b)=qv (a-b) by rw[qiB];unfold qv;omega]
def qbu(a b):qv (qv a*qv b)=qv (a*b):=by
 unfold qv;rw[<- qEz]
def qqr(a b):Pure prog GG 380 [.int .u16 (qv a),.int .u16 (qv b)] (.int .u16 (qv (a*b))):=by
 refine qE9 qe func380 rfl (by kernel_rfl) ?_;simp[zw,show IntKind.u16.wrap (qv a*qv b)=qv (a*b) by rw[qiB];exact qbu a b]
def qqq(a):Pure prog GG 377 [.int .u16 (qv a)] (.int .u16 (qv (0-a))):=by
 refine qE9 qe func377 rfl (by kernel_rfl) ?_;have h:IntKind.u16.wrap (0-qv a)=qv (0-a):=by rw[qiB];unfold qv;omega
 simp only[Int.zero_sub]at h⊢;simp[unA,h]
def ql6{n}(h0:0<=n)(h1:n<=65535):(((BitVec.ofInt 16 65535) ^^^ (BitVec.ofInt 16 n)).toNat:Int)=65535-n:=by
 rw[show BitVec.ofInt 16 65535=BitVec.allOnes 16 by decide,BitVec.allOnes_xor,BitVec.toNat_not,BitVec.toNat_ofInt];omega
def qqs(a):Pure prog GG 376 [.int .u16 (qv a)] (.int .u16 (65535-qv a)):=by
 refine qE9 qe func376 rfl (by kernel_rfl) ?_;have hr:=qu a;have h:=ql6 hr.1 hr.2;have h4:unA .xor (.int .u16 (qv a))=some (.int .u16 (65535-qv a)):=by
  unfold unA;simp only[];rw[show(if IntKind.u16.signed=true then(-1:Int) else IntKind.u16.max)=65535 by decide];show some (AV.int .u16 (IntKind.u16.wrap (((BitVec.ofInt 16 65535) ^^^ (BitVec.ofInt 16 (qv a))).toNat:Int)))=_;rw[h,show IntKind.u16.wrap (65535-qv a)=65535-qv a from qxa (by omega) (by omega)]
 simp[-unA,h4]
def qp7(a b):Pure prog GG 298 [.int .i64 a,.int .i64 b] (.int .i64 (qv (a+b))):=by
 refine qE9 qe func298 rfl (by kernel_rfl) ?_
 try simp
 refine qET (WL a) rfl ?_
 try simp
 refine qET (qi0 (by simp) (qu _).1 (qu _).2 (qqt a b)) rfl ?_;simp
def qtW(a b):Pure prog GG 344 [.int .i64 a,.int .i64 b] (.int .i64 (qv (a-b))):=by
 refine qE9 qe func344 rfl (by kernel_rfl) ?_
 try simp
 refine qET (WL a) rfl ?_
 try simp
 refine qET (qi0 (by simp) (qu _).1 (qu _).2 (qqk a b)) rfl ?_;simp
def quz(a b):Pure prog GG 345 [.int .i64 a,.int .i64 b] (.int .i64 (qv (a*b))):=by
 refine qE9 qe func345 rfl (by kernel_rfl) ?_
 try simp
 refine qET (WL a) rfl ?_
 try simp
 refine qET (qi0 (by simp) (qu _).1 (qu _).2 (qqr a b)) rfl ?_;simp
def quO(a):Pure prog GG 341 [.int .i64 a] (.int .i64 (65535-qv a)):=by
 refine qE9 qe func341 rfl (by kernel_rfl) ?_;have hr:=qu a
 try simp
 refine qET (WL a) rfl ?_
 try simp
 refine qET (qpt (by simp) (by omega) (by omega) (qqs a)) rfl ?_;simp
def qux(a):Pure prog GG 342 [.int .i64 a] (.int .i64 (qv (0-a))):=by
 refine qE9 qe func342 rfl (by kernel_rfl) ?_
 try simp
 refine qET (WL a) rfl ?_
 try simp
 refine qET (qpt (by simp) (qu _).1 (qu _).2 (qqq a)) rfl ?_;simp
def qs7(a b:Int):Int:=if 0<=b/\b<16 then qv (a*2^b.toNat) else 0
def qpb(a b:Int):Int:=if 0<=b/\b<16 then qv a/2^b.toNat else 0
def qfw{f x b r}(hx:qO x=true)(h0:0<=r)(h1:r<=65535)(h:0<=b->b<16->Pure prog GG f [x,.int .i64 b] (.int .u16 r)) :
 Pure prog GG 381 [.fn f [x] [],.int .i64 b] (.int .i64 (if 0<=b/\b<16 then r else 0)):=by
 refine qE9 qe func381 rfl (by kernel_rfl) ?_;by_cases c0:b<0
 . rw[if_neg (by omega)];simp[c0]
 by_cases c1:16<=b
 . rw[if_neg (by omega)];simp[c0,c1]
 rw[if_pos (by omega)];simp[c0,c1];refine qET (h (by omega) (by omega)) (by simp[hx]) ?_
 try simp
 refine qET (Yq r h0 h1) rfl ?_;simp
def WT(a c):qv (qv a*c)=qv (a*c):=by
 unfold qv;rw[qEz,Int.emod_emod_of_dvd _ (Int.dvd_refl _),<- qEz]
def qqm(a b)(h0:0<=b)(h1:b<16):Pure prog GG 382 [.int .u16 (qv a),.int .i64 b] (.int .u16 (qv (a*2^b.toNat))):=by
 refine qE9 qe func382 rfl (by kernel_rfl) ?_;simp[qoC,IntKind.bits,show min b.toNat 16=b.toNat by omega,show IntKind.u16.wrap (qv a*2^b.toNat)=qv (a*2^b.toNat) by rw[qiB];exact WT a _,show ¬b<0 by omega]
def qql(a b)(h0:0<=b)(h1:b<16):Pure prog GG 383 [.int .u16 (qv a),.int .i64 b] (.int .u16 (qv a/2^b.toNat)):=by
 refine qE9 qe func383 rfl (by kernel_rfl) ?_;have hp:(0:Int)<2^b.toNat:=qEc (by omega);simp[qoC,IntKind.bits,show min b.toNat 16=b.toNat by omega,show(qv a).fdiv (2^b.toNat)=qv a/2^b.toNat from qCF _ (by omega),show ¬b<0 by omega]
def qt4(a b):Pure prog GG 346 [.int .i64 a,.int .i64 b] (.int .i64 (qs7 a b)):=by
 refine qE9 qe func346 rfl (by kernel_rfl) ?_
 try simp
 refine qET (WL a) rfl ?_
 try simp
 refine qET (qfw (by simp) (qu _).1 (qu _).2 (qqm a b)) rfl ?_;simp[qs7]
def qt3(a b):Pure prog GG 347 [.int .i64 a,.int .i64 b] (.int .i64 (qpb a b)):=by
 refine qE9 qe func347 rfl (by kernel_rfl) ?_;have hr:=Kc b.toNat (qu a).1 (qu a).2
 try simp
 refine qET (WL a) rfl ?_
 try simp
 refine qET (qfw (by simp) hr.1 hr.2 (qql a b)) rfl ?_;simp[qpb]
def qxq:List UInt8:=(List.range 256).map fun i=>UInt8.ofNat (yJ i 8)
def qfm{i}(h:i<256):qxq[i]?=some (UInt8.ofNat (yJ i 8)):=by simp[qxq,h]
def qfW(a):∀i,i<=8->yJ (a%256) i=yJ a i
 |0,_=>rfl
 | i+1,h=>by
  have h1:(a%256).testBit i=a.testBit i:=by
   rw[show 256=2^8 by decide,qDm];simp;omega
  simp only[yJ,qfW a i (by omega),h1]
def qfX(a):∀i,yJ a (8+i)=yJ a 8+yJ (a/256) i
 |0=>by simp[yJ]
 | i+1=>by
  have h1:(a/256).testBit i=a.testBit (8+i):=by
   rw[show 256=2^8 by decide,qD8,qCs]
  show yJ a (8+i+1)=_;simp only[yJ,qfX a i,h1];omega
def qno(a):yJ a 16=yJ (a/256) 8+yJ (a%256) 8:=by
 rw[qfW a 8 (qAy _),show 16=8+8 by rfl,qfX];omega
def qzk:([0,1,1,2,1,2,2,3,1,2,2,3,2,3,3,4,1,2,2,3,2,3,3,4,2,3,3,4,3,4,4,5,1,2,2,3,2,3,3,4,2,3,3,4,3,4,4,5,2,3,3,4,3,4,4,5,3,4,4,5,4,5,5,6,1,2,2,3,2,3,3,4,2,3,3,4,3,4,4,5,2,3,3,4,3,4,4,5,3,4,4,5,4,5,5,6,2,3,3,4,3,4,4,5,3,4,4,5,4,5,5,6,3,4,4,5,4,5,5,6,4,5,5,6,5,6,6,7,1,2,2,3,2,3,3,4,2,3,3,4,3,4,4,5,2,3,3,4,3,4,4,5,3,4,4,5,4,5,5,6,2,3,3,4,3,4,4,5,3,4,4,5,4,5,5,6,3,4,4,5,4,5,5,6,4,5,5,6,5,6,6,7,2,3,3,4,3,4,4,5,3,4,4,5,4,5,5,6,3,4,4,5,4,5,5,6,4,5,5,6,5,6,6,7,3,4,4,5,4,5,5,6,4,5,5,6,5,6,6,7,4,5,5,6,5,6,6,7,5,6,6,7,6,7,7,8]:List UInt8)=qxq:=by decide +kernel
def qrx(a)(h0:0<=a)(h1:a<=65535):Pure prog GG 378 [.int .u16 a] (.int .i64 (yJ a.toNat 16)):=by
 refine qE9 qe func378 rfl (by kernel_rfl) ?_;obtain⟨n,rfl⟩:=qAH h0;have e1:qoC (Dof prog) .shr 337 (.int .u16 (n:Int)) (.int .u64 8)=some (.int .u16 ((n/256:Nat):Int)):=by
  have e:(n:Int).fdiv (2^(min 8 IntKind.u16.bits))=((n/256:Nat):Int):=by
   show(n:Int).fdiv 256=_;rw[qCF _ (by omega)];omega
  show some (AV.int .u16 ((n:Int).fdiv (2^(min 8 IntKind.u16.bits))))=_;rw[e]
 have e2:qoC (Dof prog) .and 337 (.int .u16 (n:Int)) (.int .u16 255)=some (.int .u16 ((n%256:Nat):Int)):=by
  have e:((BitVec.ofInt 16 (n:Int) &&& 255#16).toNat:Int)=((n%256:Nat):Int):=by
   rw[BitVec.toNat_and,BitVec.toNat_ofInt];have e:(255#16).toNat=2^8-1:=(by decide);rw[e,qCv];omega
  show some (AV.int .u16 (IntKind.u16.wrap ((BitVec.ofInt 16 (n:Int) &&& 255#16).toNat:Int)))=_;rw[e,qxa (by omega) (by omega)]
 have g1:=qfm (i:=n/256) (by omega);have g2:=qfm (i:=n%256) (by omega);have l1:=ZL (n/256) 8;have l2:=ZL (n%256) 8;have e4:=qno n;have u:∀x y:Nat,x<=8->y<=8->IntKind.u8.wrap (((x:Int)%256)+((y:Int)%256))=(x:Int)+y/\IntKind.i64.wrap ((x:Int)+y)=x+y:=by
  intro x y hx hy;refine⟨?_,wr (by omega) (by omega)⟩;simp[IntKind.wrap,IntKind.bits,IntKind.signed];omega
 obtain⟨w1,w2⟩:=u _ _ l1 l2;rw[qAS,e4];generalize n/256=p at *;generalize n%256=q at *;simp[e1,e2,qzk,g1,g2,-qoC,-zw];simp[w1,w2,wE]
def qry(a):Pure prog GG 343 [.int .i64 a] (.int .i64 (yJ (qv a).toNat 16)):=by
 refine qE9 qe func343 rfl (by kernel_rfl) ?_
 try simp
 refine qET (WL a) rfl ?_
 try simp
 refine qET (qrx (qv a) (qu a).1 (qu a).2) rfl ?_;simp
def qhf(n):n.tmod 65536=if 0<=n then n%65536 else -((-n)%65536):=by
 split
 . rename_i h;exact qB8 h
 rename_i h;rw[show n.tmod 65536 = -((-n).tmod 65536) by rw[Int.neg_tmod];omega,qB8 (by omega)]
def qeg{n}(h:n<=16):(2:Int)^n<=65536/\(0:Int)<2^n:=by
 have h1:=qAV (n:=2) (by decide) h;have h2:=Nat.pow_pos (n:=n) (show 0<2 by decide);rw[show(2:Int)^n=((2^n:Nat):Int) by simp];omega
def jp(n):Pure prog GG 357 [.int .i64 n] (.int .i64 (qv n)):=by
 refine qE9 qe func357 rfl (by kernel_rfl) ?_;have ht:=qhf n;by_cases h:n.tmod 65536<0
 . have hn:¬0<=n:=fun hn=>by rw[if_pos hn]at ht;omega
   rw[if_neg hn]at ht;have h1:IntKind.i64.wrap (n.tmod 65536+65535)=n.tmod 65536+65535:=wr (by omega) (by omega);have h2:IntKind.i64.wrap (n.tmod 65536+65535+1)=qv n:=by
    rw[wr (by omega) (by omega)];unfold qv;omega
   simp[h,h1,h2]
   try rw[<- h1,h2]
 have h2:n.tmod 65536=qv n:=by
  unfold qv;split at ht<;>omega
 simp[zw,h];exact h2
def qjC(a b):Pure prog GG 326 [.int .i64 a,.int .i64 b] (.int .i64 (qv (a+b))):=by
 refine qE9 qe func326 rfl (by kernel_rfl) ?_;have ha:=qu a;have hb:=qu b
 try simp
 refine qET (jp a) rfl ?_
 try simp
 refine qET (jp b) rfl ?_;simp[show IntKind.i64.wrap (qv a+qv b)=qv a+qv b from wr (by omega) (by omega)];refine qET (jp _) rfl ?_;simp[show qv (qv a+qv b)=qv (a+b) by unfold qv;omega]
def qq2(a b):Pure prog GG 363 [.int .i64 a,.int .i64 b] (.int .i64 (qv (a-b))):=by
 refine qE9 qe func363 rfl (by kernel_rfl) ?_;have ha:=qu a;have hb:=qu b
 try simp
 refine qET (jp a) rfl ?_
 try simp
 refine qET (jp b) rfl ?_;simp[show IntKind.i64.wrap (qv a-qv b)=qv a-qv b from wr (by omega) (by omega)];refine qET (jp _) rfl ?_;simp[show qv (qv a-qv b)=qv (a-b) by unfold qv;omega]
def qct{a b c d:Int}(ha0:0<=a)(ha1:a<=c)(hb0:0<=b)(hb1:b<=d):0<=a*b/\a*b<=c*d :=
 ⟨Int.mul_nonneg ha0 hb0,Int.mul_le_mul ha1 hb1 hb0 (by omega)⟩
def qq6(a b):Pure prog GG 364 [.int .i64 a,.int .i64 b] (.int .i64 (qv (a*b))):=by
 refine qE9 qe func364 rfl (by kernel_rfl) ?_;have ha:=qu a;have hb:=qu b;have hm:=qct ha.1 ha.2 hb.1 hb.2;have h2:=qbu a b
 try simp
 refine qET (jp a) rfl ?_
 try simp
 refine qET (jp b) rfl ?_;simp[show IntKind.i64.wrap (qv a*qv b)=qv a*qv b from wr (by omega) (by omega)];refine qET (jp _) rfl ?_;simp[h2]
def qq8(a):Pure prog GG 360 [.int .i64 a] (.int .i64 (65535-qv a)):=by
 refine qE9 qe func360 rfl (by kernel_rfl) ?_;have ha:=qu a
 try simp
 refine qET (jp a) rfl ?_;simp[show IntKind.i64.wrap (65535-qv a)=65535-qv a from wr (by omega) (by omega)]
def qq4(a):Pure prog GG 361 [.int .i64 a] (.int .i64 (qv (0-a))):=by
 refine qE9 qe func361 rfl (by kernel_rfl) ?_;have ha:=qu a
 try simp
 refine qET (jp a) rfl ?_;simp[show IntKind.i64.wrap (-qv a) = -qv a from wr (by omega) (by omega)];refine qET (jp _) rfl ?_;simp[show qv (-qv a)=qv (-a) by unfold qv;omega]
def qb7(n:Nat)(hn:n<=16):Pure prog GG 392 [.int .i64 n] (.int .i64 (2^n)):=by
 refine qE9 qe func392 rfl (by kernel_rfl) ?_;simp;refine qE6 (fun q env U=>∃i:Nat,i<=n/\q=n-i/\env 0=.int .i64 n/\env 3=.int .i64 (2^i)/\env 4=.int .i64 i/\U=⟨[],[]⟩) n ⟨0,by simp⟩ ?_;rintro q env U ⟨i,hi,rfl,h0,h3,h4,rfl⟩;by_cases hc:i<n
 . have hc':(i:Int)<n:=(by omega);obtain⟨hp,hp0⟩:=qeg (n:=i) (by omega);simp[h0,h3,h4,hc];exact⟨_,by omega,i+1,by omega,rfl,(by rw[wr (by omega) (by omega),Int.pow_succ];omega),wr (by omega) (by omega)⟩
 have hi':i=n:=by omega
 subst hi';simp[h0,h3,h4]
def qq3(a b):Pure prog GG 368 [.int .i64 a,.int .i64 b] (.int .i64 (qs7 a b)):=by
 refine qE9 qe func368 rfl (by kernel_rfl) ?_;unfold qs7;by_cases c0:b<0
 . rw[if_neg (by omega)];simp[c0]
 by_cases c1:15<b
 . rw[if_neg (by omega)];simp[c0,c1]
 rw[if_pos (by omega)];obtain⟨n,rfl⟩:=qAH (show 0<=b by omega);have ha:=qu a;obtain⟨hp,hp0⟩:=qeg (n:=n) (by omega);have hm:=qct ha.1 ha.2 (Int.le_of_lt hp0) hp;have h2:=WT a (2^n);simp[c1,show ¬(n:Int)<0 by omega];refine qET (jp a) rfl ?_
 try simp
 refine qET (qb7 n (by omega)) rfl ?_;simp[show IntKind.i64.wrap (qv a*2^n)=qv a*2^n from wr (by omega) (by omega)];refine qET (jp _) rfl ?_;simp[h2]
def qjp(a b):Pure prog GG 369 [.int .i64 a,.int .i64 b] (.int .i64 (qpb a b)):=by
 refine qE9 qe func369 rfl (by kernel_rfl) ?_;unfold qpb;by_cases c0:b<0
 . rw[if_neg (by omega)];simp[c0]
 by_cases c1:15<b
 . rw[if_neg (by omega)];simp[c0,c1]
 rw[if_pos (by omega)];obtain⟨n,rfl⟩:=qAH (show 0<=b by omega);have ha:=qu a;obtain⟨hp,hp0⟩:=qeg (n:=n) (by omega);have hr:=Kc n ha.1 ha.2;simp[c1,show ¬(n:Int)<0 by omega];refine qET (jp a) rfl ?_
 try simp
 refine qET (qb7 n (by omega)) rfl ?_;simp[qBN ha.1,show IntKind.i64.wrap (qv a/2^n)=qv a/2^n from wr (by omega) (by omega),show ¬((2:Int)^n=0) by omega]
def qp0(a n):(a/2^n)%2=if a.testBit n=true then 1 else 0:=by
 rw[qDu];have:=qDR (a/2^n);rcases this with h|h<;>simp[h]
def qjy(a:Int)(n:Nat)(hn:n<16):Pure prog GG 390 [.int .i64 a,.int .i64 n] (.int .i64 (if(qv a).toNat.testBit n=true then 1 else 0)):=by
 refine qE9 qe func390 rfl (by kernel_rfl) ?_
 try simp
 refine qET (qjp a n) rfl ?_;have ha:=qu a;have he:(qv a/2^n).tmod 2=(if(qv a).toNat.testBit n=true then 1 else 0):=by
  obtain⟨m,hm⟩:=qAH ha.1;rw[hm];have hb:=qp0 m n;have e3:∀q:Nat,(q:Int).tmod 2=((q%2:Nat):Int):=fun q=>by
   rw[qB8 (by omega)];omega
  rw[show((m:Int)/2^n)=((m/2^n:Nat):Int) by simp,e3,qAS,hb];split<;>rfl
 rw[show qpb a n=qv a/2^n by unfold qpb;rw[if_pos (by omega)];simp];simp[he]
def qmL(a):Pure prog GG 362 [.int .i64 a] (.int .i64 (yJ (qv a).toNat 16)):=by
 refine qE9 qe func362 rfl (by kernel_rfl) ?_;simp;refine qE6 (fun q env U=>∃i:Nat,i<=16/\q=16-i/\env 0=.int .i64 a/\env 3=.int .i64 (yJ (qv a).toNat i)/\env 4=.int .i64 i/\U=⟨[],[]⟩) 16 ⟨0,by simp[yJ]⟩ ?_;rintro q env U ⟨i,hi,rfl,h0,h3,h4,rfl⟩;by_cases hc:i<16
 . have hc':(i:Int)<16:=(by omega);have hle:=ZL (qv a).toNat i;simp[h0,h3,h4,hc'];refine qET (qjy a i hc) rfl ?_;have hw:IntKind.i64.wrap ((yJ (qv a).toNat i:Int)+(if(qv a).toNat.testBit i=true then 1 else 0))=(yJ (qv a).toNat (i+1):Int):=by
    rw[wr (by split<;>omega) (by split<;>omega)];simp only[yJ];split<;>simp
   simp[hw];exact⟨_,by omega,i+1,by omega,rfl,rfl,wr (by omega) (by omega)⟩
 have hi':i=16:=by omega
 subst hi';simp[h0,h3,h4]
def qeX(a b:Int):(a==b)=decide (a=b):=by
 by_cases h:a=b
 . subst h;simp
 rw[decide_eq_false h];exact beq_eq_false_iff_ne.2 h
def Qr(a b:Int):(a != b) = !decide (a=b):=by rw[bne,qeX]
def yw(b):Pure prog GG 340 [.bool b] (.int .i64 (b2i b)):=by
 refine qE9 qe func340 rfl (by kernel_rfl) ?_;cases b<;>simp[b2i]
def jZ(b):Pure prog GG 359 [.bool b] (.int .i64 (b2i b)):=by
 refine qE9 qe func359 rfl (by kernel_rfl) ?_;cases b<;>simp[b2i]
def qlw(a b:Int):b2i (a==b)=b2i (decide (a=b)):=by
 have e:(a==b)=decide (a=b):=by
  by_cases h:a=b
  . subst h;simp
  rw[decide_eq_false h];exact beq_eq_false_iff_ne.2 h
 rw[e]
def qjc(op a):Pure prog GG 299 [.int .i64 op,.int .i64 a] (.int .i64 (unW op a)):=by
 refine qE9 qe func299 rfl (by kernel_rfl) ?_;by_cases h4:op=4
 . subst h4;simp;refine qET (yw _) rfl ?_;simp[unW,qlw]
 by_cases h5:op=5
 . subst h5;simp;refine qET (quO a) rfl ?_;simp[unW]
 by_cases h6:op=6
 . subst h6;simp;refine qET (qux a) rfl ?_;simp[unW]
 simp[h4,h5,h6];refine qET (qry a) rfl ?_;simp[unW,h4,h5,h6]
def qjn(op a):Pure prog GG 327 [.int .i64 op,.int .i64 a] (.int .i64 (unW op a)):=by
 refine qE9 qe func327 rfl (by kernel_rfl) ?_;by_cases h4:op=4
 . subst h4;simp;refine qET (jZ _) rfl ?_;simp[unW,qlw]
 by_cases h5:op=5
 . subst h5;simp;refine qET (qq8 a) rfl ?_;simp[unW]
 by_cases h6:op=6
 . subst h6;simp;refine qET (qq4 a) rfl ?_;simp[unW]
 simp[h4,h5,h6];refine qET (qmL a) rfl ?_;simp[unW,h4,h5,h6]
def qj2{x y:Nat}(hx:x<65536)(hy:y<65536):zw .and .i64 (x:Int) (y:Int)=some (.int .i64 ((x &&& y:Nat):Int)):=by
 have h:=qDM (n:=16) x (y:=y) (by omega);have e1:(BitVec.ofInt IntKind.i64.bits (x:Int)).toNat=x:=by
  show(BitVec.ofInt 64 (x:Int)).toNat=x;rw[BitVec.toNat_ofInt];omega
 have e2:(BitVec.ofInt IntKind.i64.bits (y:Int)).toNat=y:=by
  show(BitVec.ofInt 64 (y:Int)).toNat=y;rw[BitVec.toNat_ofInt];omega
 show some (AV.int .i64 (IntKind.i64.wrap ((BitVec.ofInt IntKind.i64.bits (x:Int) &&& BitVec.ofInt IntKind.i64.bits (y:Int)).toNat:Int)))=_;rw[BitVec.toNat_and,e1,e2,wr (by omega) (by omega)]
def qpw{x y:Nat}(hx:x<65536)(hy:y<65536):zw .or .i64 (x:Int) (y:Int)=some (.int .i64 ((x ||| y:Nat):Int)):=by
 have h:=qDT (n:=16) (x:=x) (y:=y) (by omega) (by omega);have e1:(BitVec.ofInt IntKind.i64.bits (x:Int)).toNat=x:=by
  show(BitVec.ofInt 64 (x:Int)).toNat=x;rw[BitVec.toNat_ofInt];omega
 have e2:(BitVec.ofInt IntKind.i64.bits (y:Int)).toNat=y:=by
  show(BitVec.ofInt 64 (y:Int)).toNat=y;rw[BitVec.toNat_ofInt];omega
 show some (AV.int .i64 (IntKind.i64.wrap ((BitVec.ofInt IntKind.i64.bits (x:Int) ||| BitVec.ofInt IntKind.i64.bits (y:Int)).toNat:Int)))=_;rw[BitVec.toNat_or,e1,e2,wr (by omega) (by omega)]
def qj1{x y:Nat}(hx:x<65536)(hy:y<65536):zw .xor .i64 (x:Int) (y:Int)=some (.int .i64 ((x ^^^ y:Nat):Int)):=by
 have h:=qDN (n:=16) (x:=x) (y:=y) (by omega) (by omega);have e1:(BitVec.ofInt IntKind.i64.bits (x:Int)).toNat=x:=by
  show(BitVec.ofInt 64 (x:Int)).toNat=x;rw[BitVec.toNat_ofInt];omega
 have e2:(BitVec.ofInt IntKind.i64.bits (y:Int)).toNat=y:=by
  show(BitVec.ofInt 64 (y:Int)).toNat=y;rw[BitVec.toNat_ofInt];omega
 show some (AV.int .i64 (IntKind.i64.wrap ((BitVec.ofInt IntKind.i64.bits (x:Int) ^^^ BitVec.ofInt IntKind.i64.bits (y:Int)).toNat:Int)))=_;rw[BitVec.toNat_xor,e1,e2,wr (by omega) (by omega)]
def VW(x i:Nat):Int:=if x.testBit i=true then 1 else 0
def VV(x i):0<=VW x i/\VW x i<=1:=by unfold VW;split<;>omega
def qfE(x i:Nat)(hx:x<65536)(hi:i<16):Pure prog GG 390 [.int .i64 x,.int .i64 i] (.int .i64 (VW x i)):=by
 have h:=qjy (x:Int) i hi;rw[Qu (by omega) (by omega)]at h;simpa[VW] using h
def qas(x y:Nat)(lo hi:Int)(X:Nat)(hx:x<65536)(hy:y<65536)(hX:X<65536)(h:∀i,i<16->X.testBit i=decide (lo<=VW x i+VW y i/\VW x i+VW y i<=hi)) :
 Pure prog GG 391 [.int .i64 x,.int .i64 y,.int .i64 lo,.int .i64 hi] (.int .i64 X):=by
 refine qE9 qe func391 rfl (by kernel_rfl) ?_;simp;refine qE6 (fun q env U=>q<=16/\env 0=.int .i64 x/\env 1=.int .i64 y/\env 2=.int .i64 lo/\env 3=.int .i64 hi/\env 9=.int .i64 ((X/2^q:Nat):Int)/\env 10=.int .i64 ((q:Int)-1)/\U=⟨[],[]⟩) 16 ⟨by simp,by simp,by simp,by simp,by simp,by simp;omega,by simp,rfl⟩ ?_;rintro q env U ⟨hq,h0,h1,h2,h3,h9,h10,rfl⟩
 cases q with
 | zero=>
  simp at h9 h10;simp[h0,h1,h2,h9,h10]
 | succ i=>
  have hi':i<16:=by omega
  rw[show((i+1:Nat):Int)-1=i by omega]at h10;have hbx:=VV x i;have hby:=VV y i;have hw:IntKind.i64.wrap (VW x i+VW y i)=VW x i+VW y i:=wr (by omega) (by omega);have hXb:=h i hi';have hd:X/2^i=2*(X/2^(i+1))+(if X.testBit i=true then 1 else 0):=by
   rw[<- qp0,qCM,<- Nat.div_div_eq_div_mul];omega
  have hle:X/2^i<=X:=qBy _ _;have hw2:IntKind.i64.wrap (2*((X/2^(i+1):Nat):Int))=((2*(X/2^(i+1)):Nat):Int):=by
   rw[wr (by omega) (by omega)];omega
  have hwi:IntKind.i64.wrap ((i:Int)-1)=(i:Int)-1:=wr (by omega) (by omega);generalize X/2^(i+1)=A at h9 hd hw2;generalize hB:X/2^i=B at hd hle;have hXB:(X:Int)/2^i=(B:Int):=by rw[<- hB];simp
  simp[h0,h1,h2,h9,h10];refine qET (qfE x i hx hi') rfl ?_
  try simp[h0,h1,h2,h3,h9,h10]
  refine qET (qfE y i hy hi') rfl ?_;by_cases c1:lo<=VW x i+VW y i
  . by_cases c2:VW x i+VW y i<=hi
    . rw[decide_eq_true (⟨c1,c2⟩:_/\_)]at hXb;rw[hXb]at hd;simp at hd;simp[h0,h1,h2,h3,h10,hw,hw2,c1,c2,hwi];exact⟨i,by omega,by omega,by rw[hXB,wr (by omega) (by omega)];omega,rfl⟩
    . rw[decide_eq_false (fun h=>c2 h.2)]at hXb;rw[hXb]at hd;simp at hd;simp[h0,h1,h2,h3,h10,hw,hw2,c1,c2,hwi];exact⟨i,by omega,by omega,by rw[hXB];omega,rfl⟩
  rw[decide_eq_false (fun h=>c1 h.1)]at hXb;rw[hXb]at hd;simp at hd;simp[h0,h1,h2,h3,h10,hw,hw2,c1,hwi];exact⟨i,by omega,by omega,by rw[hXB];omega,rfl⟩
def qrc(x y:Nat)(hx:x<65536)(hy:y<65536):Pure prog GG 365 [.int .i64 x,.int .i64 y] (.int .i64 ((x &&& y:Nat):Int)):=by
 refine qE9 qe func365 rfl (by kernel_rfl) ?_;simp;refine qET (qas x y 2 2 (x &&& y) hx hy (qDM (n:=16) x hy) fun i hi=>?_) rfl ?_
 . rw[Nat.testBit_and];unfold VW;cases x.testBit i<;>cases y.testBit i<;>rfl
 simp
def qua(x y:Nat)(hx:x<65536)(hy:y<65536):Pure prog GG 366 [.int .i64 x,.int .i64 y] (.int .i64 ((x ||| y:Nat):Int)):=by
 refine qE9 qe func366 rfl (by kernel_rfl) ?_;simp;refine qET (qas x y 1 2 (x ||| y) hx hy (qDT (n:=16) hx hy) fun i hi=>?_) rfl ?_
 . rw[Nat.testBit_or];unfold VW;cases x.testBit i<;>cases y.testBit i<;>rfl
 simp
def qq1(x y:Nat)(hx:x<65536)(hy:y<65536):Pure prog GG 367 [.int .i64 x,.int .i64 y] (.int .i64 ((x ^^^ y:Nat):Int)):=by
 refine qE9 qe func367 rfl (by kernel_rfl) ?_;simp;refine qET (qas x y 1 1 (x ^^^ y) hx hy (qDN (n:=16) hx hy) fun i hi=>?_) rfl ?_
 . rw[Nat.testBit_xor];unfold VW;cases x.testBit i<;>cases y.testBit i<;>rfl
 simp
