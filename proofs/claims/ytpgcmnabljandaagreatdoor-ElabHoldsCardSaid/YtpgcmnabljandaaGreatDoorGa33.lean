/- A part of the proof: Walk30 Walk31 Walk32 Walk31a Walk33. -/
import Derived.Test.YtpgcmnabljandaaGreatDoorGa16
import Derived.Test.YtpgcmnabljandaaGreatDoorGa19
set_option linter.unusedVariables false
set_option linter.unusedSimpArgs false
set_option maxRecDepth 100000
section
namespace Go.Proofs.YtpgcmnabljandaaGreatDoor
open Go Go.Abs
theorem and_mask (n:Int):((BitVec.ofInt 64 n &&& 65535#64).toNat:Int)=n % 65536:=by
 rw [BitVec.toNat_and,BitVec.toNat_ofInt]
 have e:(65535#64).toNat=2 ^ 16-1:=by decide
 rw [e,Nat.and_two_pow_sub_one_eq_mod]
 omega
theorem wr16 {n:Int} (h0:0≤n) (h1:n≤65535):IntKind.u16.wrap n=n:=by
 simp [IntKind.wrap,IntKind.bits,IntKind.signed];omega
theorem wr16' (n:Int):IntKind.u16.wrap n=n % 65536:=by
 simp [IntKind.wrap,IntKind.bits,IntKind.signed]
theorem and_op (n:Int):intOp .and .i64 n 65535=some (.int .i64 (wrapW n)):=by
 have h1:=wrapW_range n
 have h2:=and_mask n
 have h5:n % 65536=wrapW n:=rfl
 show some (AV.int .i64 (IntKind.i64.wrap ((BitVec.ofInt 64 n &&& 65535#64).toNat:Int)))=_
 rw [h2,h5,wr (by omega) (by omega)]
theorem of293 (n:Int):Pure Tryz.prog GG 293 [.int .i64 n] (.int .u16 (wrapW n)):=by
 refine Pure.vc mixed Tryz.func293 rfl (by kernel_rfl) ?_
 have h1:=wrapW_range n
 have h4:IntKind.u16.wrap (wrapW n)=wrapW n:=wr16 h1.1 h1.2
 simp [-intOp,and_op,convA,h4]
theorem value294 (n:Int) (h0:0≤n) (h1:n≤65535):Pure Tryz.prog GG 294 [.int .u16 n] (.int .i64 n):=by
 refine Pure.vc mixed Tryz.func294 rfl (by kernel_rfl) ?_
 have h3:IntKind.i64.wrap n=n:=wr (by omega) (by omega)
 simp [convA,h3]
theorem wrap236 (n:Int):Pure Tryz.prog GG 236 [.int .i64 n] (.int .i64 (wrapW n)):=by
 refine Pure.vc mixed Tryz.func236 rfl (by kernel_rfl) ?_
 try simp
 refine vcCall.call (of293 n) rfl ?_
 try simp
 refine vcCall.call (value294 (wrapW n) (wrapW_range n).1 (wrapW_range n).2) rfl ?_
 simp
theorem two295 {f:FuncId} {x:AV} {b r:Int} (hx:noRef x=true) (h0:0≤r) (h1:r≤65535) (h:Pure Tryz.prog GG f [x,.int .u16 (wrapW b)] (.int .u16 r)):Pure Tryz.prog GG 295 [.fn f [x] [],.int .i64 b] (.int .i64 r):=by
 refine Pure.vc mixed Tryz.func295 rfl (by kernel_rfl) ?_
 try simp
 refine vcCall.call (of293 b) rfl ?_
 try simp
 refine vcCall.call h (by simp [hx]) ?_
 try simp
 refine vcCall.call (value294 r h0 h1) rfl ?_
 simp
theorem one348 {f:FuncId} {x:AV} {r:Int} (hx:noRef x=true) (h0:0≤r) (h1:r≤65535) (h:Pure Tryz.prog GG f [x] (.int .u16 r)):Pure Tryz.prog GG 348 [.fn f [x] []] (.int .i64 r):=by
 refine Pure.vc mixed Tryz.func348 rfl (by kernel_rfl) ?_
 try simp
 refine vcCall.call h (by simp [hx]) ?_
 try simp
 refine vcCall.call (value294 r h0 h1) rfl ?_
 simp
theorem wadd296 (a b:Int):Pure Tryz.prog GG 296 [.int .u16 (wrapW a),.int .u16 (wrapW b)] (.int .u16 (wrapW (a+b))):=by
 refine Pure.vc mixed Tryz.func296 rfl (by kernel_rfl) ?_
 have h:IntKind.u16.wrap (wrapW a+wrapW b)=wrapW (a+b):=by rw [wr16'];unfold wrapW;omega
 simp [intOp,h]
theorem wsub352 (a b:Int):Pure Tryz.prog GG 352 [.int .u16 (wrapW a),.int .u16 (wrapW b)] (.int .u16 (wrapW (a-b))):=by
 refine Pure.vc mixed Tryz.func352 rfl (by kernel_rfl) ?_
 have h:IntKind.u16.wrap (wrapW a-wrapW b)=wrapW (a-b):=by rw [wr16'];unfold wrapW;omega
 simp [intOp,h]
theorem wrapW_mul (a b:Int):wrapW (wrapW a*wrapW b)=wrapW (a*b):=by
 unfold wrapW
 rw [← Int.mul_emod]
theorem wmul353 (a b:Int):Pure Tryz.prog GG 353 [.int .u16 (wrapW a),.int .u16 (wrapW b)] (.int .u16 (wrapW (a*b))):=by
 refine Pure.vc mixed Tryz.func353 rfl (by kernel_rfl) ?_
 have h:IntKind.u16.wrap (wrapW a*wrapW b)=wrapW (a*b):=by rw [wr16'];exact wrapW_mul a b
 simp [intOp,h]
theorem wneg350 (a:Int):Pure Tryz.prog GG 350 [.int .u16 (wrapW a)] (.int .u16 (wrapW (0-a))):=by
 refine Pure.vc mixed Tryz.func350 rfl (by kernel_rfl) ?_
 have h:IntKind.u16.wrap (0-wrapW a)=wrapW (0-a):=by rw [wr16'];unfold wrapW;omega
 simp only [Int.zero_sub] at h ⊢
 simp [unA,h]
theorem xor_mask {n:Int} (h0:0≤n) (h1:n≤65535):(((BitVec.ofInt 16 65535) ^^^ (BitVec.ofInt 16 n)).toNat:Int)=65535-n:=by
 have e:BitVec.ofInt 16 65535=BitVec.allOnes 16:=by decide
 rw [e,BitVec.allOnes_xor,BitVec.toNat_not,BitVec.toNat_ofInt]
 omega
theorem winv349 (a:Int):Pure Tryz.prog GG 349 [.int .u16 (wrapW a)] (.int .u16 (65535-wrapW a)):=by
 refine Pure.vc mixed Tryz.func349 rfl (by kernel_rfl) ?_
 have hr:=wrapW_range a
 have h:=xor_mask hr.1 hr.2
 have h2:IntKind.u16.wrap (65535-wrapW a)=65535-wrapW a:=wr16 (by omega) (by omega)
 have h3:(if IntKind.u16.signed=true then (-1:Int) else IntKind.u16.max)=65535:=by decide
 have h4:unA .xor (.int .u16 (wrapW a))=some (.int .u16 (65535-wrapW a)):=by
  unfold unA
  simp only []
  rw [h3]
  show some (AV.int .u16 (IntKind.u16.wrap (((BitVec.ofInt 16 65535) ^^^ (BitVec.ofInt 16 (wrapW a))).toNat:Int)))=_
  rw [h,h2]
 simp [-unA,h4]
theorem add237 (a b:Int):Pure Tryz.prog GG 237 [.int .i64 a,.int .i64 b] (.int .i64 (wrapW (a+b))):=by
 refine Pure.vc mixed Tryz.func237 rfl (by kernel_rfl) ?_
 try simp
 refine vcCall.call (of293 a) rfl ?_
 try simp
 refine vcCall.call (two295 (by simp) (wrapW_range _).1 (wrapW_range _).2 (wadd296 a b)) rfl ?_
 simp
theorem sub301 (a b:Int):Pure Tryz.prog GG 301 [.int .i64 a,.int .i64 b] (.int .i64 (wrapW (a-b))):=by
 refine Pure.vc mixed Tryz.func301 rfl (by kernel_rfl) ?_
 try simp
 refine vcCall.call (of293 a) rfl ?_
 try simp
 refine vcCall.call (two295 (by simp) (wrapW_range _).1 (wrapW_range _).2 (wsub352 a b)) rfl ?_
 simp
theorem mul302 (a b:Int):Pure Tryz.prog GG 302 [.int .i64 a,.int .i64 b] (.int .i64 (wrapW (a*b))):=by
 refine Pure.vc mixed Tryz.func302 rfl (by kernel_rfl) ?_
 try simp
 refine vcCall.call (of293 a) rfl ?_
 try simp
 refine vcCall.call (two295 (by simp) (wrapW_range _).1 (wrapW_range _).2 (wmul353 a b)) rfl ?_
 simp
theorem inv298 (a:Int):Pure Tryz.prog GG 298 [.int .i64 a] (.int .i64 (65535-wrapW a)):=by
 refine Pure.vc mixed Tryz.func298 rfl (by kernel_rfl) ?_
 have hr:=wrapW_range a
 try simp
 refine vcCall.call (of293 a) rfl ?_
 try simp
 refine vcCall.call (one348 (by simp) (by omega) (by omega) (winv349 a)) rfl ?_
 simp
theorem neg299 (a:Int):Pure Tryz.prog GG 299 [.int .i64 a] (.int .i64 (wrapW (0-a))):=by
 refine Pure.vc mixed Tryz.func299 rfl (by kernel_rfl) ?_
 try simp
 refine vcCall.call (of293 a) rfl ?_
 try simp
 refine vcCall.call (one348 (by simp) (wrapW_range _).1 (wrapW_range _).2 (wneg350 a)) rfl ?_
 simp
def shlW (a b:Int):Int:=if 0≤b∧b<16 then wrapW (a*2 ^ b.toNat) else 0
def shrW (a b:Int):Int:=if 0≤b∧b<16 then wrapW a / 2 ^ b.toNat else 0
theorem shift354 {f:FuncId} {x:AV} {b r:Int} (hx:noRef x=true) (h0:0≤r) (h1:r≤65535) (h:0≤b→b<16→Pure Tryz.prog GG f [x,.int .i64 b] (.int .u16 r)) :
 Pure Tryz.prog GG 354 [.fn f [x] [],.int .i64 b] (.int .i64 (if 0≤b∧b<16 then r else 0)):=by
 refine Pure.vc mixed Tryz.func354 rfl (by kernel_rfl) ?_
 by_cases c0:b<0
 · rw [if_neg (by omega)]
   simp [c0]
 · by_cases c1:16≤b
   · rw [if_neg (by omega)]
     simp [c0,c1]
   · rw [if_pos (by omega)]
     simp [c0,c1]
     refine vcCall.call (h (by omega) (by omega)) (by simp [hx]) ?_
     try simp
     refine vcCall.call (value294 r h0 h1) rfl ?_
     simp
theorem wrapW_mulL (a c:Int):wrapW (wrapW a*c)=wrapW (a*c):=by
 unfold wrapW
 rw [Int.mul_emod,Int.emod_emod_of_dvd _ (Int.dvd_refl _),← Int.mul_emod]
theorem wshl355 (a b:Int) (h0:0≤b) (h1:b<16):Pure Tryz.prog GG 355 [.int .u16 (wrapW a),.int .i64 b] (.int .u16 (wrapW (a*2 ^ b.toNat))):=by
 refine Pure.vc mixed Tryz.func355 rfl (by kernel_rfl) ?_
 have hm:min b.toNat 16=b.toNat:=by omega
 have h:IntKind.u16.wrap (wrapW a*2 ^ b.toNat)=wrapW (a*2 ^ b.toNat):=by rw [wr16'];exact wrapW_mulL a _
 have h2:¬ b<0:=by omega
 simp [binA,IntKind.bits,hm,h,h2]
theorem wshr356 (a b:Int) (h0:0≤b) (h1:b<16):Pure Tryz.prog GG 356 [.int .u16 (wrapW a),.int .i64 b] (.int .u16 (wrapW a / 2 ^ b.toNat)):=by
 refine Pure.vc mixed Tryz.func356 rfl (by kernel_rfl) ?_
 have hm:min b.toNat 16=b.toNat:=by omega
 have hp:(0:Int)<2 ^ b.toNat:=Int.pow_pos (by omega)
 have h:(wrapW a).fdiv (2 ^ b.toNat)=wrapW a / 2 ^ b.toNat:=Int.fdiv_eq_ediv_of_nonneg _ (by omega)
 have h2:¬ b<0:=by omega
 simp [binA,IntKind.bits,hm,h,h2]
theorem shl303 (a b:Int):Pure Tryz.prog GG 303 [.int .i64 a,.int .i64 b] (.int .i64 (shlW a b)):=by
 refine Pure.vc mixed Tryz.func303 rfl (by kernel_rfl) ?_
 try simp
 refine vcCall.call (of293 a) rfl ?_
 try simp
 refine vcCall.call (shift354 (by simp) (wrapW_range _).1 (wrapW_range _).2 (wshl355 a b)) rfl ?_
 simp [shlW]
theorem shr304 (a b:Int):Pure Tryz.prog GG 304 [.int .i64 a,.int .i64 b] (.int .i64 (shrW a b)):=by
 refine Pure.vc mixed Tryz.func304 rfl (by kernel_rfl) ?_
 have hr:=shr_range b.toNat (wrapW_range a).1 (wrapW_range a).2
 try simp
 refine vcCall.call (of293 a) rfl ?_
 try simp
 refine vcCall.call (shift354 (by simp) hr.1 hr.2 (wshr356 a b)) rfl ?_
 simp [shrW]
def tabW:List UInt8:=(List.range 256).map fun i=>UInt8.ofNat (onesN i 8)
theorem tabW_get {i:Nat} (h:i<256):tabW[i]?=some (UInt8.ofNat (onesN i 8)):=by simp [tabW,h]
theorem onesN_lo (a:Nat):∀ i,i≤8→onesN (a % 256) i=onesN a i
 | 0,_=>rfl
 | i+1,h=>by
  have h1:(a % 256).testBit i=a.testBit i:=by
   rw [show 256=2 ^ 8 by decide,Nat.testBit_mod_two_pow]
   simp;omega
  simp only [onesN,onesN_lo a i (by omega),h1]
theorem onesN_hi (a:Nat):∀ i,onesN a (8+i)=onesN a 8+onesN (a / 256) i
 | 0=>by simp [onesN]
 | i+1=>by
  have h1:(a / 256).testBit i=a.testBit (8+i):=by
   rw [show 256=2 ^ 8 by decide,Nat.testBit_div_two_pow,Nat.add_comm]
  show onesN a (8+i+1)=_
  simp only [onesN,onesN_hi a i,h1]
  omega
theorem onesN_16 (a:Nat):onesN a 16=onesN (a / 256) 8+onesN (a % 256) 8:=by
 rw [onesN_lo a 8 (Nat.le_refl _),show 16=8+8 by rfl,onesN_hi];omega
theorem tabL:([0,1,1,2,1,2,2,3,1,2,2,3,2,3,3,4,1,2,2,3,2,3,3,4,2,3,3,4,3,4,4,5,1,2,2,3,2,3,3,4,2,3,3,4,3,4,4,5,2,3,3,4,3,4,4,5,3,4,4,5,4,5,5,6,1,2,2,3,2,3,3,4,2,3,3,4,3,4,4,5,2,3,3,4,3,4,4,5,3,4,4,5,4,5,5,6,2,3,3,4,3,4,4,5,3,4,4,5,4,5,5,6,3,4,4,5,4,5,5,6,4,5,5,6,5,6,6,7,1,2,2,3,2,3,3,4,2,3,3,4,3,4,4,5,2,3,3,4,3,4,4,5,3,4,4,5,4,5,5,6,2,3,3,4,3,4,4,5,3,4,4,5,4,5,5,6,3,4,4,5,4,5,5,6,4,5,5,6,5,6,6,7,2,3,3,4,3,4,4,5,3,4,4,5,4,5,5,6,3,4,4,5,4,5,5,6,4,5,5,6,5,6,6,7,3,4,4,5,4,5,5,6,4,5,5,6,5,6,6,7,4,5,5,6,5,6,6,7,5,6,6,7,6,7,7,8]:List UInt8)=tabW:=by decide +kernel
theorem ones351 (a:Int) (h0:0≤a) (h1:a≤65535):Pure Tryz.prog GG 351 [.int .u16 a] (.int .i64 (onesN a.toNat 16)):=by
 refine Pure.vc mixed Tryz.func351 rfl (by kernel_rfl) ?_
 obtain⟨n,rfl⟩:=Int.eq_ofNat_of_zero_le h0
 have e1:binA (Dof Tryz.prog) .shr 294 (.int .u16 (n:Int)) (.int .u64 8)=some (.int .u16 ((n / 256:Nat):Int)):=by
  have e:(n:Int).fdiv (2 ^ (min 8 IntKind.u16.bits))=((n / 256:Nat):Int):=by
   show (n:Int).fdiv 256=_
   rw [Int.fdiv_eq_ediv_of_nonneg _ (by omega)];omega
  show some (AV.int .u16 ((n:Int).fdiv (2 ^ (min 8 IntKind.u16.bits))))=_
  rw [e]
 have e2:binA (Dof Tryz.prog) .and 294 (.int .u16 (n:Int)) (.int .u16 255)=some (.int .u16 ((n % 256:Nat):Int)):=by
  have e:((BitVec.ofInt 16 (n:Int) &&& 255#16).toNat:Int)=((n % 256:Nat):Int):=by
   rw [BitVec.toNat_and,BitVec.toNat_ofInt]
   have e:(255#16).toNat=2 ^ 8-1:=by decide
   rw [e,Nat.and_two_pow_sub_one_eq_mod]
   omega
  show some (AV.int .u16 (IntKind.u16.wrap ((BitVec.ofInt 16 (n:Int) &&& 255#16).toNat:Int)))=_
  rw [e,wr16 (by omega) (by omega)]
 have g1:=tabW_get (i:=n / 256) (by omega)
 have g2:=tabW_get (i:=n % 256) (by omega)
 have l1:=onesN_le (n / 256) 8
 have l2:=onesN_le (n % 256) 8
 have e4:=onesN_16 n
 have p1:(0:Int)≤((n / 256:Nat):Int):=by omega
 have p2:(0:Int)≤((n % 256:Nat):Int):=by omega
 have u:∀ x y:Nat,x≤8→y≤8→IntKind.u8.wrap (((x:Int) % 256)+((y:Int) % 256))=(x:Int)+y∧IntKind.i64.wrap ((x:Int)+y)=x+y:=by
  intro x y hx hy
  refine⟨?_,wr (by omega) (by omega)⟩
  simp [IntKind.wrap,IntKind.bits,IntKind.signed];omega
 obtain⟨w1,w2⟩:=u _ _ l1 l2
 rw [Int.toNat_natCast,e4]
 generalize n / 256=p at *
 generalize n % 256=q at *
 simp [e1,e2,tabL,g1,g2,-binA,-intOp]
 simp [w1,w2,convA]
theorem ones300 (a:Int):Pure Tryz.prog GG 300 [.int .i64 a] (.int .i64 (onesN (wrapW a).toNat 16)):=by
 refine Pure.vc mixed Tryz.func300 rfl (by kernel_rfl) ?_
 try simp
 refine vcCall.call (of293 a) rfl ?_
 try simp
 refine vcCall.call (ones351 (wrapW a) (wrapW_range a).1 (wrapW_range a).2) rfl ?_
 simp
theorem mul_bound {a b c d:Int} (ha0:0≤a) (ha1:a≤c) (hb0:0≤b) (hb1:b≤d):0≤a*b∧a*b≤c*d :=
 ⟨Int.mul_nonneg ha0 hb0,Int.mul_le_mul ha1 hb1 hb0 (by omega)⟩
theorem beq_dec (a b:Int):(a==b)=decide (a=b):=by
 by_cases h:a=b
 · subst h;simp
 · rw [decide_eq_false h];exact beq_eq_false_iff_ne.2 h
theorem bne_dec (a b:Int):(a != b) = !decide (a=b):=by rw [bne,beq_dec]
theorem truth297 (b:Bool):Pure Tryz.prog GG 297 [.bool b] (.int .i64 (b2i b)):=by
 refine Pure.vc mixed Tryz.func297 rfl (by kernel_rfl) ?_
 cases b<;>simp [b2i]
theorem b2i_beq (a b:Int):b2i (a==b)=b2i (decide (a=b)):=by
 have e:(a==b)=decide (a=b):=by
  by_cases h:a=b
  · subst h;simp
  · rw [decide_eq_false h];exact beq_eq_false_iff_ne.2 h
 rw [e]
theorem single238 (op a:Int):Pure Tryz.prog GG 238 [.int .i64 op,.int .i64 a] (.int .i64 (unW op a)):=by
 refine Pure.vc mixed Tryz.func238 rfl (by kernel_rfl) ?_
 by_cases h4:op=4
 · subst h4
   simp
   refine vcCall.call (truth297 _) rfl ?_
   simp [unW,b2i_beq]
 by_cases h5:op=5
 · subst h5
   simp
   refine vcCall.call (inv298 a) rfl ?_
   simp [unW]
 by_cases h6:op=6
 · subst h6
   simp
   refine vcCall.call (neg299 a) rfl ?_
   simp [unW]
 simp [h4,h5,h6]
 refine vcCall.call (ones300 a) rfl ?_
 simp [unW,h4,h5,h6]
theorem nat_and {x y:Nat} (hx:x<65536) (hy:y<65536):intOp .and .i64 (x:Int) (y:Int)=some (.int .i64 ((x &&& y:Nat):Int)):=by
 have h:=Nat.and_lt_two_pow (n:=16) x (y:=y) (by omega)
 have e1:(BitVec.ofInt IntKind.i64.bits (x:Int)).toNat=x:=by
  show (BitVec.ofInt 64 (x:Int)).toNat=x
  rw [BitVec.toNat_ofInt];omega
 have e2:(BitVec.ofInt IntKind.i64.bits (y:Int)).toNat=y:=by
  show (BitVec.ofInt 64 (y:Int)).toNat=y
  rw [BitVec.toNat_ofInt];omega
 show some (AV.int .i64 (IntKind.i64.wrap ((BitVec.ofInt IntKind.i64.bits (x:Int) &&& BitVec.ofInt IntKind.i64.bits (y:Int)).toNat:Int)))=_
 rw [BitVec.toNat_and,e1,e2,wr (by omega) (by omega)]
theorem nat_or {x y:Nat} (hx:x<65536) (hy:y<65536):intOp .or .i64 (x:Int) (y:Int)=some (.int .i64 ((x ||| y:Nat):Int)):=by
 have h:=Nat.or_lt_two_pow (n:=16) (x:=x) (y:=y) (by omega) (by omega)
 have e1:(BitVec.ofInt IntKind.i64.bits (x:Int)).toNat=x:=by
  show (BitVec.ofInt 64 (x:Int)).toNat=x
  rw [BitVec.toNat_ofInt];omega
 have e2:(BitVec.ofInt IntKind.i64.bits (y:Int)).toNat=y:=by
  show (BitVec.ofInt 64 (y:Int)).toNat=y
  rw [BitVec.toNat_ofInt];omega
 show some (AV.int .i64 (IntKind.i64.wrap ((BitVec.ofInt IntKind.i64.bits (x:Int) ||| BitVec.ofInt IntKind.i64.bits (y:Int)).toNat:Int)))=_
 rw [BitVec.toNat_or,e1,e2,wr (by omega) (by omega)]
theorem nat_xor {x y:Nat} (hx:x<65536) (hy:y<65536):intOp .xor .i64 (x:Int) (y:Int)=some (.int .i64 ((x ^^^ y:Nat):Int)):=by
 have h:=Nat.xor_lt_two_pow (n:=16) (x:=x) (y:=y) (by omega) (by omega)
 have e1:(BitVec.ofInt IntKind.i64.bits (x:Int)).toNat=x:=by
  show (BitVec.ofInt 64 (x:Int)).toNat=x
  rw [BitVec.toNat_ofInt];omega
 have e2:(BitVec.ofInt IntKind.i64.bits (y:Int)).toNat=y:=by
  show (BitVec.ofInt 64 (y:Int)).toNat=y
  rw [BitVec.toNat_ofInt];omega
 show some (AV.int .i64 (IntKind.i64.wrap ((BitVec.ofInt IntKind.i64.bits (x:Int) ^^^ BitVec.ofInt IntKind.i64.bits (y:Int)).toNat:Int)))=_
 rw [BitVec.toNat_xor,e1,e2,wr (by omega) (by omega)]
def findR (env:List Signal) (name:Str):AV:=.tup [.int .i64 ((findV env name).getD 0),.bool (findV env name).isSome]
theorem findV_at {env:List Signal} {name:Str} {i:Nat} {s:Signal} (h:env[i]?=some s) (hz:∀ x∈env.take i,x.name≠name) (hs:s.name=name):findV env name=some (wrapW s.value):=by
 have e:env=env.take i++s::env.drop (i+1):=by
  rw [← drop_cons h,List.take_append_drop]
 unfold findV
 have hn:(env.take i).find? (fun s=>s.name==name)=none:=by
  rw [List.find?_eq_none]
  intro x hx
  simpa using hz x hx
 rw [e,List.find?_append,hn]
 simp [hs]
theorem findV_none {env:List Signal} {name:Str} (h:∀ x∈env,x.name≠name):findV env name=none:=by
 unfold findV
 have hn:env.find? (fun s=>s.name==name)=none:=by
  rw [List.find?_eq_none]
  intro x hx
  simpa using h x hx
 rw [hn];rfl
theorem find164 (env:List Signal) (name:Str) (hl:Fits env):Pure Tryz.prog GG 164 [.agg [.sl 2 (env.map encSignal) .none],.str name] (findR env name):=by
 refine Pure.vc mixed Tryz.func164 rfl (by kernel_rfl) ?_
 simp
 refine vcLoop.intro (fun n e σ=>∃ i tl,i≤env.length∧n=env.length-i∧e 1=.str name∧e 9=.sl 2 (env.map encSignal) .none∧e 10=.int .i64 env.length∧e 11=.int .i64 i∧σ=⟨tl,[]⟩∧∀ x∈env.take i,x.name≠name) env.length ⟨0,_,by simp,by simp,by simp,by simp,by simp,by simp,rfl,by simp⟩ ?_
 rintro n e σ ⟨i,tl,hi,rfl,h1,h9,h10,h11,rfl,hz⟩
 cases hv:env[i]? with
 | some s=>
  obtain⟨hc,hv'⟩:=List.getElem?_eq_some_iff.1 hv
  by_cases hs:s.name=name
  · have x:=findV_at hv hz hs
    simp [h1,h9,h10,h11,hc,hv',hs,List.set_append]
    refine vcCall.call (wrap236 s.value) rfl ?_
    simp [findR,x]
  · simp [h1,h9,h10,h11,hc,hv',hs,List.set_append]
    exact⟨_,by omega,i+1,by omega,rfl,wr (by omega) (by omega),take_succ_all hv hz hs⟩
 | none=>
  have hc:¬ i<env.length:=by simp at hv;omega
  have ht:env.take i=env:=List.take_of_length_le (by omega)
  rw [ht] at hz
  have x:=findV_none hz
  simp [h1,h9,h10,h11,hc,findR,x]
def atR (env:List Signal) (a:Str) (i:Int):AV:=if 0≤i∧i<8 then findR env (elemS a i.toNat) else .tup [.int .i64 0,.bool false]
theorem at165 (env:List Signal) (a:Str) (i:Int) (hl:Fits env) (ha:a.length≤1000):Pure Tryz.prog GG 165 [.agg [.sl 2 (env.map encSignal) .none],.str a,.int .i64 i] (atR env a i):=by
 refine Pure.vc mixed Tryz.func165 rfl (by kernel_rfl) ?_
 unfold atR
 by_cases c0:i<0
 · rw [if_neg (by omega)]
   simp [c0]
 by_cases c1:8≤i
 · rw [if_neg (by omega)]
   simp [c0,c1]
 rw [if_pos (by omega)]
 obtain⟨n,rfl⟩:=Int.eq_ofNat_of_zero_le (show 0≤i by omega)
 have hn:n<8:=by omega
 have h1:a.length+1≤4611686018427387904:=by omega
 have h2:a.length+(1+1)≤4611686018427387904:=by omega
 have h3:a.length+(1+(1+1))≤4611686018427387904:=by omega
 have h4:a.length+1+1≤4611686018427387904:=by omega
 have h5:a.length+1+1+1≤4611686018427387904:=by omega
 have w1:IntKind.i64.wrap (48+(n:Int))=((48+n:Nat):Int):=by rw [wr (by omega) (by omega)];omega
 have w2:IntKind.u8.wrap ((48+n:Nat):Int)=((48+n:Nat):Int):=by simp [IntKind.wrap,IntKind.bits,IntKind.signed];omega
 have he:a++[91,UInt8.ofNat (48+n),93]=elemS a n:=rfl
 have hf:=find164 env (elemS a n) hl
 have w3:IntKind.u8.wrap (48+(n:Int))=((48+n:Nat):Int):=by rw [← w2];congr 1
 have w4:UInt8.ofNat (((48+n:Nat):Int)).toNat=UInt8.ofNat (48+n):=by rw [Int.toNat_natCast]
 have w5:UInt8.ofNat (IntKind.u8.wrap (48+(n:Int))).toNat=UInt8.ofNat (48+n):=by rw [w3,w4]
 simp [c0,c1,h1,h2,h3,h4,h5,w1,convA,buildSliceA,rowsFill,bytesOf]
 rw [w5,he]
 refine vcCall.call hf (by simp) ?_
 simp [findR]
theorem atR_val {env:List Signal} {a:Str} {i:Int}:∃ b,atR env a i=.tup [.int .i64 (atV env a i),.bool b]∧(i=0→b=(findV env (elemS a 0)).isSome):=by
 unfold atR atV
 by_cases h:0≤i∧i<8
 · rw [if_pos h,if_pos h]
   exact⟨_,rfl,fun e=>by subst e;rfl⟩
 · rw [if_neg h,if_neg h]
   exact⟨false,rfl,fun e=>absurd (by omega) h⟩
theorem sum166 (env:List Signal) (a:Str) (hl:Fits env) (ha:a.length≤1000):Pure Tryz.prog GG 166 [.agg [.sl 2 (env.map encSignal) .none],.str a] (.int .i64 (sumV env a 8)):=by
 refine Pure.vc mixed Tryz.func166 rfl (by kernel_rfl) ?_
 simp
 refine vcLoop.intro (fun n e σ=>∃ i:Nat,i≤8∧n=8-i∧e 1=.str a∧e 2=.ptr 0 0∧e 5=.int .i64 (sumV env a i)∧e 9=.int .i64 i∧σ=⟨[.cells [.sl 2 (env.map encSignal) .none]],[]⟩) 8 ⟨0,by simp [sumV]⟩ ?_
 rintro n e σ ⟨i,hi,rfl,h1,h2,h5,h9,rfl⟩
 by_cases hc:i<8
 · have hc':(i:Int)<8:=by omega
   obtain⟨b,hb,_⟩:=atR_val (env:=env) (a:=a) (i:=i)
   have hat:=at165 env a i hl ha
   rw [hb] at hat
   simp [h1,h2,h5,h9,hc']
   refine vcCall.call hat (by simp) ?_
   simp [h1,h2,h5,h9]
   refine vcCall.call (add237 _ _) rfl ?_
   simp [h1,h2,h5,h9]
   exact⟨_,by omega,i+1,by omega,rfl,rfl,wr (by omega) (by omega)⟩
 · have hi':i=8:=by omega
   subst hi'
   simp [h1,h2,h5,h9]
theorem intOp_eql (k:IntKind) (a b:Int):intOp .eql k a b=some (.bool (a==b)):=rfl
set_option maxHeartbeats 2000000 in
theorem double239 (op:Int) (x y:Nat) (hx:x<65536) (hy:y<65536):Pure Tryz.prog GG 239 [.int .i64 op,.int .i64 x,.int .i64 y] (.int .i64 (binW op x y)):=by
 refine Pure.vc mixed Tryz.func239 rfl (by kernel_rfl) ?_
 have n1:=nat_and hx hy
 have n2:=nat_or hx hy
 have n3:=nat_xor hx hy
 by_cases h7:op=7
 · subst h7
   simp
   refine vcCall.call (add237 x y) rfl ?_
   simp [binW]
 by_cases h8:op=8
 · subst h8
   simp
   refine vcCall.call (sub301 x y) rfl ?_
   simp [binW]
 by_cases h9:op=9
 · subst h9
   simp
   refine vcCall.call (mul302 x y) rfl ?_
   simp [binW]
 by_cases h10:op=10
 · subst h10
   have hb:binW 10 x y=((x &&& y:Nat):Int):=by simp [binW]
   rw [hb]
   simp [n1,intOp_eql,-intOp]
 by_cases h11:op=11
 · subst h11
   have hb:binW 11 x y=((x ||| y:Nat):Int):=by simp [binW]
   rw [hb]
   simp [n2,intOp_eql,-intOp]
 by_cases h12:op=12
 · subst h12
   have hb:binW 12 x y=((x ^^^ y:Nat):Int):=by simp [binW]
   rw [hb]
   simp [n3,intOp_eql,-intOp]
 by_cases h13:op=13
 · subst h13
   simp
   refine vcCall.call (shl303 x y) rfl ?_
   simp [binW,shlW]
 by_cases h14:op=14
 · subst h14
   simp
   refine vcCall.call (shr304 x y) rfl ?_
   simp [binW,shrW]
 by_cases h15:op=15
 · subst h15
   simp
   refine vcCall.call (truth297 _) rfl ?_
   try simp only [beq_dec,bne_dec]
   by_cases h:x=y<;>simp [binW,h]
 by_cases h16:op=16
 · subst h16
   simp
   refine vcCall.call (truth297 _) rfl ?_
   try simp only [beq_dec,bne_dec]
   by_cases h:x=y<;>simp [binW,h]
 by_cases h17:op=17
 · subst h17
   simp
   refine vcCall.call (truth297 _) rfl ?_
   by_cases h:x<y<;>simp [binW,h]
 by_cases h18:op=18
 · subst h18
   simp
   refine vcCall.call (truth297 _) rfl ?_
   by_cases h:x≤y<;>simp [binW,h]
 by_cases h19:op=19
 · subst h19
   by_cases h:x=0
   · simp [h]
     refine vcCall.call (truth297 _) rfl ?_
     simp [binW,h]
   · simp [h]
     refine vcCall.call (truth297 _) rfl ?_
     (try simp only [beq_dec,bne_dec]);by_cases h':y=0<;>simp [binW,h,h']
 by_cases h20:op=20
 · subst h20
   by_cases h:x=0
   · simp [h]
     refine vcCall.call (truth297 _) rfl ?_
     (try simp only [beq_dec,bne_dec]);by_cases h':y=0<;>simp [binW,h,h']
   · simp [h]
     refine vcCall.call (truth297 _) rfl ?_
     simp [binW,h]
 have hb:binW op x y=b2i (decide ((x:Int)=0)||!decide ((y:Int)=0)):=by simp [binW,h7,h8,h9,h10,h11,h12,h13,h14,h15,h16,h17,h18,h19,h20]
 rw [hb]
 by_cases h:x=0
 · simp [h7,h8,h9,h10,h11,h12,h13,h14,h15,h16,h17,h18,h19,h20,h]
   refine vcCall.call (truth297 _) rfl ?_
   simp
 · simp [h7,h8,h9,h10,h11,h12,h13,h14,h15,h16,h17,h18,h19,h20,h]
   refine vcCall.call (truth297 _) rfl ?_
   try simp only [beq_dec,bne_dec]
   by_cases h':y=0<;>simp [h,h']
section
theorem opW_1 {op a:Int} (h22:op≠22) (h23:op≠23):opW op [a]=unW op a:=by simp [opW,h22,h23]
theorem opW_2 {op a b:Int} (h22:op≠22) (h23:op≠23):opW op [a,b]=binW op a b:=by simp [opW,h22,h23]
theorem opW_22 {l:List Int}:opW 22 l=if l.getD 0 0≠0 then l.getD 1 0 else l.getD 2 0:=by simp [opW]
theorem opW_23 {l:List Int}:opW 23 l=b2i (insideW (l.getD 0 0) l.tail):=by simp [opW]
theorem insideW_cons {a x y:Int} {r:List Int}:insideW a (x::y::r)=((decide (x≤a)&&decide (a≤y))||insideW a r):=by simp [insideW]
theorem insideW_short {a:Int} {r:List Int} (h:r.length<2):insideW a r=false:=by
 match r,h with
 | [],_=>rfl
 | [x],_=>rfl
 | x::y::r,h=>simp at h;omega
theorem all_bad {α:Type} {p:α→Bool} {l:List α} {a:α} (h:a∈l) (hp:p a=false):l.all p=false:=by
 rw [Bool.eq_false_iff]
 intro e
 rw [List.all_eq_true.1 e a h] at hp;cases hp
theorem list3 {l:List Int} (h:l.length=3):∃ a b c,l=[a,b,c]:=by
 match l,h with
 | [a,b,c],_=>exact⟨a,b,c,rfl⟩
theorem list1 {l:List Int} (h:l.length=1):∃ a,l=[a]:=by
 match l,h with
 | [a],_=>exact⟨a,rfl⟩
theorem list2 {l:List Int} (h:l.length=2):∃ a b,l=[a,b]:=by
 match l,h with
 | [a,b],_=>exact⟨a,b,rfl⟩
set_option maxHeartbeats 1000000 in
theorem operate167 (op:Int) (l:List Int) (hr:∀ v∈l,0≤v∧v≤65535) (h22:op=22→l.length=3) (h23:op=23→3≤l.length∧l.length≤33) (ho:op≠22→op≠23→l.length=1∨l.length=2) :
 Pure Tryz.prog GG 167 [.int .i64 op,.sl 1 (l.map encInt) .none] (.int .i64 (opW op l)):=by
 refine Pure.vc mixed Tryz.func167 rfl (by kernel_rfl) ?_
 by_cases c22:op=22
 · obtain⟨a,b,c,rfl⟩:=list3 (h22 c22)
   subst c22
   by_cases ha:a=0
   · simp [ha,opW_22]
   · simp [ha,opW_22]
 by_cases c23:op=23
 · obtain⟨h3,h33⟩:=h23 c23
   subst c23
   obtain⟨a,ga⟩:∃ a,l[0]?=some a:=⟨_,List.getElem?_eq_getElem (by omega)⟩
   obtain⟨g0,ga'⟩:=List.getElem?_eq_some_iff.1 ga
   have hw:opW 23 l=b2i (insideW a (l.drop 1)):=by
    rw [opW_23,List.getD_eq_getElem?_getD,ga]
    simp
   rw [hw]
   generalize hT:insideW a (l.drop 1)=T
   simp
   refine vcLoop.intro (fun n env σ=>∃ i:Nat,1≤i∧i≤l.length+1∧n=l.length+1-i∧env 1=.sl 1 (l.map encInt) .none∧env 5=.int .i64 i∧σ=⟨[],[]⟩∧insideW a (l.drop i)=T) l.length ⟨1,by simp,by omega,by omega,by simp,by simp,rfl,hT⟩ ?_
   rintro n env σ ⟨i,hi1,hi2,rfl,h1,h5,rfl,hin⟩
   have w1:IntKind.i64.wrap ((i:Int)+1)=(i:Int)+1:=wr (by omega) (by omega)
   have w2:IntKind.i64.wrap ((i:Int)+2)=((i+2:Nat):Int):=by rw [wr (by omega) (by omega)];omega
   have n1:((i:Int)+1).toNat=i+1:=by omega
   have p1:(0:Int)≤(i:Int)+1:=by omega
   by_cases hc:i+1<l.length
   · obtain⟨x,gx⟩:∃ x,l[i]?=some x:=⟨_,List.getElem?_eq_getElem (by omega)⟩
     obtain⟨y,gy⟩:∃ y,l[i+1]?=some y:=⟨_,List.getElem?_eq_getElem (by omega)⟩
     obtain⟨q1,gx'⟩:=List.getElem?_eq_some_iff.1 gx
     obtain⟨q2,gy'⟩:=List.getElem?_eq_some_iff.1 gy
     rw [drop_cons gx,drop_cons gy,insideW_cons] at hin
     have hc':(i:Int)+1<l.length:=by omega
     by_cases c1:x≤a
     · by_cases c2:a≤y
       · have hT1:T=true:=by rw [← hin];simp [c1,c2]
         rw [hT1]
         simp [h1,h5,w1,n1,p1,hc',hc,q1,q2,g0,ga',gx',gy',c1,c2,b2i]
       · have hin:insideW a (l.drop (i+2))=T:=by rw [← hin];simp [c1,c2]
         simp [h1,h5,w1,w2,n1,p1,hc',hc,q1,q2,g0,ga',gx',gy',c1,c2]
         exact⟨_,by omega,i+2,by omega,by omega,rfl,by omega,hin⟩
     · have hin:insideW a (l.drop (i+2))=T:=by rw [← hin];simp [c1]
       simp [h1,h5,w1,w2,n1,p1,hc',hc,q1,q2,g0,ga',gx',gy',c1]
       exact⟨_,by omega,i+2,by omega,by omega,rfl,by omega,hin⟩
   · have hc':¬ (i:Int)+1<l.length:=by omega
     have hs:T=false:=by rw [← hin];exact insideW_short (by simp;omega)
     rw [hs]
     simp [h1,h5,w1,hc',b2i]
 · rcases ho c22 c23 with h|h
   · obtain⟨a,rfl⟩:=list1 h
     rw [opW_1 c22 c23]
     simp [c22,c23]
     refine vcCall.call (single238 op a) rfl ?_
     simp
   · obtain⟨a,b,rfl⟩:=list2 h
     obtain⟨a0,a1⟩:=hr a (by simp)
     obtain⟨b0,b1⟩:=hr b (by simp)
     obtain⟨x,rfl⟩:=Int.eq_ofNat_of_zero_le a0
     obtain⟨y,rfl⟩:=Int.eq_ofNat_of_zero_le b0
     rw [opW_2 c22 c23]
     simp [c22,c23]
     refine vcCall.call (double239 op x y (by omega) (by omega)) rfl ?_
     simp
def outN (s:List Int):AV:=match s with
 | []=>.sl 0 [] .nil
 | a::r=>.sl 1 ((a::r).map encInt) (.chain 0 (r.length+1))
def outTN (s:List Int):List (Option Nat):=match s with
 | []=>[]
 | _::r=>[some (r.length+1)]
theorem outN_ref (s:List Int):noRef (plain (outN s))=true:=by cases s<;>simp [outN]
theorem outN_leq (s:List Int):Leq (plain (outN s)) (.sl 1 (s.map encInt) .none):=by
 cases s with
 | nil=>simp [outN,Leq]
 | cons a r=>exact Leq.sl rfl
section
variable {P:Program} {G:Nat→AV} {σ:St} {f:FuncId} {Q:AV→St→Prop} {r:AV}
theorem vcCall.outN2 {d:Bool} {a:AV} {s:List Int} (ha:noRef a=true) (h:Abs.Pure P G f [a,.sl 1 (s.map encInt) .none] r) (hq:Q r σ):vcCall P G d f [a,outN s] σ Q:=by
 refine vcCall.pure h ?_ ?_ hq
 · simp only [List.map_cons,List.map_nil,noRefs,outN_ref,plain_noRef ha,ha,Bool.and_self]
 · simp only [List.map_cons,List.map_nil,LeqL,and_true,plain_noRef ha]
   exact⟨Leq.refl _,outN_leq s⟩
end
theorem args_of {e:Ex} (h:NodesOk e) {n:Nat} (hop:e.op≠23) (ha:arityS e.op=n):e.args.length=n:=by
 obtain⟨_,_,_,_,ho,_⟩:=nodeE_zero h.self
 have:=operands_args ho hop
 omega
theorem args_le {e:Ex} (h:NodesOk e):e.args.length≤33:=by
 obtain⟨_,_,_,_,ho,_⟩:=nodeE_zero h.self
 by_cases h23:e.op=23
 · have:=operands_in ho h23;omega
 · have:=operands_args ho h23
   unfold arityS at this
   repeat' split at this
   all_goals omega
theorem op_args {e:Ex} (h:NodesOk e) (h1:e.op≠1) (h2:e.op≠2) (h3:e.op≠3) (h24:e.op≠24) (h22:e.op≠22) (h23:e.op≠23):e.args.length=1∨e.args.length=2:=by
 obtain⟨k1,k2,_,_,ho,_⟩:=nodeE_zero h.self
 have:=operands_args ho h23
 unfold arityS at this
 rw [if_neg (by omega)] at this
 repeat' split at this
 all_goals omega
set_option maxHeartbeats 1000000 in
theorem value97 (env:List Signal) (hl:Fits env):∀ e,Wen e→NodesOk e→Pure Tryz.prog GG 97 [.agg [.sl 2 (env.map encSignal) .none],.agg (encE e)] (.int .i64 (valV env e)):=by
 refine Ex.ind fun e ih hwe hn=>?_
 refine Pure.vc mixed Tryz.func97 rfl (by kernel_rfl) ?_
 have hfa:=hwe.fits
 have hrg:∀ v∈e.args.map (valV env),0≤v∧v≤65535:=by
  intro v hv
  obtain⟨a,ha,rfl⟩:=List.mem_map.1 hv
  exact valV_range env a (hn.arg ha)
 obtain⟨k1,k2,k3,k4,k5,k6,k7,k8⟩:=nodeE_zero hn.self
 simp only [encE_eq e]
 simp
 refine vcLoop.intro (fun n ev σ=>∃ i tl,i≤e.args.length∧n=e.args.length-i∧ev 2=.ptr 0 0∧ev 3=.ptr 1 0∧ev 5=outN ((e.args.map (valV env)).take i)∧ev 13=.sl 4 (e.args.map encE) .none∧ev 14=.int .i64 e.args.length∧ev 15=.int .i64 i∧σ=⟨.cells [.sl 2 (env.map encSignal) .none]::.cells (encE e)::tl,outTN ((e.args.map (valV env)).take i)⟩) e.args.length ⟨0,[],by simp,by simp,by simp,by simp,by simp [outN],by simp,by simp,by simp,by simp [encE_eq e,outTN]⟩ ?_
 rintro n ev σ ⟨i,tl,hi,rfl,h2,h3,h5,h13,h14,h15,rfl⟩
 cases hv:e.args[i]? with
 | some a=>
  obtain⟨hc,hv'⟩:=List.getElem?_eq_some_iff.1 hv
  have hm:=List.mem_of_getElem? hv
  have ht:(e.args.map (valV env)).take (i+1)=(e.args.map (valV env)).take i++[valV env a]:=by
   rw [List.take_add_one,List.getElem?_map,hv];rfl
  have hlen:((e.args.map (valV env)).take i).length≤e.args.length:=by simp;omega
  generalize hR:(e.args.map (valV env)).take i=R at h5 ht hlen ⊢
  have ih:=ih a hm (hwe.arg hm) (hn.arg hm)
  simp [h2,h3,h5,h13,h14,h15,hc,hv',encE_eq a,List.set_append]
  rw [← encE_eq a]
  refine vcCall.call ih (by simp) ?_
  cases R with
  | nil=>
   simp only [outN] at h5
   simp [outN,outTN,appendA,buildSliceA,rowsFill,rowsOf,h2,h3,h13,h14,h15]
   exact⟨_,by omega,i+1,by omega,rfl,by rw [ht];simp [outN],wr (by omega) (by omega),by rw [ht];simp [outTN]⟩
  | cons b r=>
   have hb:r.length≤1073741822:=by have:=args_le hn;simp at hlen;omega
   simp only [outN] at h5
   simp [outN,outTN,appendA,buildSliceA,rowsFill,rowsOf,hb,h2,h3,h13,h14,h15]
   exact⟨_,by omega,i+1,by omega,rfl,by rw [ht];simp [outN],wr (by omega) (by omega),by rw [ht];simp [outTN]⟩
 | none=>
  have hc:¬ i<e.args.length:=by simp at hv;omega
  rw [List.take_of_length_le (by simp;omega)] at h5 ⊢
  rw [valV_eq]
  generalize hR:e.args.map (valV env)=R at h5 hrg ⊢
  have hRl:R.length=e.args.length:=by rw [← hR];simp
  unfold nodeV
  by_cases c1:e.op=1
  · simp [h2,h3,h5,h13,h14,h15,hc,encE_eq e,c1]
  by_cases c2:e.op=2
  · simp [h2,h3,h5,h13,h14,h15,hc,encE_eq e,c1,c2]
    refine vcCall.call (find164 env e.name hl) (by simp) ?_
    simp [findR]
  by_cases c3:e.op=3
  · have hname:=name_len (k7 (.inl c3))
    obtain⟨v,rfl⟩:=list1 (l:=R) (by rw [hRl];exact args_of hn (n:=1) (by omega) (by rw [c3];decide))
    obtain⟨b,hb,_⟩:=atR_val (env:=env) (a:=e.name) (i:=v)
    have hat:=at165 env e.name v hl (by omega)
    rw [hb] at hat
    simp only [outN] at h5
    simp [h2,h3,h5,h13,h14,h15,hc,encE_eq e,c1,c2,c3]
    refine vcCall.call hat (by simp) ?_
    simp
  by_cases c24:e.op=24
  · have hname:=name_len (k7 (.inr c24))
    simp [h2,h3,h5,h13,h14,h15,hc,encE_eq e,c1,c2,c3,c24]
    refine vcCall.call (sum166 env e.name hl (by omega)) (by simp) ?_
    simp
  · simp [h2,h3,h5,h13,h14,h15,hc,encE_eq e,c1,c2,c3,c24]
    refine vcCall.outN2 (by simp) (operate167 e.op R hrg (fun c=>?_) (fun c=>?_) (fun c22 c23=>?_)) ?_
    · rw [hRl];exact args_of hn (n:=3) (by omega) (by rw [c];decide)
    · rw [hRl];have:=operands_in k5 c;omega
    · rw [hRl];exact op_args hn c1 c2 c3 c24 c22 c23
    · simp
end
end Go.Proofs.YtpgcmnabljandaaGreatDoor
end
