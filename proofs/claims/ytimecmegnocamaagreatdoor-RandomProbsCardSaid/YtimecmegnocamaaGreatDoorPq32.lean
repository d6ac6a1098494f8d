import Derived.Test.YtimecmegnocamaaGreatDoorPq30
set_option maxHeartbeats 16000000
set_option maxRecDepth 100000
set_option linter.all false
set_option linter.defProp false
namespace Go.Proofs.YtimecmegnocamaaGreatDoor
open Go Go.Abs Tryz
def K4(k a b):zz .eql k a b=some (.bool (a==b)):=rfl
def qli(op:Int)(x y:Nat)(hx:x<65536)(hy:y<65536):Pure prog GG 289 [.int .i64 op,.int .i64 x,.int .i64 y] (.int .i64 (jZ op x y)):=by
 refine qFP qg func289 rfl (by kernel_rfl) ?_;have n1:=qr1 hx hy;have n2:=quY hx hy;have n3:=qr0 hx hy;by_cases h7:op=7
 . subst h7;simp;refine qFz (qqq x y) rfl ?_;simp[jZ]
 by_cases h8:op=8
 . subst h8;simp;refine qFz (quk x y) rfl ?_;simp[jZ]
 by_cases h9:op=9
 . subst h9;simp;refine qFz (qu1 x y) rfl ?_;simp[jZ]
 by_cases h10:op=10
 . subst h10;have hb:jZ 10 x y=((x &&& y:Nat):Int):=(by simp[jZ]);rw[hb];simp[n1,K4,-zz]
 by_cases h11:op=11
 . subst h11;have hb:jZ 11 x y=((x ||| y:Nat):Int):=(by simp[jZ]);rw[hb];simp[n2,K4,-zz]
 by_cases h12:op=12
 . subst h12;have hb:jZ 12 x y=((x ^^^ y:Nat):Int):=(by simp[jZ]);rw[hb];simp[n3,K4,-zz]
 by_cases h13:op=13
 . subst h13;simp;refine qFz (quu x y) rfl ?_;simp[jZ,qtw]
 by_cases h14:op=14
 . subst h14;simp;refine qFz (qut x y) rfl ?_;simp[jZ,qpx]
 by_cases h15:op=15
 . subst h15;simp;refine qFz (yG _) rfl ?_
   try simp only[qeY]
   by_cases h:x=y<;>simp[jZ,h]
 by_cases h16:op=16
 . subst h16;simp;refine qFz (yG _) rfl ?_
   try simp only[Qy]
   by_cases h:x=y<;>simp[jZ,h]
 by_cases h17:op=17
 . subst h17;simp;refine qFz (yG _) rfl ?_;by_cases h:x<y<;>simp[jZ,h]
 by_cases h18:op=18
 . subst h18;simp;refine qFz (yG _) rfl ?_;by_cases h:x<=y<;>simp[jZ,h]
 by_cases h19:op=19
 . subst h19;by_cases h:x=0
   . simp[h];refine qFz (yG _) rfl ?_;simp[jZ]
   simp[h];refine qFz (yG _) rfl ?_
   (try simp only[Qy]);by_cases h':y=0<;>simp[jZ,h,h']
 by_cases h20:op=20
 . subst h20;by_cases h:x=0
   . simp[h];refine qFz (yG _) rfl ?_
     (try simp only[Qy]);by_cases h':y=0<;>simp[jZ,h']
   simp[h];refine qFz (yG _) rfl ?_;simp[jZ,h]
 rw[show jZ op x y=b2i (decide ((x:Int)=0)||!decide ((y:Int)=0)) by simp[jZ,h7,h8,h9,h10,h11,h12,h13,h14,h15,h16,h17,h18,h19,h20]];by_cases h:x=0
 . simp[h7,h8,h9,h10,h11,h12,h13,h14,h15,h16,h17,h18,h19,h20,h];refine qFz (yG _) rfl ?_;simp
 simp[h7,h8,h9,h10,h11,h12,h13,h14,h15,h16,h17,h18,h19,h20,h];refine qFz (yG _) rfl ?_
 try simp only[Qy]
 by_cases h':y=0<;>simp[h']
