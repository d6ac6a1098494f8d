/- A part of the proof. -/
import Derived.Test.YtpgcmnabljandaaGreatDoorPa36
set_option maxHeartbeats 16000000
set_option linter.unusedVariables false
set_option linter.unusedSimpArgs false
set_option maxRecDepth 100000
set_option linter.defProp false
attribute [local simp] Go.Abs.acells Go.Abs.fin Go.Abs.zh Go.Abs.ze Go.Abs.pl1 Go.Abs.plain Go.Abs.pl2 Go.Abs.AV.atom
section
namespace Go.Proofs.YtpgcmnabljandaaGreatDoor
open Go Go.Abs
theorem Wh (k:IntKind)(a b:Int):QQ .eql k a b=some (.bool (a==b)):=rfl
theorem qk6 (op:Int)(x y:Nat)(hx:x<65536)(hy:y<65536):PZ 239 [.int .i64 op,.int .i64 x,.int .i64 y] (.int .i64 (JP op x y)):=by
 refine Pure.vc qg Tryz.func239 rfl (by kernel_rfl) ?_;have n1:=qp5 hx hy;have n2:=nat_or hx hy;have n3:=qp4 hx hy;by_cases h7:op=7
 . subst h7;simp;refine qe.call (qoM x y) rfl ?_;simp[JP]
 by_cases h8:op=8
 . subst h8;simp;refine qe.call (sub301 x y) rfl ?_;simp[JP]
 by_cases h9:op=9
 . subst h9;simp;refine qe.call (mul302 x y) rfl ?_;simp[JP]
 by_cases h10:op=10
 . subst h10;have hb:JP 10 x y=((x &&& y:Nat):Int):=(by simp[JP]);rw[hb];simp[n1,Wh,-QQ]
 by_cases h11:op=11
 . subst h11;have hb:JP 11 x y=((x ||| y:Nat):Int):=(by simp[JP]);rw[hb];simp[n2,Wh,-QQ]
 by_cases h12:op=12
 . subst h12;have hb:JP 12 x y=((x ^^^ y:Nat):Int):=(by simp[JP]);rw[hb];simp[n3,Wh,-QQ]
 by_cases h13:op=13
 . subst h13;simp;refine qe.call (shl303 x y) rfl ?_;simp[JP,shlW]
 by_cases h14:op=14
 . subst h14;simp;refine qe.call (shr304 x y) rfl ?_;simp[JP,shrW]
 by_cases h15:op=15
 . subst h15;simp;refine qe.call (ke _) rfl ?_
   try simp only[Yl,WY]
   by_cases h:x=y<;>simp[JP,h]
 by_cases h16:op=16
 . subst h16;simp;refine qe.call (ke _) rfl ?_
   try simp only[Yl,WY]
   by_cases h:x=y<;>simp[JP,h]
 by_cases h17:op=17
 . subst h17;simp;refine qe.call (ke _) rfl ?_;by_cases h:x<y<;>simp[JP,h]
 by_cases h18:op=18
 . subst h18;simp;refine qe.call (ke _) rfl ?_;by_cases h:x<=y<;>simp[JP,h]
 by_cases h19:op=19
 . subst h19;by_cases h:x=0
   . simp[h];refine qe.call (ke _) rfl ?_;simp[JP,h]
   . simp[h];refine qe.call (ke _) rfl ?_
     (try simp only[Yl,WY]);by_cases h':y=0<;>simp[JP,h,h']
 by_cases h20:op=20
 . subst h20;by_cases h:x=0
   . simp[h];refine qe.call (ke _) rfl ?_
     (try simp only[Yl,WY]);by_cases h':y=0<;>simp[JP,h,h']
   . simp[h];refine qe.call (ke _) rfl ?_;simp[JP,h]
 have hb:JP op x y=b2i (decide ((x:Int)=0)||!decide ((y:Int)=0)):=by simp[JP,h7,h8,h9,h10,h11,h12,h13,h14,h15,h16,h17,h18,h19,h20]
 rw[hb];by_cases h:x=0
 . simp[h7,h8,h9,h10,h11,h12,h13,h14,h15,h16,h17,h18,h19,h20,h];refine qe.call (ke _) rfl ?_;simp
 . simp[h7,h8,h9,h10,h11,h12,h13,h14,h15,h16,h17,h18,h19,h20,h];refine qe.call (ke _) rfl ?_
   try simp only[Yl,WY]
   by_cases h':y=0<;>simp[h,h']
end Go.Proofs.YtpgcmnabljandaaGreatDoor
end
