/- A part of the proof. -/
import Derived.Test.YtkpkjbchlabaaaaGreatDoorSa25
set_option maxHeartbeats 16000000
set_option linter.unusedVariables false
set_option linter.unusedSimpArgs false
set_option maxRecDepth 100000
set_option linter.defProp false
section
namespace Go.Proofs.YtkpkjbchlabaaaaGreatDoor
open Go Go.Abs
theorem YO (k:IntKind)(a b:Int):zp .eql k a b=some (.bool (a==b)):=rfl
theorem qiI (op:Int)(x y:Nat)(hx:x<65536)(hy:y<65536):Pure Tryz.prog GG 197 [.int .i64 op,.int .i64 x,.int .i64 y] (.int .i64 (yN op x y)):=by
 refine Pure.vc qe Tryz.func197 rfl (by kernel_rfl) ?_;have n1:=qoU hx hy;have n2:=nat_or hx hy;have n3:=qoT hx hy;by_cases h7:op=7
 . subst h7;simp;refine qb.call (qny x y) rfl ?_;simp[yN]
 by_cases h8:op=8
 . subst h8;simp;refine qb.call (sub301 x y) rfl ?_;simp[yN]
 by_cases h9:op=9
 . subst h9;simp;refine qb.call (mul302 x y) rfl ?_;simp[yN]
 by_cases h10:op=10
 . subst h10;have hb:yN 10 x y=((x &&& y:Nat):Int):=(by simp[yN]);rw[hb];simp[n1,YO,-zp]
 by_cases h11:op=11
 . subst h11;have hb:yN 11 x y=((x ||| y:Nat):Int):=(by simp[yN]);rw[hb];simp[n2,YO,-zp]
 by_cases h12:op=12
 . subst h12;have hb:yN 12 x y=((x ^^^ y:Nat):Int):=(by simp[yN]);rw[hb];simp[n3,YO,-zp]
 by_cases h13:op=13
 . subst h13;simp;refine qb.call (shl303 x y) rfl ?_;simp[yN,shlW]
 by_cases h14:op=14
 . subst h14;simp;refine qb.call (shr304 x y) rfl ?_;simp[yN,shrW]
 by_cases h15:op=15
 . subst h15;simp;refine qb.call (j9 _) rfl ?_
   try simp only[ZR,Kf]
   by_cases h:x=y<;>simp[yN,h]
 by_cases h16:op=16
 . subst h16;simp;refine qb.call (j9 _) rfl ?_
   try simp only[ZR,Kf]
   by_cases h:x=y<;>simp[yN,h]
 by_cases h17:op=17
 . subst h17;simp;refine qb.call (j9 _) rfl ?_;by_cases h:x<y<;>simp[yN,h]
 by_cases h18:op=18
 . subst h18;simp;refine qb.call (j9 _) rfl ?_;by_cases h:x<=y<;>simp[yN,h]
 by_cases h19:op=19
 . subst h19;by_cases h:x=0
   . simp[h];refine qb.call (j9 _) rfl ?_;simp[yN,h]
   . simp[h];refine qb.call (j9 _) rfl ?_
     (try simp only[ZR,Kf]);by_cases h':y=0<;>simp[yN,h,h']
 by_cases h20:op=20
 . subst h20;by_cases h:x=0
   . simp[h];refine qb.call (j9 _) rfl ?_
     (try simp only[ZR,Kf]);by_cases h':y=0<;>simp[yN,h,h']
   . simp[h];refine qb.call (j9 _) rfl ?_;simp[yN,h]
 have hb:yN op x y=b2i (decide ((x:Int)=0)||!decide ((y:Int)=0)):=by simp[yN,h7,h8,h9,h10,h11,h12,h13,h14,h15,h16,h17,h18,h19,h20]
 rw[hb];by_cases h:x=0
 . simp[h7,h8,h9,h10,h11,h12,h13,h14,h15,h16,h17,h18,h19,h20,h];refine qb.call (j9 _) rfl ?_;simp
 . simp[h7,h8,h9,h10,h11,h12,h13,h14,h15,h16,h17,h18,h19,h20,h];refine qb.call (j9 _) rfl ?_
   try simp only[ZR,Kf]
   by_cases h':y=0<;>simp[h,h']
end Go.Proofs.YtkpkjbchlabaaaaGreatDoor
end
