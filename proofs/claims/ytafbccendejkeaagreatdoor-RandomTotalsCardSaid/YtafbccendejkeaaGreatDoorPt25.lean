import Derived.Test.YtafbccendejkeaaGreatDoorPt23
set_option maxHeartbeats 16000000
set_option maxRecDepth 100000
set_option linter.all false
set_option linter.defProp false
namespace Go.Proofs.YtafbccendejkeaaGreatDoor
open Go Go.Abs Tryz
def KU(k a b):zw .eql k a b=some (.bool (a==b)):=rfl
def qkY(op:Int)(x y:Nat)(hx:x<65536)(hy:y<65536):Pure prog GG 300 [.int .i64 op,.int .i64 x,.int .i64 y] (.int .i64 (jU op x y)):=by
 refine qE9 qe func300 rfl (by kernel_rfl) ?_;have n1:=qj2 hx hy;have n2:=qpw hx hy;have n3:=qj1 hx hy;by_cases h7:op=7
 . subst h7;simp;refine qET (qp7 x y) rfl ?_;simp[jU]
 by_cases h8:op=8
 . subst h8;simp;refine qET (qtW x y) rfl ?_;simp[jU]
 by_cases h9:op=9
 . subst h9;simp;refine qET (quz x y) rfl ?_;simp[jU]
 by_cases h10:op=10
 . subst h10;have hb:jU 10 x y=((x &&& y:Nat):Int):=(by simp[jU]);rw[hb];simp[n1,KU,-zw]
 by_cases h11:op=11
 . subst h11;have hb:jU 11 x y=((x ||| y:Nat):Int):=(by simp[jU]);rw[hb];simp[n2,KU,-zw]
 by_cases h12:op=12
 . subst h12;have hb:jU 12 x y=((x ^^^ y:Nat):Int):=(by simp[jU]);rw[hb];simp[n3,KU,-zw]
 by_cases h13:op=13
 . subst h13;simp;refine qET (qt4 x y) rfl ?_;simp[jU,qs7]
 by_cases h14:op=14
 . subst h14;simp;refine qET (qt3 x y) rfl ?_;simp[jU,qpb]
 by_cases h15:op=15
 . subst h15;simp;refine qET (yw _) rfl ?_
   try simp only[qeX]
   by_cases h:x=y<;>simp[jU,h]
 by_cases h16:op=16
 . subst h16;simp;refine qET (yw _) rfl ?_
   try simp only[Qr]
   by_cases h:x=y<;>simp[jU,h]
 by_cases h17:op=17
 . subst h17;simp;refine qET (yw _) rfl ?_;by_cases h:x<y<;>simp[jU,h]
 by_cases h18:op=18
 . subst h18;simp;refine qET (yw _) rfl ?_;by_cases h:x<=y<;>simp[jU,h]
 by_cases h19:op=19
 . subst h19;by_cases h:x=0
   . simp[h];refine qET (yw _) rfl ?_;simp[jU]
   simp[h];refine qET (yw _) rfl ?_
   (try simp only[Qr]);by_cases h':y=0<;>simp[jU,h,h']
 by_cases h20:op=20
 . subst h20;by_cases h:x=0
   . simp[h];refine qET (yw _) rfl ?_
     (try simp only[Qr]);by_cases h':y=0<;>simp[jU,h']
   simp[h];refine qET (yw _) rfl ?_;simp[jU,h]
 have hb:jU op x y=b2i (decide ((x:Int)=0)||!decide ((y:Int)=0)):=by simp[jU,h7,h8,h9,h10,h11,h12,h13,h14,h15,h16,h17,h18,h19,h20]
 rw[hb];by_cases h:x=0
 . simp[h7,h8,h9,h10,h11,h12,h13,h14,h15,h16,h17,h18,h19,h20,h];refine qET (yw _) rfl ?_;simp
 simp[h7,h8,h9,h10,h11,h12,h13,h14,h15,h16,h17,h18,h19,h20,h];refine qET (yw _) rfl ?_
 try simp only[Qr]
 by_cases h':y=0<;>simp[h']
