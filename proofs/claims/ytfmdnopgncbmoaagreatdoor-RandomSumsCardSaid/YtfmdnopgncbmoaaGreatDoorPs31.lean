import Derived.Test.YtfmdnopgncbmoaaGreatDoorPs29
set_option maxHeartbeats 16000000
set_option maxRecDepth 100000
set_option linter.all false
set_option linter.defProp false
namespace Go.Proofs.YtfmdnopgncbmoaaGreatDoor
open Go Go.Abs Tryz
def YR(k a b):qu .eql k a b=some (.bool (a==b)):=rfl
def qjc(op:Int)(x y:Nat)(hx:x<65536)(hy:y<65536):Pure prog GG 222 [.int .i64 op,.int .i64 x,.int .i64 y] (.int .i64 (yK op x y)):=by
 refine qDb qe func222 rfl (by kernel_rfl) ?_;have n1:=qpK hx hy;have n2:=qsy hx hy;have n3:=qpJ hx hy;by_cases h7:op=7
 . subst h7;simp;refine qCW (qog x y) rfl ?_;simp[yK]
 by_cases h8:op=8
 . subst h8;simp;refine qCW (qr0 x y) rfl ?_;simp[yK]
 by_cases h9:op=9
 . subst h9;simp;refine qCW (qsz x y) rfl ?_;simp[yK]
 by_cases h10:op=10
 . subst h10;have hb:yK 10 x y=((x &&& y:Nat):Int):=(by simp[yK]);rw[hb];simp[n1,YR,-qu]
 by_cases h11:op=11
 . subst h11;have hb:yK 11 x y=((x ||| y:Nat):Int):=(by simp[yK]);rw[hb];simp[n2,YR,-qu]
 by_cases h12:op=12
 . subst h12;have hb:yK 12 x y=((x ^^^ y:Nat):Int):=(by simp[yK]);rw[hb];simp[n3,YR,-qu]
 by_cases h13:op=13
 . subst h13;simp;refine qCW (qr7 x y) rfl ?_;simp[yK,qvB]
 by_cases h14:op=14
 . subst h14;simp;refine qCW (qr6 x y) rfl ?_;simp[yK,qvz]
 by_cases h15:op=15
 . subst h15;simp;refine qCW (j8 _) rfl ?_
   try simp only[qjJ]
   by_cases h:x=y<;>simp[yK,h]
 by_cases h16:op=16
 . subst h16;simp;refine qCW (j8 _) rfl ?_
   try simp only[VO]
   by_cases h:x=y<;>simp[yK,h]
 by_cases h17:op=17
 . subst h17;simp;refine qCW (j8 _) rfl ?_;by_cases h:x<y<;>simp[yK,h]
 by_cases h18:op=18
 . subst h18;simp;refine qCW (j8 _) rfl ?_;by_cases h:x<=y<;>simp[yK,h]
 by_cases h19:op=19
 . subst h19;by_cases h:x=0
   . simp[h];refine qCW (j8 _) rfl ?_;simp[yK]
   simp[h];refine qCW (j8 _) rfl ?_
   (try simp only[VO]);by_cases h':y=0<;>simp[yK,h,h']
 by_cases h20:op=20
 . subst h20;by_cases h:x=0
   . simp[h];refine qCW (j8 _) rfl ?_
     (try simp only[VO]);by_cases h':y=0<;>simp[yK,h']
   simp[h];refine qCW (j8 _) rfl ?_;simp[yK,h]
 rw[show yK op x y=b2i (decide ((x:Int)=0)||!decide ((y:Int)=0)) by simp[yK,h7,h8,h9,h10,h11,h12,h13,h14,h15,h16,h17,h18,h19,h20]];by_cases h:x=0
 . simp[h7,h8,h9,h10,h11,h12,h13,h14,h15,h16,h17,h18,h19,h20,h];refine qCW (j8 _) rfl ?_;simp
 simp[h7,h8,h9,h10,h11,h12,h13,h14,h15,h16,h17,h18,h19,h20,h];refine qCW (j8 _) rfl ?_
 try simp only[VO]
 by_cases h':y=0<;>simp[h']
