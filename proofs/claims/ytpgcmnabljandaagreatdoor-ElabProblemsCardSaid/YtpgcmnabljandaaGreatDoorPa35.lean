/- A part of the proof. -/
import Derived.Test.YtpgcmnabljandaaGreatDoorPa30
import Derived.Test.YtpgcmnabljandaaGreatDoorPa18
set_option linter.unusedVariables false
set_option linter.unusedSimpArgs false
set_option maxRecDepth 100000
set_option linter.defProp false
attribute [local simp] Go.Abs.acells Go.Abs.fin Go.Abs.zh Go.Abs.ze Go.Abs.pl1 Go.Abs.plain Go.Abs.pl2 Go.Abs.AV.atom
section
namespace Go.Proofs.YtpgcmnabljandaaGreatDoor
open Go Go.Abs
theorem qku:PZ 100 [.int .i64 8] (.str [UInt8.ofNat (48+8)]):=itoa9 8 (by omega)
theorem ZU (a:Str)(i:Nat)(hi:i<=8)(ha:a.length<=1000):PZ 181 [.str a,.int .i64 i] (.str (qH a i)):=by
 rcases Nat.lt_or_eq_of_le hi with h|h
 . exact Zl a i h ha
 . subst h;refine Pure.vc qg Tryz.func181 rfl (by kernel_rfl) ?_;have h1:a.length+1<=4611686018427387904:=(by omega);have h2:a.length+(1+1)<=4611686018427387904:=(by omega);have h3:a.length+(1+(1+1))<=4611686018427387904:=(by omega);have h4:a.length+1+1<=4611686018427387904:=(by omega);have h5:a.length+1+1+1<=4611686018427387904:=(by omega);simp[h1];refine qe.call qku rfl ?_;simp[h2,h3,h4,h5,qH]
end Go.Proofs.YtpgcmnabljandaaGreatDoor
end
