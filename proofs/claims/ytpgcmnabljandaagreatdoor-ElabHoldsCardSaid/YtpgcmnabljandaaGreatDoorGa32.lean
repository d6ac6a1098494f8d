/- A part of the proof: Walk40. -/
import Derived.Test.YtpgcmnabljandaaGreatDoorGa17
import Derived.Test.YtpgcmnabljandaaGreatDoorGa19
import Derived.Test.YtpgcmnabljandaaGreatDoorGa20
set_option linter.unusedVariables false
set_option linter.unusedSimpArgs false
set_option maxRecDepth 100000
section
namespace Go.Proofs.YtpgcmnabljandaaGreatDoor
open Go Go.Abs
theorem itoa100_8:Pure Tryz.prog GG 100 [.int .i64 8] (.str [UInt8.ofNat (48+8)]):=Pure.closed' C00_ok 10 8 (by kernel_rfl)
theorem element181' (a:Str) (i:Nat) (hi:i≤8) (ha:a.length≤1000):Pure Tryz.prog GG 181 [.str a,.int .i64 i] (.str (elemS a i)):=by
 rcases Nat.lt_or_eq_of_le hi with h|h
 · exact element181 a i h ha
 · subst h
   refine Pure.vc mixed Tryz.func181 rfl (by kernel_rfl) ?_
   have h1:a.length+1≤4611686018427387904:=by omega
   have h2:a.length+(1+1)≤4611686018427387904:=by omega
   have h3:a.length+(1+(1+1))≤4611686018427387904:=by omega
   have h4:a.length+1+1≤4611686018427387904:=by omega
   have h5:a.length+1+1+1≤4611686018427387904:=by omega
   simp [h1]
   refine vcCall.call itoa100_8 rfl ?_
   simp [h2,h3,h4,h5,elemS]
end Go.Proofs.YtpgcmnabljandaaGreatDoor
end
