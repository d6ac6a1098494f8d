/- A part of the proof: Walk44. -/
import Derived.Test.YtpgcmnabljandaaGreatDoorGa34
import Derived.Test.YtpgcmnabljandaaGreatDoorGa35
set_option linter.unusedVariables false
set_option linter.unusedSimpArgs false
set_option maxRecDepth 100000
section
namespace Go.Proofs.YtpgcmnabljandaaGreatDoor
open Go Go.Abs
section
attribute [local simp high] acells_encE
attribute [local simp] acells_int acells_str acells_bool acells_sl acells_agg encE_atoms encE_len putAt_encE putAt_encE2 take_encE
theorem capS_append:∀ {xs:List (Int×Int)} {s:Int} {m:Int×Int},capS s (xs++[m])=if 401<capS s xs+m.1 then 401 else capS s xs+m.1
 | [],s,m=>rfl
 | x::r,s,m=>by simp only [List.cons_append,capS];exact capS_append
end
end Go.Proofs.YtpgcmnabljandaaGreatDoor
end
