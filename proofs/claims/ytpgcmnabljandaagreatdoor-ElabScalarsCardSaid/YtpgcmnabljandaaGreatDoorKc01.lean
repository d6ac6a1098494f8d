/- A part of the proof: texts Row8a. -/
import Derived.Test.YtpgcmnabljandaaGreatDoorRows
import Derived.ProofKit
import Derived.Stop.Joined
import Derived.SevenTiedAt

set_option linter.unusedVariables false
set_option linter.unusedSimpArgs false
set_option maxRecDepth 100000
namespace Go.Proofs.YtpgcmnabljandaaGreatDoor
open Go

theorem fn8 : Tryz.prog.funcNamed "testbench/testbenchlaw14.ElabScalars" = some 8 := by kernel_rfl
theorem inst8 : Tryz.f8.isInstance Tryz.prog Rows.elabScalarsRow.origin Rows.elabScalarsRow.targs := of_decide_eq_true (by kernel_rfl)
theorem wrap8 : Tryz.f8.isWrapper Tryz.prog Rows.elabScalarsRow.wrapper Rows.elabScalarsRow.mainSum := by unfold Func.isWrapper; first | (rw [if_pos (by decide +kernel)]; kernel_rfl) | (rw [if_neg (by decide +kernel)]; exact ⟨rfl, rfl⟩)
end Go.Proofs.YtpgcmnabljandaaGreatDoor
