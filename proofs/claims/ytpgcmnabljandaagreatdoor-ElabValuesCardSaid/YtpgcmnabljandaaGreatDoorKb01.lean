/- A part of the proof: texts Row9a. -/
import Derived.Test.YtpgcmnabljandaaGreatDoorRows
import Derived.ProofKit
import Derived.Stop.Joined
import Derived.SevenTiedAt

set_option linter.unusedVariables false
set_option linter.unusedSimpArgs false
set_option maxRecDepth 100000
namespace Go.Proofs.YtpgcmnabljandaaGreatDoor
open Go

theorem fn9 : Tryz.prog.funcNamed "testbench/testbenchlaw14.ElabValues" = some 9 := by kernel_rfl
theorem inst9 : Tryz.f9.isInstance Tryz.prog Rows.elabValuesRow.origin Rows.elabValuesRow.targs := of_decide_eq_true (by kernel_rfl)
theorem wrap9 : Tryz.f9.isWrapper Tryz.prog Rows.elabValuesRow.wrapper Rows.elabValuesRow.mainSum := by unfold Func.isWrapper; first | (rw [if_pos (by decide +kernel)]; kernel_rfl) | (rw [if_neg (by decide +kernel)]; exact ⟨rfl, rfl⟩)
end Go.Proofs.YtpgcmnabljandaaGreatDoor
