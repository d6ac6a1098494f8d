/- For every input that fits the row, the law ElabValues returns true and each argument reads afterwards as it read before: Scalar does not change the value of an expression for any assignment, for problems of at most 20 variables and expressions of at most 60 nodes. The package-level variables that the row lists start as the text of the program lays them; the card ties them to that text. -/
import Derived.Test.YtpgcmnabljandaaGreatDoorKb04
import Derived.Test.YtpgcmnabljandaaGreatDoorKb05

set_option linter.unusedVariables false
set_option linter.unusedSimpArgs false
set_option maxRecDepth 100000
namespace Go.Proofs.YtpgcmnabljandaaGreatDoor
open Go

theorem elabValues_card : Rows.ElabValuesCardSaid :=
  Claim7.holds_tied_plain_at .later [] [.data, .data, .data, .widerDeep] true (true, "438c544592da4d0fde47ce508cfbd717d9eaee5c99ea4794d263a81d85aa15ca") false
    elabValues_row (fun _ h => by cases h) card9_text (fun _ h => by cases h) elabValues_row_tie rfl ⟨rfl, rfl⟩ card9_main rfl
    (fun f fn hf hfn => by
      obtain rfl : f = 9 := Option.some.inj (fn9.symm.trans hf) |>.symm
      obtain rfl : fn = Tryz.f9 := (Option.some.inj (Tryz.func9.symm.trans hfn)).symm
      exact ⟨card9_looks, fun j t ht => by
        rw [Tryz.params9] at ht
        have hm : t ∈ [36, 55, 28] := by simpa using Array.mem_of_getElem? ht
        exact (show Tryz.prog.wantsStandIn t = false by simpa using List.all_eq_true.1 card9_params t hm)⟩)
    card9_goes
#print axioms elabValues_card
end Go.Proofs.YtpgcmnabljandaaGreatDoor
