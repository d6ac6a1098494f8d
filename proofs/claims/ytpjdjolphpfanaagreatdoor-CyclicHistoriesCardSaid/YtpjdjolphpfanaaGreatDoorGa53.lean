/- The tied card of CyclicHistories: the law's function returns true for every input, and each argument reads afterwards as it read before. No condition. -/
import Derived.Test.YtpjdjolphpfanaaGreatDoorGa50
import Derived.Test.YtpjdjolphpfanaaGreatDoorGa51
import Derived.Test.YtpjdjolphpfanaaGreatDoorGa52
set_option maxRecDepth 100000
set_option linter.unusedSimpArgs false
set_option linter.unusedVariables false
set_option linter.defProp false
section
namespace Go.Proofs.YtpjdjolphpfanaaGreatDoor
open Go

theorem cyclicHistories_card : Rows.CyclicHistoriesCardSaid :=
  Claim7.holds_tied_plain_at .later [] [.data, .data, .data, .widerDeep] true (true, "d4072cbca0a1a4bd54c69fc80b80c7bd05bb8197aa880080f91aee428b665e92") true
    cyclicHistories_row (fun _ h => by cases h) card3_text (fun _ h => by cases h) cyclicHistories_row_tie rfl ⟨rfl, rfl⟩ card3_main rfl
    (fun f fn hf hfn => by
      obtain rfl : f = 3 := Option.some.inj (fn3.symm.trans hf) |>.symm
      obtain rfl : fn = Tryz.f3 := (Option.some.inj (Tryz.func3.symm.trans hfn)).symm
      exact ⟨card3_looks, fun j t ht => by
        rw [Tryz.params3] at ht
        have hm : t ∈ [27, 29, 3] := by simpa using Array.mem_of_getElem? ht
        exact (show Tryz.prog.wantsStandIn t = false by simpa using List.all_eq_true.1 card3_params t hm)⟩)
    card3_goes
#print axioms cyclicHistories_card
end Go.Proofs.YtpjdjolphpfanaaGreatDoor
end
