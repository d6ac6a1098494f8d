/-
  DERIVED. GIVEN WITH THE SEED: THE CARDS: each row of YtimecmegnocamaaGreatDoorRows.lean that lists a variable, with what it lists TIED to the program's text (the seventh form; the later family's looks); each row that meets fmt, with fmt's text TOLD by the authors' own Lean function (tested against real Go, not proved from fmt's source: count such statements apart). THE CARD IS WHAT COUNTS. Prove the row's statement (the work); the ties are given (YtimecmegnocamaaGreatDoorTie.lean); close each card by the builder's one call (the guide's Derived/Test/ToyasCard.lean, 'card_holds'). Laid BY PROGRAM, IN A SANDBOX (cutbox-door.mjs). By AI agents, Wed Nov 11 2026. No macro, syntax, notation, axiom, sorry.
-/
import Derived.Test.YtimecmegnocamaaGreatDoorRows
import GoSem.ClaimSeven
namespace Go.Proofs.YtimecmegnocamaaGreatDoor
namespace Rows

/-- THE TIED CARD OF 'testbenchlaw23.RandomProbs'. -/
def randomProbsCard : Claim7 := { stood := { row := randomProbsRow, standIns := [], harness := (true, "27937e476e659f60a694ee9d9655634c3db35c4d2564a3cedc507028e447aac4"), looks := true }, kinds := [], alts := [], laidByText := true, laidKinds := [.data, .data, .data, .widerDeep], laidTests := true, laidLooks := .later }
def RandomProbsCardSaid : Prop := Claim7.holds Tryz.pinned (.plain (OpenSpec.ofChange randomProbsSpec)) randomProbsCard

/-- THE SECOND FORM's CARD OF 'testbenchlaw23.RandomProbs'. -/
def randomProbsUptoCard : Claim7 := { stood := { row := randomProbsUptoRow, standIns := [], harness := (true, "27937e476e659f60a694ee9d9655634c3db35c4d2564a3cedc507028e447aac4"), looks := true }, kinds := [], alts := [], laidByText := true, laidKinds := [.data, .data, .data, .widerDeep], laidTests := true, laidLooks := .later }
def RandomProbsUptoCardSaid : Prop := Claim7.holds Tryz.pinned (.plain (OpenSpec.upto randomProbsSpec)) randomProbsUptoCard
end Rows
end Go.Proofs.YtimecmegnocamaaGreatDoor
