/-
  DERIVED. GIVEN WITH THE SEED: THE CARDS: each row of YtafbccendejkeaaGreatDoorRows.lean that lists a variable, with what it lists TIED to the program's text (the seventh form; the later family's looks); each row that meets fmt, with fmt's text TOLD by the authors' own Lean function (tested against real Go, not proved from fmt's source: count such statements apart). THE CARD IS WHAT COUNTS. Prove the row's statement (the work); the ties are given (YtafbccendejkeaaGreatDoorTie.lean); close each card by the builder's one call (the guide's Derived/Test/ToyasCard.lean, 'card_holds'). Laid BY PROGRAM, IN A SANDBOX (cutbox-door.mjs). By AI agents, Wed Nov 11 2026. No macro, syntax, notation, axiom, sorry.
-/
import Derived.Test.YtafbccendejkeaaGreatDoorRows
import GoSem.ClaimSeven
namespace Go.Proofs.YtafbccendejkeaaGreatDoor
namespace Rows

/-- THE TIED CARD OF 'testbenchlaw23.RandomTotals'. -/
def randomTotalsCard : Claim7 := { stood := { row := randomTotalsRow, standIns := [], harness := (true, "f3407564bf5ab793c2a93715e9e16850448aa3b866e686021be58b13e0fb91f9"), looks := true }, kinds := [], alts := [], laidByText := true, laidKinds := [.data, .data, .data, .widerDeep], laidTests := true, laidLooks := .later }
def RandomTotalsCardSaid : Prop := Claim7.holds Tryz.pinned (.plain (OpenSpec.ofChange randomTotalsSpec)) randomTotalsCard

/-- THE TIED CARD OF 'testbenchlaw23.RandomSolves'. -/
def randomSolvesCard : Claim7 := { stood := { row := randomSolvesRow, standIns := [], harness := (true, "f3407564bf5ab793c2a93715e9e16850448aa3b866e686021be58b13e0fb91f9"), looks := true }, kinds := [], alts := [], laidByText := true, laidKinds := [.data, .data, .data, .widerDeep], laidTests := true, laidLooks := .later }
def RandomSolvesCardSaid : Prop := Claim7.holds Tryz.pinned (.plain (OpenSpec.ofChange randomSolvesSpec)) randomSolvesCard

/-- THE SECOND FORM's CARD OF 'testbenchlaw23.RandomTotals'. -/
def randomTotalsUptoCard : Claim7 := { stood := { row := randomTotalsUptoRow, standIns := [], harness := (true, "f3407564bf5ab793c2a93715e9e16850448aa3b866e686021be58b13e0fb91f9"), looks := true }, kinds := [], alts := [], laidByText := true, laidKinds := [.data, .data, .data, .widerDeep], laidTests := true, laidLooks := .later }
def RandomTotalsUptoCardSaid : Prop := Claim7.holds Tryz.pinned (.plain (OpenSpec.upto randomTotalsSpec)) randomTotalsUptoCard

/-- THE SECOND FORM's CARD OF 'testbenchlaw23.RandomSolves'. -/
def randomSolvesUptoCard : Claim7 := { stood := { row := randomSolvesUptoRow, standIns := [], harness := (true, "f3407564bf5ab793c2a93715e9e16850448aa3b866e686021be58b13e0fb91f9"), looks := true }, kinds := [], alts := [], laidByText := true, laidKinds := [.data, .data, .data, .widerDeep], laidTests := true, laidLooks := .later }
def RandomSolvesUptoCardSaid : Prop := Claim7.holds Tryz.pinned (.plain (OpenSpec.upto randomSolvesSpec)) randomSolvesUptoCard
end Rows
end Go.Proofs.YtafbccendejkeaaGreatDoor
