/-
  DERIVED. GIVEN WITH THE SEED: THE CARDS: each row of YtkpkjbchlabaaaaGreatDoorRows.lean that lists a variable, with what it lists TIED to the program's text (the seventh form; the later family's looks); each row that meets fmt, with fmt's text TOLD by the authors' own Lean function (tested against real Go, not proved from fmt's source: count such statements apart). THE CARD IS WHAT COUNTS. Prove the row's statement (the work); the ties are given (YtkpkjbchlabaaaaGreatDoorTie.lean); close each card by the builder's one call (the guide's Derived/Test/ToyasCard.lean, 'card_holds'). Laid BY PROGRAM, IN A SANDBOX (cutbox-door.mjs). By AI agents, Wed Nov 11 2026. No macro, syntax, notation, axiom, sorry.
-/
import Derived.Test.YtkpkjbchlabaaaaGreatDoorRows
import GoSem.ClaimSeven
namespace Go.Proofs.YtkpkjbchlabaaaaGreatDoor
namespace Rows

/-- THE TIED CARD OF 'testbenchlaw23.RandomExact'. -/
def randomExactCard : Claim7 := { stood := { row := randomExactRow, standIns := [], harness := (true, "987bd91778cffe5dc9b1873c32978561209d0255da7ae84461e49386f51b4fc8"), looks := true }, kinds := [], alts := [], laidByText := true, laidKinds := [.data, .data, .data, .widerDeep], laidTests := true, laidLooks := .later }
def RandomExactCardSaid : Prop := Claim7.holds Tryz.pinned (.plain (OpenSpec.ofChange randomExactSpec)) randomExactCard

/-- THE TIED CARD OF 'testbenchlaw23.RandomUniform'. -/
def randomUniformCard : Claim7 := { stood := { row := randomUniformRow, standIns := [], harness := (true, "987bd91778cffe5dc9b1873c32978561209d0255da7ae84461e49386f51b4fc8"), looks := true }, kinds := [], alts := [], laidByText := true, laidKinds := [.data, .data, .data, .widerDeep], laidTests := true, laidLooks := .later }
def RandomUniformCardSaid : Prop := Claim7.holds Tryz.pinned (.plain (OpenSpec.ofChange randomUniformSpec)) randomUniformCard

/-- THE TIED CARD OF 'testbenchlaw23.RandomDrops'. -/
def randomDropsCard : Claim7 := { stood := { row := randomDropsRow, standIns := [], harness := (true, "987bd91778cffe5dc9b1873c32978561209d0255da7ae84461e49386f51b4fc8"), looks := true }, kinds := [], alts := [], laidByText := true, laidKinds := [.data, .data, .data, .widerDeep], laidTests := true, laidLooks := .later }
def RandomDropsCardSaid : Prop := Claim7.holds Tryz.pinned (.plain (OpenSpec.ofChange randomDropsSpec)) randomDropsCard

/-- THE TIED CARD OF 'testbenchlaw23.RandomSatisfies'. -/
def randomSatisfiesCard : Claim7 := { stood := { row := randomSatisfiesRow, standIns := [], harness := (true, "987bd91778cffe5dc9b1873c32978561209d0255da7ae84461e49386f51b4fc8"), looks := true }, kinds := [], alts := [], laidByText := true, laidKinds := [.data, .data, .data, .widerDeep], laidTests := true, laidLooks := .later }
def RandomSatisfiesCardSaid : Prop := Claim7.holds Tryz.pinned (.plain (OpenSpec.ofChange randomSatisfiesSpec)) randomSatisfiesCard

/-- THE SECOND FORM's CARD OF 'testbenchlaw23.RandomExact'. -/
def randomExactUptoCard : Claim7 := { stood := { row := randomExactUptoRow, standIns := [], harness := (true, "987bd91778cffe5dc9b1873c32978561209d0255da7ae84461e49386f51b4fc8"), looks := true }, kinds := [], alts := [], laidByText := true, laidKinds := [.data, .data, .data, .widerDeep], laidTests := true, laidLooks := .later }
def RandomExactUptoCardSaid : Prop := Claim7.holds Tryz.pinned (.plain (OpenSpec.upto randomExactSpec)) randomExactUptoCard

/-- THE SECOND FORM's CARD OF 'testbenchlaw23.RandomUniform'. -/
def randomUniformUptoCard : Claim7 := { stood := { row := randomUniformUptoRow, standIns := [], harness := (true, "987bd91778cffe5dc9b1873c32978561209d0255da7ae84461e49386f51b4fc8"), looks := true }, kinds := [], alts := [], laidByText := true, laidKinds := [.data, .data, .data, .widerDeep], laidTests := true, laidLooks := .later }
def RandomUniformUptoCardSaid : Prop := Claim7.holds Tryz.pinned (.plain (OpenSpec.upto randomUniformSpec)) randomUniformUptoCard

/-- THE SECOND FORM's CARD OF 'testbenchlaw23.RandomDrops'. -/
def randomDropsUptoCard : Claim7 := { stood := { row := randomDropsUptoRow, standIns := [], harness := (true, "987bd91778cffe5dc9b1873c32978561209d0255da7ae84461e49386f51b4fc8"), looks := true }, kinds := [], alts := [], laidByText := true, laidKinds := [.data, .data, .data, .widerDeep], laidTests := true, laidLooks := .later }
def RandomDropsUptoCardSaid : Prop := Claim7.holds Tryz.pinned (.plain (OpenSpec.upto randomDropsSpec)) randomDropsUptoCard

/-- THE SECOND FORM's CARD OF 'testbenchlaw23.RandomSatisfies'. -/
def randomSatisfiesUptoCard : Claim7 := { stood := { row := randomSatisfiesUptoRow, standIns := [], harness := (true, "987bd91778cffe5dc9b1873c32978561209d0255da7ae84461e49386f51b4fc8"), looks := true }, kinds := [], alts := [], laidByText := true, laidKinds := [.data, .data, .data, .widerDeep], laidTests := true, laidLooks := .later }
def RandomSatisfiesUptoCardSaid : Prop := Claim7.holds Tryz.pinned (.plain (OpenSpec.upto randomSatisfiesSpec)) randomSatisfiesUptoCard
end Rows
end Go.Proofs.YtkpkjbchlabaaaaGreatDoor
