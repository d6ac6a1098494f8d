/-
  DERIVED. GIVEN WITH THE SEED: THE CARDS: each row of YtoibbcnfhhggnaaGreatDoorRows.lean that lists a variable, with what it lists TIED to the program's text (the seventh form; the later family's looks); each row that meets fmt, with fmt's text TOLD by the authors' own Lean function (tested against real Go, not proved from fmt's source: count such statements apart). THE CARD IS WHAT COUNTS. Prove the row's statement (the work); the ties are given (YtoibbcnfhhggnaaGreatDoorTie.lean); close each card by the builder's one call (the guide's Derived/Test/ToyasCard.lean, 'card_holds'). Laid BY PROGRAM, IN A SANDBOX (cutbox-door.mjs). By AI agents, Wed Nov 11 2026. No macro, syntax, notation, axiom, sorry.
-/
import Derived.Test.YtoibbcnfhhggnaaGreatDoorRows
import GoSem.ClaimSeven
namespace Go.Proofs.YtoibbcnfhhggnaaGreatDoor
namespace Rows

/-- THE TIED CARD OF 'testbenchlaw24.CyclicAll'. -/
def cyclicAllCard : Claim7 := { stood := { row := cyclicAllRow, standIns := [], harness := (true, "fde9a280b6af768279908896f69971a7bbf33bd2896679c5a6ded6e1cd53fefd"), looks := true }, kinds := [], alts := [], laidByText := true, laidKinds := [.data, .data, .data, .widerDeep], laidTests := true, laidLooks := .later }
def CyclicAllCardSaid : Prop := Claim7.holds Tryz.pinned (.plain (OpenSpec.ofChange cyclicAllSpec)) cyclicAllCard

/-- THE TIED CARD OF 'testbenchlaw24.CyclicFits'. -/
def cyclicFitsCard : Claim7 := { stood := { row := cyclicFitsRow, standIns := [], harness := (true, "fde9a280b6af768279908896f69971a7bbf33bd2896679c5a6ded6e1cd53fefd"), looks := true }, kinds := [], alts := [], laidByText := true, laidKinds := [.data, .data, .data, .widerDeep], laidTests := true, laidLooks := .later }
def CyclicFitsCardSaid : Prop := Claim7.holds Tryz.pinned (.plain (OpenSpec.ofChange cyclicFitsSpec)) cyclicFitsCard

/-- THE SECOND FORM's CARD OF 'testbenchlaw24.CyclicAll'. -/
def cyclicAllUptoCard : Claim7 := { stood := { row := cyclicAllUptoRow, standIns := [], harness := (true, "fde9a280b6af768279908896f69971a7bbf33bd2896679c5a6ded6e1cd53fefd"), looks := true }, kinds := [], alts := [], laidByText := true, laidKinds := [.data, .data, .data, .widerDeep], laidTests := true, laidLooks := .later }
def CyclicAllUptoCardSaid : Prop := Claim7.holds Tryz.pinned (.plain (OpenSpec.upto cyclicAllSpec)) cyclicAllUptoCard

/-- THE SECOND FORM's CARD OF 'testbenchlaw24.CyclicFits'. -/
def cyclicFitsUptoCard : Claim7 := { stood := { row := cyclicFitsUptoRow, standIns := [], harness := (true, "fde9a280b6af768279908896f69971a7bbf33bd2896679c5a6ded6e1cd53fefd"), looks := true }, kinds := [], alts := [], laidByText := true, laidKinds := [.data, .data, .data, .widerDeep], laidTests := true, laidLooks := .later }
def CyclicFitsUptoCardSaid : Prop := Claim7.holds Tryz.pinned (.plain (OpenSpec.upto cyclicFitsSpec)) cyclicFitsUptoCard
end Rows
end Go.Proofs.YtoibbcnfhhggnaaGreatDoor
