/-
  DERIVED. GIVEN WITH THE SEED: THE CARDS: each row of YtpjdjolphpfanaaGreatDoorRows.lean that lists a variable, with what it lists TIED to the program's text (the seventh form; the later family's looks); each row that meets fmt, with fmt's text TOLD by the authors' own Lean function (tested against real Go, not proved from fmt's source: count such statements apart). THE CARD IS WHAT COUNTS. Prove the row's statement (the work); the ties are given (YtpjdjolphpfanaaGreatDoorTie.lean); close each card by the builder's one call (the guide's Derived/Test/ToyasCard.lean, 'card_holds'). Laid BY PROGRAM, IN A SANDBOX (cutbox-door.mjs). By AI agents, Wed Nov 11 2026. No macro, syntax, notation, axiom, sorry.
-/
import Derived.Test.YtpjdjolphpfanaaGreatDoorRows
import GoSem.ClaimSeven
namespace Go.Proofs.YtpjdjolphpfanaaGreatDoor
namespace Rows

/-- THE TIED CARD OF 'testbenchlaw24.CyclicHistories'. -/
def cyclicHistoriesCard : Claim7 := { stood := { row := cyclicHistoriesRow, standIns := [], harness := (true, "d4072cbca0a1a4bd54c69fc80b80c7bd05bb8197aa880080f91aee428b665e92"), looks := true }, kinds := [], alts := [], laidByText := true, laidKinds := [.data, .data, .data, .widerDeep], laidTests := true, laidLooks := .later }
def CyclicHistoriesCardSaid : Prop := Claim7.holds Tryz.pinned (.plain (OpenSpec.ofChange cyclicHistoriesSpec)) cyclicHistoriesCard

/-- THE SECOND FORM's CARD OF 'testbenchlaw24.CyclicHistories'. -/
def cyclicHistoriesUptoCard : Claim7 := { stood := { row := cyclicHistoriesUptoRow, standIns := [], harness := (true, "d4072cbca0a1a4bd54c69fc80b80c7bd05bb8197aa880080f91aee428b665e92"), looks := true }, kinds := [], alts := [], laidByText := true, laidKinds := [.data, .data, .data, .widerDeep], laidTests := true, laidLooks := .later }
def CyclicHistoriesUptoCardSaid : Prop := Claim7.holds Tryz.pinned (.plain (OpenSpec.upto cyclicHistoriesSpec)) cyclicHistoriesUptoCard
end Rows
end Go.Proofs.YtpjdjolphpfanaaGreatDoor
