/- A part of the proof: texts Row6b. -/
import Derived.Test.YtpgcmnabljandaaGreatDoorRows
import Derived.ProofKit
import Derived.Stop.Joined
import Derived.SevenTiedAt

set_option linter.unusedVariables false
set_option linter.unusedSimpArgs false
set_option maxRecDepth 100000
namespace Go.Proofs.YtpgcmnabljandaaGreatDoor
open Go

theorem facts6_inPlace : (Rows.elabEnvsRow.inPlace == Tryz.prog.inPlace 6) = true := by kernel_rfl
theorem facts6_unfollowed : (Rows.elabEnvsRow.unfollowed == Tryz.prog.unfollowed 6) = true := by kernel_rfl
theorem facts6_recurses : (Rows.elabEnvsRow.recurses == Tryz.prog.recurses 6) = true := by kernel_rfl
theorem facts6_named : (Rows.elabEnvsRow.named == Tryz.prog.varsNamed 6) = true := by kernel_rfl
theorem facts6_head : (Rows.elabEnvsRow.wf (OpenSpec.ofChange Rows.elabEnvsSpec) && laidOutB Tryz.prog && mapsRowed Tryz.prog &&
  Tryz.f6.params.all (Tryz.prog.readableRec ·) && namedTie Tryz.prog Rows.elabEnvsRow.named Rows.elabEnvsSpec.vars &&
  (Rows.elabEnvsRow.stops == []) && (Tryz.prog.stops == []) && (Rows.elabEnvsRow.knobs == []) && (Tryz.prog.stopKnobs == [])) = true := by kernel_rfl
theorem facts6_tail : ((Rows.elabEnvsRow.maps == (Tryz.f6.params.toList ++ Rows.elabEnvsSpec.plain.varTypes Tryz.prog).any (Tryz.prog.mapsRec ·)) && (Rows.elabEnvsRow.ifaces == (Tryz.f6.params.toList ++ Rows.elabEnvsSpec.plain.varTypes Tryz.prog).any (Tryz.prog.ifacesRec ·)) && (Rows.elabEnvsRow.mapsOut == Tryz.prog.mapsAmong Tryz.f6.resultTypes.toList) &&
  (Rows.elabEnvsRow.loops == (Tryz.f6.params.toList ++ Rows.elabEnvsSpec.plain.varTypes Tryz.prog).any (Tryz.prog.loopsFrom ·)) && (Rows.elabEnvsRow.wideKeys == (Tryz.f6.params.toList ++ Rows.elabEnvsSpec.plain.varTypes Tryz.prog ++ Tryz.f6.resultTypes.toList).any (Tryz.prog.wideKeysFrom ·)) &&
  Rows.elabEnvsSpec.vars.all (Tryz.prog.varReadable ·) && Tryz.f6.resultTypes.all (fun t => Tryz.prog.readableRec t && decide (t < Tryz.prog.types.size)) && (Rows.elabEnvsRow.ifacesOut == Tryz.f6.resultTypes.toList.any (Tryz.prog.ifacesRec ·)) && (Rows.elabEnvsRow.loopsOut == Tryz.f6.resultTypes.toList.any (Tryz.prog.loopsFrom ·)) && (Rows.elabEnvsRow.plainKeys == Tryz.prog.plainKeys) && Rows.elabEnvsRow.shortTexts.isNone && Tryz.prog.stopsHeard && Tryz.prog.mayEnter && (Rows.elabEnvsRow.lifted == Tryz.prog.liftsFinal) && (Tryz.prog.make == some Rows.elabEnvsRow.make)) = true := by kernel_rfl
theorem facts6_end : ((Rows.elabEnvsRow.kinds == (if Rows.elabEnvsRow.domain.isEmpty then [] else Tryz.f6.params.toList.map fun t => match Tryz.prog.underlying t with | some (.int k) => some k | _ => none)) && (Rows.elabEnvsRow.pinned == Rows.elabEnvsRow.pinnedBy) &&
  (Rows.elabEnvsRow.veiled == (Tryz.f6.params.toList ++ Rows.elabEnvsSpec.plain.varTypes Tryz.prog ++ Tryz.f6.resultTypes.toList).any (Tryz.prog.veiledRec ·)) && Rows.elabEnvsRow.veiledFits Tryz.prog Tryz.f6.params.toList (Tryz.f6.params.toList ++ Rows.elabEnvsSpec.plain.varTypes Tryz.prog ++ Tryz.f6.resultTypes.toList)) = true := by kernel_rfl
theorem facts6 : joinedFacts Tryz.prog 6 Tryz.f6 Rows.elabEnvsSpec Rows.elabEnvsRow = true := by
  have h1 := facts6_head
  have h2 := facts6_tail
  have h3 := facts6_end
  simp only [Bool.and_eq_true, and_assoc] at h1 h2 h3
  unfold joinedFacts
  simp only [Bool.and_eq_true, and_assoc]
  obtain ⟨a1, a2, a3, a4, a5, a6, a7, a8, a9⟩ := h1
  obtain ⟨b1, b2, b3, b4, b5, b6, b7, b8, b9, b10, b11, b12, b13, b14, b15⟩ := h2
  obtain ⟨c1, c2, c3, c4⟩ := h3
  exact ⟨a1, a2, a3, a4, a5, a6, a7, a8, a9, facts6_inPlace, facts6_unfollowed, facts6_recurses, facts6_named, b1, b2, b3, b4, b5, b6, b7, b8, b9, b10, b11, b12, b13, b14, b15, c1, c2, c3, c4⟩
end Go.Proofs.YtpgcmnabljandaaGreatDoor
