/- A part of the proof: texts Row8b. -/
import Derived.Test.YtpgcmnabljandaaGreatDoorRows
import Derived.ProofKit
import Derived.Stop.Joined
import Derived.SevenTiedAt

set_option linter.unusedVariables false
set_option linter.unusedSimpArgs false
set_option maxRecDepth 100000
namespace Go.Proofs.YtpgcmnabljandaaGreatDoor
open Go

theorem facts8_inPlace : (Rows.elabScalarsRow.inPlace == Tryz.prog.inPlace 8) = true := by kernel_rfl
theorem facts8_unfollowed : (Rows.elabScalarsRow.unfollowed == Tryz.prog.unfollowed 8) = true := by kernel_rfl
theorem facts8_recurses : (Rows.elabScalarsRow.recurses == Tryz.prog.recurses 8) = true := by kernel_rfl
theorem facts8_named : (Rows.elabScalarsRow.named == Tryz.prog.varsNamed 8) = true := by kernel_rfl
theorem facts8_head : (Rows.elabScalarsRow.wf (OpenSpec.ofChange Rows.elabScalarsSpec) && laidOutB Tryz.prog && mapsRowed Tryz.prog &&
  Tryz.f8.params.all (Tryz.prog.readableRec ·) && namedTie Tryz.prog Rows.elabScalarsRow.named Rows.elabScalarsSpec.vars &&
  (Rows.elabScalarsRow.stops == []) && (Tryz.prog.stops == []) && (Rows.elabScalarsRow.knobs == []) && (Tryz.prog.stopKnobs == [])) = true := by kernel_rfl
theorem facts8_tail : ((Rows.elabScalarsRow.maps == (Tryz.f8.params.toList ++ Rows.elabScalarsSpec.plain.varTypes Tryz.prog).any (Tryz.prog.mapsRec ·)) && (Rows.elabScalarsRow.ifaces == (Tryz.f8.params.toList ++ Rows.elabScalarsSpec.plain.varTypes Tryz.prog).any (Tryz.prog.ifacesRec ·)) && (Rows.elabScalarsRow.mapsOut == Tryz.prog.mapsAmong Tryz.f8.resultTypes.toList) &&
  (Rows.elabScalarsRow.loops == (Tryz.f8.params.toList ++ Rows.elabScalarsSpec.plain.varTypes Tryz.prog).any (Tryz.prog.loopsFrom ·)) && (Rows.elabScalarsRow.wideKeys == (Tryz.f8.params.toList ++ Rows.elabScalarsSpec.plain.varTypes Tryz.prog ++ Tryz.f8.resultTypes.toList).any (Tryz.prog.wideKeysFrom ·)) &&
  Rows.elabScalarsSpec.vars.all (Tryz.prog.varReadable ·) && Tryz.f8.resultTypes.all (fun t => Tryz.prog.readableRec t && decide (t < Tryz.prog.types.size)) && (Rows.elabScalarsRow.ifacesOut == Tryz.f8.resultTypes.toList.any (Tryz.prog.ifacesRec ·)) && (Rows.elabScalarsRow.loopsOut == Tryz.f8.resultTypes.toList.any (Tryz.prog.loopsFrom ·)) && (Rows.elabScalarsRow.plainKeys == Tryz.prog.plainKeys) && Rows.elabScalarsRow.shortTexts.isNone && Tryz.prog.stopsHeard && Tryz.prog.mayEnter && (Rows.elabScalarsRow.lifted == Tryz.prog.liftsFinal) && (Tryz.prog.make == some Rows.elabScalarsRow.make)) = true := by kernel_rfl
theorem facts8_end : ((Rows.elabScalarsRow.kinds == (if Rows.elabScalarsRow.domain.isEmpty then [] else Tryz.f8.params.toList.map fun t => match Tryz.prog.underlying t with | some (.int k) => some k | _ => none)) && (Rows.elabScalarsRow.pinned == Rows.elabScalarsRow.pinnedBy) &&
  (Rows.elabScalarsRow.veiled == (Tryz.f8.params.toList ++ Rows.elabScalarsSpec.plain.varTypes Tryz.prog ++ Tryz.f8.resultTypes.toList).any (Tryz.prog.veiledRec ·)) && Rows.elabScalarsRow.veiledFits Tryz.prog Tryz.f8.params.toList (Tryz.f8.params.toList ++ Rows.elabScalarsSpec.plain.varTypes Tryz.prog ++ Tryz.f8.resultTypes.toList)) = true := by kernel_rfl
theorem facts8 : joinedFacts Tryz.prog 8 Tryz.f8 Rows.elabScalarsSpec Rows.elabScalarsRow = true := by
  have h1 := facts8_head
  have h2 := facts8_tail
  have h3 := facts8_end
  simp only [Bool.and_eq_true, and_assoc] at h1 h2 h3
  unfold joinedFacts
  simp only [Bool.and_eq_true, and_assoc]
  obtain ⟨a1, a2, a3, a4, a5, a6, a7, a8, a9⟩ := h1
  obtain ⟨b1, b2, b3, b4, b5, b6, b7, b8, b9, b10, b11, b12, b13, b14, b15⟩ := h2
  obtain ⟨c1, c2, c3, c4⟩ := h3
  exact ⟨a1, a2, a3, a4, a5, a6, a7, a8, a9, facts8_inPlace, facts8_unfollowed, facts8_recurses, facts8_named, b1, b2, b3, b4, b5, b6, b7, b8, b9, b10, b11, b12, b13, b14, b15, c1, c2, c3, c4⟩
end Go.Proofs.YtpgcmnabljandaaGreatDoor
