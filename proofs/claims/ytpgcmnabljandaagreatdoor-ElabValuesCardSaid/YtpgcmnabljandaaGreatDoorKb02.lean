/- A part of the proof: texts Row9b. -/
import Derived.Test.YtpgcmnabljandaaGreatDoorRows
import Derived.ProofKit
import Derived.Stop.Joined
import Derived.SevenTiedAt

set_option linter.unusedVariables false
set_option linter.unusedSimpArgs false
set_option maxRecDepth 100000
namespace Go.Proofs.YtpgcmnabljandaaGreatDoor
open Go

theorem facts9_inPlace : (Rows.elabValuesRow.inPlace == Tryz.prog.inPlace 9) = true := by kernel_rfl
theorem facts9_unfollowed : (Rows.elabValuesRow.unfollowed == Tryz.prog.unfollowed 9) = true := by kernel_rfl
theorem facts9_recurses : (Rows.elabValuesRow.recurses == Tryz.prog.recurses 9) = true := by kernel_rfl
theorem facts9_named : (Rows.elabValuesRow.named == Tryz.prog.varsNamed 9) = true := by kernel_rfl
theorem facts9_head : (Rows.elabValuesRow.wf (OpenSpec.ofChange Rows.elabValuesSpec) && laidOutB Tryz.prog && mapsRowed Tryz.prog &&
  Tryz.f9.params.all (Tryz.prog.readableRec ·) && namedTie Tryz.prog Rows.elabValuesRow.named Rows.elabValuesSpec.vars &&
  (Rows.elabValuesRow.stops == []) && (Tryz.prog.stops == []) && (Rows.elabValuesRow.knobs == []) && (Tryz.prog.stopKnobs == [])) = true := by kernel_rfl
theorem facts9_tail : ((Rows.elabValuesRow.maps == (Tryz.f9.params.toList ++ Rows.elabValuesSpec.plain.varTypes Tryz.prog).any (Tryz.prog.mapsRec ·)) && (Rows.elabValuesRow.ifaces == (Tryz.f9.params.toList ++ Rows.elabValuesSpec.plain.varTypes Tryz.prog).any (Tryz.prog.ifacesRec ·)) && (Rows.elabValuesRow.mapsOut == Tryz.prog.mapsAmong Tryz.f9.resultTypes.toList) &&
  (Rows.elabValuesRow.loops == (Tryz.f9.params.toList ++ Rows.elabValuesSpec.plain.varTypes Tryz.prog).any (Tryz.prog.loopsFrom ·)) && (Rows.elabValuesRow.wideKeys == (Tryz.f9.params.toList ++ Rows.elabValuesSpec.plain.varTypes Tryz.prog ++ Tryz.f9.resultTypes.toList).any (Tryz.prog.wideKeysFrom ·)) &&
  Rows.elabValuesSpec.vars.all (Tryz.prog.varReadable ·) && Tryz.f9.resultTypes.all (fun t => Tryz.prog.readableRec t && decide (t < Tryz.prog.types.size)) && (Rows.elabValuesRow.ifacesOut == Tryz.f9.resultTypes.toList.any (Tryz.prog.ifacesRec ·)) && (Rows.elabValuesRow.loopsOut == Tryz.f9.resultTypes.toList.any (Tryz.prog.loopsFrom ·)) && (Rows.elabValuesRow.plainKeys == Tryz.prog.plainKeys) && Rows.elabValuesRow.shortTexts.isNone && Tryz.prog.stopsHeard && Tryz.prog.mayEnter && (Rows.elabValuesRow.lifted == Tryz.prog.liftsFinal) && (Tryz.prog.make == some Rows.elabValuesRow.make)) = true := by kernel_rfl
theorem facts9_end : ((Rows.elabValuesRow.kinds == (if Rows.elabValuesRow.domain.isEmpty then [] else Tryz.f9.params.toList.map fun t => match Tryz.prog.underlying t with | some (.int k) => some k | _ => none)) && (Rows.elabValuesRow.pinned == Rows.elabValuesRow.pinnedBy) &&
  (Rows.elabValuesRow.veiled == (Tryz.f9.params.toList ++ Rows.elabValuesSpec.plain.varTypes Tryz.prog ++ Tryz.f9.resultTypes.toList).any (Tryz.prog.veiledRec ·)) && Rows.elabValuesRow.veiledFits Tryz.prog Tryz.f9.params.toList (Tryz.f9.params.toList ++ Rows.elabValuesSpec.plain.varTypes Tryz.prog ++ Tryz.f9.resultTypes.toList)) = true := by kernel_rfl
theorem facts9 : joinedFacts Tryz.prog 9 Tryz.f9 Rows.elabValuesSpec Rows.elabValuesRow = true := by
  have h1 := facts9_head
  have h2 := facts9_tail
  have h3 := facts9_end
  simp only [Bool.and_eq_true, and_assoc] at h1 h2 h3
  unfold joinedFacts
  simp only [Bool.and_eq_true, and_assoc]
  obtain ⟨a1, a2, a3, a4, a5, a6, a7, a8, a9⟩ := h1
  obtain ⟨b1, b2, b3, b4, b5, b6, b7, b8, b9, b10, b11, b12, b13, b14, b15⟩ := h2
  obtain ⟨c1, c2, c3, c4⟩ := h3
  exact ⟨a1, a2, a3, a4, a5, a6, a7, a8, a9, facts9_inPlace, facts9_unfollowed, facts9_recurses, facts9_named, b1, b2, b3, b4, b5, b6, b7, b8, b9, b10, b11, b12, b13, b14, b15, c1, c2, c3, c4⟩
end Go.Proofs.YtpgcmnabljandaaGreatDoor
