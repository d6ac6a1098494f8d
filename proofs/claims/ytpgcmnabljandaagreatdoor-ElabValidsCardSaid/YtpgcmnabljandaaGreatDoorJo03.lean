/- A part of the proof: texts RowB. -/
import Derived.Test.YtpgcmnabljandaaGreatDoorRows
import Derived.ProofKit
import Derived.Stop.Joined
import Derived.SevenTiedAt

set_option linter.unusedVariables false
set_option linter.unusedSimpArgs false
set_option maxRecDepth 100000
namespace Go.Proofs.YtpgcmnabljandaaGreatDoor
open Go

theorem facts5_inPlace : (Rows.elabValidsRow.inPlace == Tryz.prog.inPlace 5) = true := by kernel_rfl
theorem facts5_unfollowed : (Rows.elabValidsRow.unfollowed == Tryz.prog.unfollowed 5) = true := by kernel_rfl
theorem facts5_recurses : (Rows.elabValidsRow.recurses == Tryz.prog.recurses 5) = true := by kernel_rfl
theorem facts5_named : (Rows.elabValidsRow.named == Tryz.prog.varsNamed 5) = true := by kernel_rfl
theorem facts5_head : (Rows.elabValidsRow.wf (OpenSpec.ofChange Rows.elabValidsSpec) && laidOutB Tryz.prog && mapsRowed Tryz.prog &&
  Tryz.f5.params.all (Tryz.prog.readableRec ·) && namedTie Tryz.prog Rows.elabValidsRow.named Rows.elabValidsSpec.vars &&
  (Rows.elabValidsRow.stops == []) && (Tryz.prog.stops == []) && (Rows.elabValidsRow.knobs == []) && (Tryz.prog.stopKnobs == [])) = true := by kernel_rfl
theorem facts5_tail : ((Rows.elabValidsRow.maps == (Tryz.f5.params.toList ++ Rows.elabValidsSpec.plain.varTypes Tryz.prog).any (Tryz.prog.mapsRec ·)) && (Rows.elabValidsRow.ifaces == (Tryz.f5.params.toList ++ Rows.elabValidsSpec.plain.varTypes Tryz.prog).any (Tryz.prog.ifacesRec ·)) && (Rows.elabValidsRow.mapsOut == Tryz.prog.mapsAmong Tryz.f5.resultTypes.toList) &&
  (Rows.elabValidsRow.loops == (Tryz.f5.params.toList ++ Rows.elabValidsSpec.plain.varTypes Tryz.prog).any (Tryz.prog.loopsFrom ·)) && (Rows.elabValidsRow.wideKeys == (Tryz.f5.params.toList ++ Rows.elabValidsSpec.plain.varTypes Tryz.prog ++ Tryz.f5.resultTypes.toList).any (Tryz.prog.wideKeysFrom ·)) &&
  Rows.elabValidsSpec.vars.all (Tryz.prog.varReadable ·) && Tryz.f5.resultTypes.all (fun t => Tryz.prog.readableRec t && decide (t < Tryz.prog.types.size)) && (Rows.elabValidsRow.ifacesOut == Tryz.f5.resultTypes.toList.any (Tryz.prog.ifacesRec ·)) && (Rows.elabValidsRow.loopsOut == Tryz.f5.resultTypes.toList.any (Tryz.prog.loopsFrom ·)) && (Rows.elabValidsRow.plainKeys == Tryz.prog.plainKeys) && Rows.elabValidsRow.shortTexts.isNone && Tryz.prog.stopsHeard && Tryz.prog.mayEnter && (Rows.elabValidsRow.lifted == Tryz.prog.liftsFinal) && (Tryz.prog.make == some Rows.elabValidsRow.make)) = true := by kernel_rfl
theorem facts5_end : ((Rows.elabValidsRow.kinds == (if Rows.elabValidsRow.domain.isEmpty then [] else Tryz.f5.params.toList.map fun t => match Tryz.prog.underlying t with | some (.int k) => some k | _ => none)) && (Rows.elabValidsRow.pinned == Rows.elabValidsRow.pinnedBy) &&
  (Rows.elabValidsRow.veiled == (Tryz.f5.params.toList ++ Rows.elabValidsSpec.plain.varTypes Tryz.prog ++ Tryz.f5.resultTypes.toList).any (Tryz.prog.veiledRec ·)) && Rows.elabValidsRow.veiledFits Tryz.prog Tryz.f5.params.toList (Tryz.f5.params.toList ++ Rows.elabValidsSpec.plain.varTypes Tryz.prog ++ Tryz.f5.resultTypes.toList)) = true := by kernel_rfl
theorem facts5 : joinedFacts Tryz.prog 5 Tryz.f5 Rows.elabValidsSpec Rows.elabValidsRow = true := by
  have h1 := facts5_head
  have h2 := facts5_tail
  have h3 := facts5_end
  simp only [Bool.and_eq_true, and_assoc] at h1 h2 h3
  unfold joinedFacts
  simp only [Bool.and_eq_true, and_assoc]
  obtain ⟨a1, a2, a3, a4, a5, a6, a7, a8, a9⟩ := h1
  obtain ⟨b1, b2, b3, b4, b5, b6, b7, b8, b9, b10, b11, b12, b13, b14, b15⟩ := h2
  obtain ⟨c1, c2, c3, c4⟩ := h3
  exact ⟨a1, a2, a3, a4, a5, a6, a7, a8, a9, facts5_inPlace, facts5_unfollowed, facts5_recurses, facts5_named, b1, b2, b3, b4, b5, b6, b7, b8, b9, b10, b11, b12, b13, b14, b15, c1, c2, c3, c4⟩
end Go.Proofs.YtpgcmnabljandaaGreatDoor
