/- A part of the proof. -/
import Derived.Test.YtpjdjolphpfanaaGreatDoorRows
import Derived.ProofKit
import Derived.Stop.Joined
import Derived.SevenTiedAt
set_option maxRecDepth 100000
set_option linter.unusedSimpArgs false
set_option linter.unusedVariables false
set_option linter.defProp false
section
namespace Go.Proofs.YtpjdjolphpfanaaGreatDoor
open Go

theorem facts3_inPlace : (Rows.cyclicHistoriesRow.inPlace == Tryz.prog.inPlace 3) = true := by kernel_rfl
theorem facts3_unfollowed : (Rows.cyclicHistoriesRow.unfollowed == Tryz.prog.unfollowed 3) = true := by kernel_rfl
theorem facts3_recurses : (Rows.cyclicHistoriesRow.recurses == Tryz.prog.recurses 3) = true := by kernel_rfl
theorem facts3_named : (Rows.cyclicHistoriesRow.named == Tryz.prog.varsNamed 3) = true := by kernel_rfl
theorem facts3_head : (Rows.cyclicHistoriesRow.wf (OpenSpec.ofChange Rows.cyclicHistoriesSpec) && laidOutB Tryz.prog && mapsRowed Tryz.prog &&
  Tryz.f3.params.all (Tryz.prog.readableRec ·) && namedTie Tryz.prog Rows.cyclicHistoriesRow.named Rows.cyclicHistoriesSpec.vars &&
  (Rows.cyclicHistoriesRow.stops == []) && (Tryz.prog.stops == []) && (Rows.cyclicHistoriesRow.knobs == []) && (Tryz.prog.stopKnobs == [])) = true := by kernel_rfl
theorem facts3_tail : ((Rows.cyclicHistoriesRow.maps == (Tryz.f3.params.toList ++ Rows.cyclicHistoriesSpec.plain.varTypes Tryz.prog).any (Tryz.prog.mapsRec ·)) && (Rows.cyclicHistoriesRow.ifaces == (Tryz.f3.params.toList ++ Rows.cyclicHistoriesSpec.plain.varTypes Tryz.prog).any (Tryz.prog.ifacesRec ·)) && (Rows.cyclicHistoriesRow.mapsOut == Tryz.prog.mapsAmong Tryz.f3.resultTypes.toList) &&
  (Rows.cyclicHistoriesRow.loops == (Tryz.f3.params.toList ++ Rows.cyclicHistoriesSpec.plain.varTypes Tryz.prog).any (Tryz.prog.loopsFrom ·)) && (Rows.cyclicHistoriesRow.wideKeys == (Tryz.f3.params.toList ++ Rows.cyclicHistoriesSpec.plain.varTypes Tryz.prog ++ Tryz.f3.resultTypes.toList).any (Tryz.prog.wideKeysFrom ·)) &&
  Rows.cyclicHistoriesSpec.vars.all (Tryz.prog.varReadable ·) && Tryz.f3.resultTypes.all (fun t => Tryz.prog.readableRec t && decide (t < Tryz.prog.types.size)) && (Rows.cyclicHistoriesRow.ifacesOut == Tryz.f3.resultTypes.toList.any (Tryz.prog.ifacesRec ·)) && (Rows.cyclicHistoriesRow.loopsOut == Tryz.f3.resultTypes.toList.any (Tryz.prog.loopsFrom ·)) && (Rows.cyclicHistoriesRow.plainKeys == Tryz.prog.plainKeys) && Rows.cyclicHistoriesRow.shortTexts.isNone && Tryz.prog.stopsHeard && Tryz.prog.mayEnter && (Rows.cyclicHistoriesRow.lifted == Tryz.prog.liftsFinal) && (Tryz.prog.make == some Rows.cyclicHistoriesRow.make)) = true := by kernel_rfl
theorem facts3_end : ((Rows.cyclicHistoriesRow.kinds == (if Rows.cyclicHistoriesRow.domain.isEmpty then [] else Tryz.f3.params.toList.map fun t => match Tryz.prog.underlying t with | some (.int k) => some k | _ => none)) && (Rows.cyclicHistoriesRow.pinned == Rows.cyclicHistoriesRow.pinnedBy) &&
  (Rows.cyclicHistoriesRow.veiled == (Tryz.f3.params.toList ++ Rows.cyclicHistoriesSpec.plain.varTypes Tryz.prog ++ Tryz.f3.resultTypes.toList).any (Tryz.prog.veiledRec ·)) && Rows.cyclicHistoriesRow.veiledFits Tryz.prog Tryz.f3.params.toList (Tryz.f3.params.toList ++ Rows.cyclicHistoriesSpec.plain.varTypes Tryz.prog ++ Tryz.f3.resultTypes.toList)) = true := by kernel_rfl
theorem facts3 : joinedFacts Tryz.prog 3 Tryz.f3 Rows.cyclicHistoriesSpec Rows.cyclicHistoriesRow = true := by
  have h1 := facts3_head
  have h2 := facts3_tail
  have h3 := facts3_end
  simp only [Bool.and_eq_true, and_assoc] at h1 h2 h3
  unfold joinedFacts
  simp only [Bool.and_eq_true, and_assoc]
  obtain ⟨a1, a2, a3, a4, a5, a6, a7, a8, a9⟩ := h1
  obtain ⟨b1, b2, b3, b4, b5, b6, b7, b8, b9, b10, b11, b12, b13, b14, b15⟩ := h2
  obtain ⟨c1, c2, c3, c4⟩ := h3
  exact ⟨a1, a2, a3, a4, a5, a6, a7, a8, a9, facts3_inPlace, facts3_unfollowed, facts3_recurses, facts3_named, b1, b2, b3, b4, b5, b6, b7, b8, b9, b10, b11, b12, b13, b14, b15, c1, c2, c3, c4⟩
end Go.Proofs.YtpjdjolphpfanaaGreatDoor
end
