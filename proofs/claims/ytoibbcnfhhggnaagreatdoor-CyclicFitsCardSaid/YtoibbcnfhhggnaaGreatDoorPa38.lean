/- A part of the proof. -/
import Derived.Test.YtoibbcnfhhggnaaGreatDoorRows
import Derived.ProofKit
import Derived.Stop.Joined
import Derived.SevenTiedAt
set_option maxRecDepth 100000
set_option linter.unusedSimpArgs false
set_option linter.unusedVariables false
set_option linter.defProp false
section
namespace Go.Proofs.YtoibbcnfhhggnaaGreatDoor
open Go
theorem KG:(Rows.cyclicFitsRow.inPlace==Tryz.prog.inPlace 4)=true:=by kernel_rfl
theorem ZX:(Rows.cyclicFitsRow.unfollowed==Tryz.prog.unfollowed 4)=true:=by kernel_rfl
theorem Ka:(Rows.cyclicFitsRow.recurses==Tryz.prog.recurses 4)=true:=by kernel_rfl
theorem qbE:(Rows.cyclicFitsRow.named==Tryz.prog.varsNamed 4)=true:=by kernel_rfl
theorem qcZ:(Rows.cyclicFitsRow.wf (OpenSpec.ofChange Rows.cyclicFitsSpec)&&laidOutB Tryz.prog&&mapsRowed Tryz.prog &&
 Tryz.f4.params.all (Tryz.prog.readableRec ·)&&namedTie Tryz.prog Rows.cyclicFitsRow.named Rows.cyclicFitsSpec.vars &&
 (Rows.cyclicFitsRow.stops == [])&&(Tryz.prog.stops == [])&&(Rows.cyclicFitsRow.knobs == [])&&(Tryz.prog.stopKnobs == []))=true:=by kernel_rfl
theorem qcY:((Rows.cyclicFitsRow.maps==(Tryz.f4.params.toList++Rows.cyclicFitsSpec.plain.varTypes Tryz.prog).any (Tryz.prog.mapsRec ·))&&(Rows.cyclicFitsRow.ifaces==(Tryz.f4.params.toList++Rows.cyclicFitsSpec.plain.varTypes Tryz.prog).any (Tryz.prog.ifacesRec ·))&&(Rows.cyclicFitsRow.mapsOut==Tryz.prog.mapsAmong Tryz.f4.resultTypes.toList) &&
 (Rows.cyclicFitsRow.loops==(Tryz.f4.params.toList++Rows.cyclicFitsSpec.plain.varTypes Tryz.prog).any (Tryz.prog.loopsFrom ·))&&(Rows.cyclicFitsRow.wideKeys==(Tryz.f4.params.toList++Rows.cyclicFitsSpec.plain.varTypes Tryz.prog++Tryz.f4.resultTypes.toList).any (Tryz.prog.wideKeysFrom ·)) &&
 Rows.cyclicFitsSpec.vars.all (Tryz.prog.varReadable ·)&&Tryz.f4.resultTypes.all (fun t=>Tryz.prog.readableRec t&&decide (t<Tryz.prog.types.size))&&(Rows.cyclicFitsRow.ifacesOut==Tryz.f4.resultTypes.toList.any (Tryz.prog.ifacesRec ·))&&(Rows.cyclicFitsRow.loopsOut==Tryz.f4.resultTypes.toList.any (Tryz.prog.loopsFrom ·))&&(Rows.cyclicFitsRow.plainKeys==Tryz.prog.plainKeys)&&Rows.cyclicFitsRow.shortTexts.isNone&&Tryz.prog.stopsHeard&&Tryz.prog.mayEnter&&(Rows.cyclicFitsRow.lifted==Tryz.prog.liftsFinal)&&(Tryz.prog.make==some Rows.cyclicFitsRow.make))=true:=by kernel_rfl
theorem qf9:((Rows.cyclicFitsRow.kinds==(if Rows.cyclicFitsRow.domain.isEmpty then [] else Tryz.f4.params.toList.map fun t=>match Tryz.prog.underlying t with | some (.int k)=>some k | _=>none))&&(Rows.cyclicFitsRow.pinned==Rows.cyclicFitsRow.pinnedBy) &&
 (Rows.cyclicFitsRow.veiled==(Tryz.f4.params.toList++Rows.cyclicFitsSpec.plain.varTypes Tryz.prog++Tryz.f4.resultTypes.toList).any (Tryz.prog.veiledRec ·))&&Rows.cyclicFitsRow.veiledFits Tryz.prog Tryz.f4.params.toList (Tryz.f4.params.toList++Rows.cyclicFitsSpec.plain.varTypes Tryz.prog++Tryz.f4.resultTypes.toList))=true:=by kernel_rfl
theorem facts4:joinedFacts Tryz.prog 4 Tryz.f4 Rows.cyclicFitsSpec Rows.cyclicFitsRow=true:=by
 have h1:=qcZ;have h2:=qcY;have h3:=qf9;simp only[Bool.and_eq_true,and_assoc]at h1 h2 h3;unfold joinedFacts;simp only[Bool.and_eq_true,and_assoc];obtain⟨a1,a2,a3,a4,a5,a6,a7,a8,a9⟩:=h1;obtain⟨b1,b2,b3,b4,b5,b6,b7,b8,b9,b10,b11,b12,b13,b14,b15⟩:=h2;obtain⟨c1,c2,c3,c4⟩:=h3;exact⟨a1,a2,a3,a4,a5,a6,a7,a8,a9,KG,ZX,Ka,qbE,b1,b2,b3,b4,b5,b6,b7,b8,b9,b10,b11,b12,b13,b14,b15,c1,c2,c3,c4⟩
end Go.Proofs.YtoibbcnfhhggnaaGreatDoor
end
