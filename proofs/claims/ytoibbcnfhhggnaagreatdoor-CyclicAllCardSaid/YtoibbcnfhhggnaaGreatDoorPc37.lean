/- A part of the proof. -/
import Derived.Test.YtoibbcnfhhggnaaGreatDoorRows
import Derived.ProofKit
import Derived.Stop.Joined
import Derived.SevenTiedAt
set_option maxRecDepth 100000
set_option linter.unusedSimpArgs false
set_option linter.unusedVariables false
set_option linter.defProp false
section
namespace Go.Proofs.YtoibbcnfhhggnaaGreatDoor
open Go
theorem KW:(Rows.cyclicAllRow.inPlace==Tryz.prog.inPlace 3)=true:=by kernel_rfl
theorem Z3:(Rows.cyclicAllRow.unfollowed==Tryz.prog.unfollowed 3)=true:=by kernel_rfl
theorem Kq:(Rows.cyclicAllRow.recurses==Tryz.prog.recurses 3)=true:=by kernel_rfl
theorem qbJ:(Rows.cyclicAllRow.named==Tryz.prog.varsNamed 3)=true:=by kernel_rfl
theorem qcW:(Rows.cyclicAllRow.wf (OpenSpec.ofChange Rows.cyclicAllSpec)&&laidOutB Tryz.prog&&mapsRowed Tryz.prog &&
 Tryz.f3.params.all (Tryz.prog.readableRec ·)&&namedTie Tryz.prog Rows.cyclicAllRow.named Rows.cyclicAllSpec.vars &&
 (Rows.cyclicAllRow.stops == [])&&(Tryz.prog.stops == [])&&(Rows.cyclicAllRow.knobs == [])&&(Tryz.prog.stopKnobs == []))=true:=by kernel_rfl
theorem qcV:((Rows.cyclicAllRow.maps==(Tryz.f3.params.toList++Rows.cyclicAllSpec.plain.varTypes Tryz.prog).any (Tryz.prog.mapsRec ·))&&(Rows.cyclicAllRow.ifaces==(Tryz.f3.params.toList++Rows.cyclicAllSpec.plain.varTypes Tryz.prog).any (Tryz.prog.ifacesRec ·))&&(Rows.cyclicAllRow.mapsOut==Tryz.prog.mapsAmong Tryz.f3.resultTypes.toList) &&
 (Rows.cyclicAllRow.loops==(Tryz.f3.params.toList++Rows.cyclicAllSpec.plain.varTypes Tryz.prog).any (Tryz.prog.loopsFrom ·))&&(Rows.cyclicAllRow.wideKeys==(Tryz.f3.params.toList++Rows.cyclicAllSpec.plain.varTypes Tryz.prog++Tryz.f3.resultTypes.toList).any (Tryz.prog.wideKeysFrom ·)) &&
 Rows.cyclicAllSpec.vars.all (Tryz.prog.varReadable ·)&&Tryz.f3.resultTypes.all (fun t=>Tryz.prog.readableRec t&&decide (t<Tryz.prog.types.size))&&(Rows.cyclicAllRow.ifacesOut==Tryz.f3.resultTypes.toList.any (Tryz.prog.ifacesRec ·))&&(Rows.cyclicAllRow.loopsOut==Tryz.f3.resultTypes.toList.any (Tryz.prog.loopsFrom ·))&&(Rows.cyclicAllRow.plainKeys==Tryz.prog.plainKeys)&&Rows.cyclicAllRow.shortTexts.isNone&&Tryz.prog.stopsHeard&&Tryz.prog.mayEnter&&(Rows.cyclicAllRow.lifted==Tryz.prog.liftsFinal)&&(Tryz.prog.make==some Rows.cyclicAllRow.make))=true:=by kernel_rfl
theorem qgb:((Rows.cyclicAllRow.kinds==(if Rows.cyclicAllRow.domain.isEmpty then [] else Tryz.f3.params.toList.map fun t=>match Tryz.prog.underlying t with | some (.int k)=>some k | _=>none))&&(Rows.cyclicAllRow.pinned==Rows.cyclicAllRow.pinnedBy) &&
 (Rows.cyclicAllRow.veiled==(Tryz.f3.params.toList++Rows.cyclicAllSpec.plain.varTypes Tryz.prog++Tryz.f3.resultTypes.toList).any (Tryz.prog.veiledRec ·))&&Rows.cyclicAllRow.veiledFits Tryz.prog Tryz.f3.params.toList (Tryz.f3.params.toList++Rows.cyclicAllSpec.plain.varTypes Tryz.prog++Tryz.f3.resultTypes.toList))=true:=by kernel_rfl
theorem facts3:joinedFacts Tryz.prog 3 Tryz.f3 Rows.cyclicAllSpec Rows.cyclicAllRow=true:=by
 have h1:=qcW;have h2:=qcV;have h3:=qgb;simp only[Bool.and_eq_true,and_assoc]at h1 h2 h3;unfold joinedFacts;simp only[Bool.and_eq_true,and_assoc];obtain⟨a1,a2,a3,a4,a5,a6,a7,a8,a9⟩:=h1;obtain⟨b1,b2,b3,b4,b5,b6,b7,b8,b9,b10,b11,b12,b13,b14,b15⟩:=h2;obtain⟨c1,c2,c3,c4⟩:=h3;exact⟨a1,a2,a3,a4,a5,a6,a7,a8,a9,KW,Z3,Kq,qbJ,b1,b2,b3,b4,b5,b6,b7,b8,b9,b10,b11,b12,b13,b14,b15,c1,c2,c3,c4⟩
end Go.Proofs.YtoibbcnfhhggnaaGreatDoor
end
