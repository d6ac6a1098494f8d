/- A part of the proof. -/
import Derived.Test.YtcadpamddlofjaaGreatDoorRows
import Derived.ProofKit
import Derived.Stop.Joined
import Derived.SevenTiedAt
set_option maxRecDepth 100000
set_option linter.unusedSimpArgs false
set_option linter.unusedVariables false
set_option linter.defProp false
section
namespace Go.Proofs.YtcadpamddlofjaaGreatDoor
open Go
theorem Km:(Rows.cyclicPlainRow.inPlace==Tryz.prog.inPlace 3)=true:=by kernel_rfl
theorem Zs:(Rows.cyclicPlainRow.unfollowed==Tryz.prog.unfollowed 3)=true:=by kernel_rfl
theorem YF:(Rows.cyclicPlainRow.recurses==Tryz.prog.recurses 3)=true:=by kernel_rfl
theorem qaW:(Rows.cyclicPlainRow.named==Tryz.prog.varsNamed 3)=true:=by kernel_rfl
theorem qcl:(Rows.cyclicPlainRow.wf (OpenSpec.ofChange Rows.cyclicPlainSpec)&&laidOutB Tryz.prog&&mapsRowed Tryz.prog &&
 Tryz.f3.params.all (Tryz.prog.readableRec ·)&&namedTie Tryz.prog Rows.cyclicPlainRow.named Rows.cyclicPlainSpec.vars &&
 (Rows.cyclicPlainRow.stops == [])&&(Tryz.prog.stops == [])&&(Rows.cyclicPlainRow.knobs == [])&&(Tryz.prog.stopKnobs == []))=true:=by kernel_rfl
theorem qck:((Rows.cyclicPlainRow.maps==(Tryz.f3.params.toList++Rows.cyclicPlainSpec.plain.varTypes Tryz.prog).any (Tryz.prog.mapsRec ·))&&(Rows.cyclicPlainRow.ifaces==(Tryz.f3.params.toList++Rows.cyclicPlainSpec.plain.varTypes Tryz.prog).any (Tryz.prog.ifacesRec ·))&&(Rows.cyclicPlainRow.mapsOut==Tryz.prog.mapsAmong Tryz.f3.resultTypes.toList) &&
 (Rows.cyclicPlainRow.loops==(Tryz.f3.params.toList++Rows.cyclicPlainSpec.plain.varTypes Tryz.prog).any (Tryz.prog.loopsFrom ·))&&(Rows.cyclicPlainRow.wideKeys==(Tryz.f3.params.toList++Rows.cyclicPlainSpec.plain.varTypes Tryz.prog++Tryz.f3.resultTypes.toList).any (Tryz.prog.wideKeysFrom ·)) &&
 Rows.cyclicPlainSpec.vars.all (Tryz.prog.varReadable ·)&&Tryz.f3.resultTypes.all (fun t=>Tryz.prog.readableRec t&&decide (t<Tryz.prog.types.size))&&(Rows.cyclicPlainRow.ifacesOut==Tryz.f3.resultTypes.toList.any (Tryz.prog.ifacesRec ·))&&(Rows.cyclicPlainRow.loopsOut==Tryz.f3.resultTypes.toList.any (Tryz.prog.loopsFrom ·))&&(Rows.cyclicPlainRow.plainKeys==Tryz.prog.plainKeys)&&Rows.cyclicPlainRow.shortTexts.isNone&&Tryz.prog.stopsHeard&&Tryz.prog.mayEnter&&(Rows.cyclicPlainRow.lifted==Tryz.prog.liftsFinal)&&(Tryz.prog.make==some Rows.cyclicPlainRow.make))=true:=by kernel_rfl
theorem qfc:((Rows.cyclicPlainRow.kinds==(if Rows.cyclicPlainRow.domain.isEmpty then [] else Tryz.f3.params.toList.map fun t=>match Tryz.prog.underlying t with | some (.int k)=>some k | _=>none))&&(Rows.cyclicPlainRow.pinned==Rows.cyclicPlainRow.pinnedBy) &&
 (Rows.cyclicPlainRow.veiled==(Tryz.f3.params.toList++Rows.cyclicPlainSpec.plain.varTypes Tryz.prog++Tryz.f3.resultTypes.toList).any (Tryz.prog.veiledRec ·))&&Rows.cyclicPlainRow.veiledFits Tryz.prog Tryz.f3.params.toList (Tryz.f3.params.toList++Rows.cyclicPlainSpec.plain.varTypes Tryz.prog++Tryz.f3.resultTypes.toList))=true:=by kernel_rfl
theorem facts3:joinedFacts Tryz.prog 3 Tryz.f3 Rows.cyclicPlainSpec Rows.cyclicPlainRow=true:=by
 have h1:=qcl;have h2:=qck;have h3:=qfc;simp only[Bool.and_eq_true,and_assoc]at h1 h2 h3;unfold joinedFacts;simp only[Bool.and_eq_true,and_assoc];obtain⟨a1,a2,a3,a4,a5,a6,a7,a8,a9⟩:=h1;obtain⟨b1,b2,b3,b4,b5,b6,b7,b8,b9,b10,b11,b12,b13,b14,b15⟩:=h2;obtain⟨c1,c2,c3,c4⟩:=h3;exact⟨a1,a2,a3,a4,a5,a6,a7,a8,a9,Km,Zs,YF,qaW,b1,b2,b3,b4,b5,b6,b7,b8,b9,b10,b11,b12,b13,b14,b15,c1,c2,c3,c4⟩
end Go.Proofs.YtcadpamddlofjaaGreatDoor
end
