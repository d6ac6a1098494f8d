import Derived.Test.YtkodonalmdmgpaaGreatDoorRows
import Derived.ProofKit
import Derived.Stop.Joined
import Derived.SevenTiedAt
set_option maxRecDepth 100000
set_option linter.all false
set_option linter.defProp false
section
namespace Go.Proofs.YtkodonalmdmgpaaGreatDoor
open Go
theorem facts3_inPlace:(Rows.stimValidsUptoRow.inPlace==Tryz.prog.inPlace 3)=true:=by kernel_rfl
theorem facts3_unfollowed:(Rows.stimValidsUptoRow.unfollowed==Tryz.prog.unfollowed 3)=true:=by kernel_rfl
theorem facts3_recurses:(Rows.stimValidsUptoRow.recurses==Tryz.prog.recurses 3)=true:=by kernel_rfl
theorem facts3_named:(Rows.stimValidsUptoRow.named==Tryz.prog.varsNamed 3)=true:=by kernel_rfl
theorem facts3_head:(Rows.stimValidsUptoRow.wf (OpenSpec.ofChange Rows.stimValidsSpec)&&laidOutB Tryz.prog&&mapsRowed Tryz.prog &&
 Tryz.f3.params.all (Tryz.prog.readableRec ·)&&namedTie Tryz.prog Rows.stimValidsUptoRow.named Rows.stimValidsSpec.vars &&
 (Rows.stimValidsUptoRow.stops == [])&&(Tryz.prog.stops == [])&&(Rows.stimValidsUptoRow.knobs == [])&&(Tryz.prog.stopKnobs == []))=true:=by kernel_rfl
theorem facts3_tail:((Rows.stimValidsUptoRow.maps==(Tryz.f3.params.toList++Rows.stimValidsSpec.plain.varTypes Tryz.prog).any (Tryz.prog.mapsRec ·))&&(Rows.stimValidsUptoRow.ifaces==(Tryz.f3.params.toList++Rows.stimValidsSpec.plain.varTypes Tryz.prog).any (Tryz.prog.ifacesRec ·))&&(Rows.stimValidsUptoRow.mapsOut==Tryz.prog.mapsAmong Tryz.f3.resultTypes.toList) &&
 (Rows.stimValidsUptoRow.loops==(Tryz.f3.params.toList++Rows.stimValidsSpec.plain.varTypes Tryz.prog).any (Tryz.prog.loopsFrom ·))&&(Rows.stimValidsUptoRow.wideKeys==(Tryz.f3.params.toList++Rows.stimValidsSpec.plain.varTypes Tryz.prog++Tryz.f3.resultTypes.toList).any (Tryz.prog.wideKeysFrom ·)) &&
 Rows.stimValidsSpec.vars.all (Tryz.prog.varReadable ·)&&Tryz.f3.resultTypes.all (fun t=>Tryz.prog.readableRec t&&decide (t<Tryz.prog.types.size))&&(Rows.stimValidsUptoRow.ifacesOut==Tryz.f3.resultTypes.toList.any (Tryz.prog.ifacesRec ·))&&(Rows.stimValidsUptoRow.loopsOut==Tryz.f3.resultTypes.toList.any (Tryz.prog.loopsFrom ·))&&(Rows.stimValidsUptoRow.plainKeys==Tryz.prog.plainKeys)&&Rows.stimValidsUptoRow.shortTexts.isNone&&Tryz.prog.stopsHeard&&Tryz.prog.mayEnter&&(Rows.stimValidsUptoRow.lifted==Tryz.prog.liftsFinal)&&(Tryz.prog.make==some Rows.stimValidsUptoRow.make))=true:=by kernel_rfl
theorem facts3_end:((Rows.stimValidsUptoRow.kinds==(if Rows.stimValidsUptoRow.domain.isEmpty then [] else Tryz.f3.params.toList.map fun t=>match Tryz.prog.underlying t with | some (.int k)=>some k | _=>none))&&(Rows.stimValidsUptoRow.pinned==Rows.stimValidsUptoRow.pinnedBy) &&
 (Rows.stimValidsUptoRow.veiled==(Tryz.f3.params.toList++Rows.stimValidsSpec.plain.varTypes Tryz.prog++Tryz.f3.resultTypes.toList).any (Tryz.prog.veiledRec ·))&&Rows.stimValidsUptoRow.veiledFits Tryz.prog Tryz.f3.params.toList (Tryz.f3.params.toList++Rows.stimValidsSpec.plain.varTypes Tryz.prog++Tryz.f3.resultTypes.toList))=true:=by kernel_rfl
theorem facts3:joinedFacts Tryz.prog 3 Tryz.f3 Rows.stimValidsSpec Rows.stimValidsUptoRow=true:=by
 have h1:=facts3_head
 have h2:=facts3_tail
 have h3:=facts3_end
 simp only [Bool.and_eq_true,and_assoc] at h1 h2 h3
 unfold joinedFacts
 simp only [Bool.and_eq_true,and_assoc]
 obtain⟨a1,a2,a3,a4,a5,a6,a7,a8,a9⟩:=h1
 obtain⟨b1,b2,b3,b4,b5,b6,b7,b8,b9,b10,b11,b12,b13,b14,b15⟩:=h2
 obtain⟨c1,c2,c3,c4⟩:=h3
 exact⟨a1,a2,a3,a4,a5,a6,a7,a8,a9,facts3_inPlace,facts3_unfollowed,facts3_recurses,facts3_named,b1,b2,b3,b4,b5,b6,b7,b8,b9,b10,b11,b12,b13,b14,b15,c1,c2,c3,c4⟩
end Go.Proofs.YtkodonalmdmgpaaGreatDoor
end
