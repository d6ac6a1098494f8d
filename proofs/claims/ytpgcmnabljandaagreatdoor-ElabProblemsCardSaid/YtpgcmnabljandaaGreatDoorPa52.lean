/- A part of the proof. -/
import Derived.Test.YtpgcmnabljandaaGreatDoorRows
import Derived.ProofKit
import Derived.Stop.Joined
import Derived.SevenTiedAt
import Derived.Test.YtpgcmnabljandaaGreatDoorPa51
import Derived.Test.YtpgcmnabljandaaGreatDoorTie
import Derived.Test.YtpgcmnabljandaaGreatDoorCards
set_option maxRecDepth 100000
set_option linter.unusedSimpArgs false
set_option linter.unusedVariables false
set_option linter.defProp false
section
namespace Go.Proofs.YtpgcmnabljandaaGreatDoor
open Go
theorem Vm:(Rows.elabProblemsRow.inPlace==Tryz.prog.inPlace 4)=true:=by kernel_rfl
theorem Yc:(Rows.elabProblemsRow.unfollowed==Tryz.prog.unfollowed 4)=true:=by kernel_rfl
theorem WD:(Rows.elabProblemsRow.recurses==Tryz.prog.recurses 4)=true:=by kernel_rfl
theorem qdr:(Rows.elabProblemsRow.named==Tryz.prog.varsNamed 4)=true:=by kernel_rfl
theorem qfd:(Rows.elabProblemsRow.wf (OpenSpec.ofChange Rows.elabProblemsSpec)&&laidOutB Tryz.prog&&mapsRowed Tryz.prog &&
 Tryz.f4.params.all (Tryz.prog.readableRec ·)&&namedTie Tryz.prog Rows.elabProblemsRow.named Rows.elabProblemsSpec.vars &&
 (Rows.elabProblemsRow.stops == [])&&(Tryz.prog.stops == [])&&(Rows.elabProblemsRow.knobs == [])&&(Tryz.prog.stopKnobs == []))=true:=by kernel_rfl
theorem qfc:((Rows.elabProblemsRow.maps==(Tryz.f4.params.toList++Rows.elabProblemsSpec.plain.varTypes Tryz.prog).any (Tryz.prog.mapsRec ·))&&(Rows.elabProblemsRow.ifaces==(Tryz.f4.params.toList++Rows.elabProblemsSpec.plain.varTypes Tryz.prog).any (Tryz.prog.ifacesRec ·))&&(Rows.elabProblemsRow.mapsOut==Tryz.prog.mapsAmong Tryz.f4.resultTypes.toList) &&
 (Rows.elabProblemsRow.loops==(Tryz.f4.params.toList++Rows.elabProblemsSpec.plain.varTypes Tryz.prog).any (Tryz.prog.loopsFrom ·))&&(Rows.elabProblemsRow.wideKeys==(Tryz.f4.params.toList++Rows.elabProblemsSpec.plain.varTypes Tryz.prog++Tryz.f4.resultTypes.toList).any (Tryz.prog.wideKeysFrom ·)) &&
 Rows.elabProblemsSpec.vars.all (Tryz.prog.varReadable ·)&&Tryz.f4.resultTypes.all (fun t=>Tryz.prog.readableRec t&&decide (t<Tryz.prog.types.size))&&(Rows.elabProblemsRow.ifacesOut==Tryz.f4.resultTypes.toList.any (Tryz.prog.ifacesRec ·))&&(Rows.elabProblemsRow.loopsOut==Tryz.f4.resultTypes.toList.any (Tryz.prog.loopsFrom ·))&&(Rows.elabProblemsRow.plainKeys==Tryz.prog.plainKeys)&&Rows.elabProblemsRow.shortTexts.isNone&&Tryz.prog.stopsHeard&&Tryz.prog.mayEnter&&(Rows.elabProblemsRow.lifted==Tryz.prog.liftsFinal)&&(Tryz.prog.make==some Rows.elabProblemsRow.make))=true:=by kernel_rfl
theorem qii:((Rows.elabProblemsRow.kinds==(if Rows.elabProblemsRow.domain.isEmpty then [] else Tryz.f4.params.toList.map fun t=>match Tryz.prog.underlying t with | some (.int k)=>some k | _=>none))&&(Rows.elabProblemsRow.pinned==Rows.elabProblemsRow.pinnedBy) &&
 (Rows.elabProblemsRow.veiled==(Tryz.f4.params.toList++Rows.elabProblemsSpec.plain.varTypes Tryz.prog++Tryz.f4.resultTypes.toList).any (Tryz.prog.veiledRec ·))&&Rows.elabProblemsRow.veiledFits Tryz.prog Tryz.f4.params.toList (Tryz.f4.params.toList++Rows.elabProblemsSpec.plain.varTypes Tryz.prog++Tryz.f4.resultTypes.toList))=true:=by kernel_rfl
theorem facts4:joinedFacts Tryz.prog 4 Tryz.f4 Rows.elabProblemsSpec Rows.elabProblemsRow=true:=by
 have h1:=qfd;have h2:=qfc;have h3:=qii;simp only[Bool.and_eq_true,and_assoc]at h1 h2 h3;unfold joinedFacts;simp only[Bool.and_eq_true,and_assoc];obtain⟨a1,a2,a3,a4,a5,a6,a7,a8,a9⟩:=h1;obtain⟨b1,b2,b3,b4,b5,b6,b7,b8,b9,b10,b11,b12,b13,b14,b15⟩:=h2;obtain⟨c1,c2,c3,c4⟩:=h3;exact⟨a1,a2,a3,a4,a5,a6,a7,a8,a9,Vm,Yc,WD,qdr,b1,b2,b3,b4,b5,b6,b7,b8,b9,b10,b11,b12,b13,b14,b15,c1,c2,c3,c4⟩
theorem YR:Rows.ElabProblemsSaid :=
 OpenClaim.holds_of_wide 4 Tryz.f4 rfl rfl rfl rfl rfl rfl rfl ⟨rfl,rfl,rfl,rfl,rfl⟩ rfl rfl rfl rfl rfl fn4 Tryz.func4 facts4 inst4 wrap4
  (fun os started H enc _=>qp9 os started H enc)
theorem qir:Rows.elabProblemsRow.wfByText (OpenSpec.ofChange Rows.elabProblemsSpec)=true:=by kernel_rfl
theorem qis : Tryz.prog.mainIs = some (true, "438c544592da4d0fde47ce508cfbd717d9eaee5c99ea4794d263a81d85aa15ca".toList) := by kernel_rfl
theorem qfu:false=Tryz.prog.looks []:=by kernel_rfl
theorem qdP:([27].all fun u=>!Tryz.prog.wantsStandIn u)=true:=by kernel_rfl
theorem qit:false=Rows.elabProblemsRow.goesBy Tryz.prog:=by kernel_rfl
section
theorem elabProblems_card:Rows.ElabProblemsCardSaid :=
 Claim7.holds_tied_plain_at .later [] [.data, .data, .data, .widerDeep] true (true, "438c544592da4d0fde47ce508cfbd717d9eaee5c99ea4794d263a81d85aa15ca") false
  YR (fun _ h=>by cases h) qir (fun _ h=>by cases h) elabProblems_row_tie rfl ⟨rfl,rfl⟩ qis rfl
  (fun f fn hf hfn=>by
    obtain rfl:f=4:=Option.some.inj (fn4.symm.trans hf) |>.symm;obtain rfl:fn=Tryz.f4:=(Option.some.inj (Tryz.func4.symm.trans hfn)).symm;exact⟨qfu,fun j t ht=>by
     rw[Tryz.params4]at ht;have hm:t∈[27]:=(by simpa using Array.mem_of_getElem? ht);exact (show Tryz.prog.wantsStandIn t=false by simpa using List.all_eq_true.1 qdP t hm)⟩)
  qit
#print axioms elabProblems_card
end
end Go.Proofs.YtpgcmnabljandaaGreatDoor
end
