/- For every input that fits the row, the law ElabGroups returns true and each argument reads afterwards as it read before: each random variable of a problem is in exactly one group, ascending, and a variable that is to be chosen before another one is in an earlier group. No further condition; the package-level variables that the row lists start as the text of the program lays them; the card ties them to that text. -/
import Derived.Test.YtpgcmnabljandaaGreatDoorRows
import Derived.ProofKit
import Derived.Stop.Joined
import Derived.SevenTiedAt
import Derived.Test.YtpgcmnabljandaaGreatDoorGs01
import Derived.Test.YtpgcmnabljandaaGreatDoorGs02
import Derived.Test.YtpgcmnabljandaaGreatDoorTie
import Derived.Test.YtpgcmnabljandaaGreatDoorCards
set_option maxRecDepth 100000
set_option linter.unusedSimpArgs false
set_option linter.unusedVariables false
section
namespace Go.Proofs.YtpgcmnabljandaaGreatDoor
open Go
theorem facts7_inPlace:(Rows.elabGroupsRow.inPlace==Tryz.prog.inPlace 7)=true:=by kernel_rfl
theorem facts7_unfollowed:(Rows.elabGroupsRow.unfollowed==Tryz.prog.unfollowed 7)=true:=by kernel_rfl
theorem facts7_recurses:(Rows.elabGroupsRow.recurses==Tryz.prog.recurses 7)=true:=by kernel_rfl
theorem facts7_named:(Rows.elabGroupsRow.named==Tryz.prog.varsNamed 7)=true:=by kernel_rfl
theorem facts7_head:(Rows.elabGroupsRow.wf (OpenSpec.ofChange Rows.elabGroupsSpec)&&laidOutB Tryz.prog&&mapsRowed Tryz.prog &&
 Tryz.f7.params.all (Tryz.prog.readableRec ·)&&namedTie Tryz.prog Rows.elabGroupsRow.named Rows.elabGroupsSpec.vars &&
 (Rows.elabGroupsRow.stops == [])&&(Tryz.prog.stops == [])&&(Rows.elabGroupsRow.knobs == [])&&(Tryz.prog.stopKnobs == []))=true:=by kernel_rfl
theorem facts7_tail:((Rows.elabGroupsRow.maps==(Tryz.f7.params.toList++Rows.elabGroupsSpec.plain.varTypes Tryz.prog).any (Tryz.prog.mapsRec ·))&&(Rows.elabGroupsRow.ifaces==(Tryz.f7.params.toList++Rows.elabGroupsSpec.plain.varTypes Tryz.prog).any (Tryz.prog.ifacesRec ·))&&(Rows.elabGroupsRow.mapsOut==Tryz.prog.mapsAmong Tryz.f7.resultTypes.toList) &&
 (Rows.elabGroupsRow.loops==(Tryz.f7.params.toList++Rows.elabGroupsSpec.plain.varTypes Tryz.prog).any (Tryz.prog.loopsFrom ·))&&(Rows.elabGroupsRow.wideKeys==(Tryz.f7.params.toList++Rows.elabGroupsSpec.plain.varTypes Tryz.prog++Tryz.f7.resultTypes.toList).any (Tryz.prog.wideKeysFrom ·)) &&
 Rows.elabGroupsSpec.vars.all (Tryz.prog.varReadable ·)&&Tryz.f7.resultTypes.all (fun t=>Tryz.prog.readableRec t&&decide (t<Tryz.prog.types.size))&&(Rows.elabGroupsRow.ifacesOut==Tryz.f7.resultTypes.toList.any (Tryz.prog.ifacesRec ·))&&(Rows.elabGroupsRow.loopsOut==Tryz.f7.resultTypes.toList.any (Tryz.prog.loopsFrom ·))&&(Rows.elabGroupsRow.plainKeys==Tryz.prog.plainKeys)&&Rows.elabGroupsRow.shortTexts.isNone&&Tryz.prog.stopsHeard&&Tryz.prog.mayEnter&&(Rows.elabGroupsRow.lifted==Tryz.prog.liftsFinal)&&(Tryz.prog.make==some Rows.elabGroupsRow.make))=true:=by kernel_rfl
theorem facts7_end:((Rows.elabGroupsRow.kinds==(if Rows.elabGroupsRow.domain.isEmpty then [] else Tryz.f7.params.toList.map fun t=>match Tryz.prog.underlying t with | some (.int k)=>some k | _=>none))&&(Rows.elabGroupsRow.pinned==Rows.elabGroupsRow.pinnedBy) &&
 (Rows.elabGroupsRow.veiled==(Tryz.f7.params.toList++Rows.elabGroupsSpec.plain.varTypes Tryz.prog++Tryz.f7.resultTypes.toList).any (Tryz.prog.veiledRec ·))&&Rows.elabGroupsRow.veiledFits Tryz.prog Tryz.f7.params.toList (Tryz.f7.params.toList++Rows.elabGroupsSpec.plain.varTypes Tryz.prog++Tryz.f7.resultTypes.toList))=true:=by kernel_rfl
theorem facts7:joinedFacts Tryz.prog 7 Tryz.f7 Rows.elabGroupsSpec Rows.elabGroupsRow=true:=by
 have h1:=facts7_head
 have h2:=facts7_tail
 have h3:=facts7_end
 simp only [Bool.and_eq_true,and_assoc] at h1 h2 h3
 unfold joinedFacts
 simp only [Bool.and_eq_true,and_assoc]
 obtain⟨a1,a2,a3,a4,a5,a6,a7,a8,a9⟩:=h1
 obtain⟨b1,b2,b3,b4,b5,b6,b7,b8,b9,b10,b11,b12,b13,b14,b15⟩:=h2
 obtain⟨c1,c2,c3,c4⟩:=h3
 exact⟨a1,a2,a3,a4,a5,a6,a7,a8,a9,facts7_inPlace,facts7_unfollowed,facts7_recurses,facts7_named,b1,b2,b3,b4,b5,b6,b7,b8,b9,b10,b11,b12,b13,b14,b15,c1,c2,c3,c4⟩
theorem elabGroups_row:Rows.ElabGroupsSaid :=
 OpenClaim.holds_of_wide 7 Tryz.f7 rfl rfl rfl rfl rfl rfl rfl ⟨rfl,rfl,rfl,rfl,rfl⟩ rfl rfl rfl rfl rfl fn7 Tryz.func7 facts7 inst7 wrap7
  (fun os started H enc _=>lifted7 os started H enc)
#print axioms elabGroups_row
theorem card7_text:Rows.elabGroupsRow.wfByText (OpenSpec.ofChange Rows.elabGroupsSpec)=true:=by kernel_rfl
theorem card7_main : Tryz.prog.mainIs = some (true, "438c544592da4d0fde47ce508cfbd717d9eaee5c99ea4794d263a81d85aa15ca".toList) := by kernel_rfl
theorem card7_looks:false=Tryz.prog.looks []:=by kernel_rfl
theorem card7_params:([27].all fun u=>!Tryz.prog.wantsStandIn u)=true:=by kernel_rfl
theorem card7_goes:false=Rows.elabGroupsRow.goesBy Tryz.prog:=by kernel_rfl
theorem elabGroups_card:Rows.ElabGroupsCardSaid :=
 Claim7.holds_tied_plain_at .later [] [.data, .data, .data, .widerDeep] true (true, "438c544592da4d0fde47ce508cfbd717d9eaee5c99ea4794d263a81d85aa15ca") false
  elabGroups_row (fun _ h=>by cases h) card7_text (fun _ h=>by cases h) elabGroups_row_tie rfl ⟨rfl,rfl⟩ card7_main rfl
  (fun f fn hf hfn=>by
    obtain rfl:f=7:=Option.some.inj (fn7.symm.trans hf) |>.symm
    obtain rfl:fn=Tryz.f7:=(Option.some.inj (Tryz.func7.symm.trans hfn)).symm
    exact⟨card7_looks,fun j t ht=>by
     rw [Tryz.params7] at ht
     have hm:t∈[27]:=by simpa using Array.mem_of_getElem? ht
     exact (show Tryz.prog.wantsStandIn t=false by simpa using List.all_eq_true.1 card7_params t hm)⟩)
  card7_goes
#print axioms elabGroups_card
end Go.Proofs.YtpgcmnabljandaaGreatDoor
end
