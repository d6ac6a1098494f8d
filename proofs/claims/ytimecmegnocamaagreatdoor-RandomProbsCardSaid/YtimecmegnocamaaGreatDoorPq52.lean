/- The tied card of RandomProbs: the law's function returns true for every input, and each argument reads afterwards as it read before. No condition. -/
import Derived.Test.YtimecmegnocamaaGreatDoorRows
import Derived.ProofKit
import Derived.Stop.Joined
import Derived.SevenTiedAt
import Derived.Test.YtimecmegnocamaaGreatDoorPq51
import Derived.Test.YtimecmegnocamaaGreatDoorTie
import Derived.Test.YtimecmegnocamaaGreatDoorCards
set_option maxRecDepth 100000
set_option linter.all false
set_option linter.defProp false
namespace Go.Proofs.YtimecmegnocamaaGreatDoor
open Go Proofs.Tryz
def W0:(Rows.randomProbsRow.inPlace==prog.inPlace 3)=true:=by kernel_rfl
def JB:(Rows.randomProbsRow.unfollowed==prog.unfollowed 3)=true:=by kernel_rfl
def Wk:(Rows.randomProbsRow.recurses==prog.recurses 3)=true:=by kernel_rfl
def qda:(Rows.randomProbsRow.named==prog.varsNamed 3)=true:=by kernel_rfl
def qeL:(Rows.randomProbsRow.wf (OpenSpec.ofChange Rows.randomProbsSpec)&&laidOutB prog&&mapsRowed prog &&
 Tryz.f3.params.all (prog.readableRec ·)&&namedTie prog Rows.randomProbsRow.named Rows.randomProbsSpec.vars &&
 (Rows.randomProbsRow.stops == [])&&(prog.stops == [])&&(Rows.randomProbsRow.knobs == [])&&(prog.stopKnobs == []))=true:=by kernel_rfl
def qeK:((Rows.randomProbsRow.maps==(Tryz.f3.params.toList++Rows.randomProbsSpec.plain.varTypes prog).any (prog.mapsRec ·))&&(Rows.randomProbsRow.ifaces==(Tryz.f3.params.toList++Rows.randomProbsSpec.plain.varTypes prog).any (prog.ifacesRec ·))&&(Rows.randomProbsRow.mapsOut==prog.mapsAmong Tryz.f3.resultTypes.toList) &&
 (Rows.randomProbsRow.loops==(Tryz.f3.params.toList++Rows.randomProbsSpec.plain.varTypes prog).any (prog.loopsFrom ·))&&(Rows.randomProbsRow.wideKeys==(Tryz.f3.params.toList++Rows.randomProbsSpec.plain.varTypes prog++Tryz.f3.resultTypes.toList).any (prog.wideKeysFrom ·)) &&
 Rows.randomProbsSpec.vars.all (prog.varReadable ·)&&Tryz.f3.resultTypes.all (fun t=>prog.readableRec t&&decide (t<prog.types.size))&&(Rows.randomProbsRow.ifacesOut==Tryz.f3.resultTypes.toList.any (prog.ifacesRec ·))&&(Rows.randomProbsRow.loopsOut==Tryz.f3.resultTypes.toList.any (prog.loopsFrom ·))&&(Rows.randomProbsRow.plainKeys==prog.plainKeys)&&Rows.randomProbsRow.shortTexts.isNone&&prog.stopsHeard&&prog.mayEnter&&(Rows.randomProbsRow.lifted==prog.liftsFinal)&&(prog.make==some Rows.randomProbsRow.make))=true:=by kernel_rfl
def qif:((Rows.randomProbsRow.kinds==(if Rows.randomProbsRow.domain.isEmpty then [] else Tryz.f3.params.toList.map fun t=>match prog.underlying t with|some (.int k)=>some k|_=>none))&&(Rows.randomProbsRow.pinned==Rows.randomProbsRow.pinnedBy) &&
 (Rows.randomProbsRow.veiled==(Tryz.f3.params.toList++Rows.randomProbsSpec.plain.varTypes prog++Tryz.f3.resultTypes.toList).any (prog.veiledRec ·))&&Rows.randomProbsRow.veiledFits prog Tryz.f3.params.toList (Tryz.f3.params.toList++Rows.randomProbsSpec.plain.varTypes prog++Tryz.f3.resultTypes.toList))=true:=by kernel_rfl
def qvF:joinedFacts prog 3 Tryz.f3 Rows.randomProbsSpec Rows.randomProbsRow=true:=by
 have h1:=qeL;have h2:=qeK;have h3:=qif;simp only[Bool.and_eq_true,and_assoc]at h1 h2 h3;unfold joinedFacts;simp only[Bool.and_eq_true,and_assoc];obtain⟨a1,a2,a3,a4,a5,a6,a7,a8,a9⟩:=h1;obtain⟨b1,b2,b3,b4,b5,b6,b7,b8,b9,b10,b11,b12,b13,b14,b15⟩:=h2;obtain⟨c1,c2,c3,c4⟩:=h3;exact⟨a1,a2,a3,a4,a5,a6,a7,a8,a9,W0,JB,Wk,qda,b1,b2,b3,b4,b5,b6,b7,b8,b9,b10,b11,b12,b13,b14,b15,c1,c2,c3,c4⟩
def Ku:Rows.RandomProbsSaid :=
 OpenClaim.holds_of_wide 3 Tryz.f3 rfl rfl rfl rfl rfl rfl rfl ⟨rfl,rfl,rfl,rfl,rfl⟩ rfl rfl rfl rfl rfl fn3 Tryz.func3 qvF qyL qxH
  (fun os started H enc _=>qr6 os started H enc)
def qiq:Rows.randomProbsRow.wfByText (OpenSpec.ofChange Rows.randomProbsSpec)=true:=by kernel_rfl
def qir:prog.mainIs=some (true, "27937e476e659f60a694ee9d9655634c3db35c4d2564a3cedc507028e447aac4".toList):=by kernel_rfl
def qeW:true=prog.looks []:=by kernel_rfl
def qdp:([27,28].all fun u=>!prog.wantsStandIn u)=true:=by kernel_rfl
def qis:false=Rows.randomProbsRow.goesBy Tryz.prog:=by kernel_rfl
theorem randomProbs_card:Rows.RandomProbsCardSaid :=
 Claim7.holds_tied_plain_at .later [] [.data, .data, .data, .widerDeep] true (true, "27937e476e659f60a694ee9d9655634c3db35c4d2564a3cedc507028e447aac4") true
  Ku (fun _ h=>by cases h) qiq (fun _ h=>by cases h) randomProbs_row_tie rfl ⟨rfl,rfl⟩ qir rfl
  (fun f fn hf hfn=>by
    obtain rfl:f=3:=Option.some.inj (fn3.symm.trans hf) |>.symm;obtain rfl:fn=Tryz.f3:=(Option.some.inj (func3.symm.trans hfn)).symm;exact⟨qeW,fun j t ht=>by
     rw[Tryz.params3]at ht;have hm:t∈[27,28]:=(by simpa using Array.mem_of_getElem? ht);exact(show prog.wantsStandIn t=false by simpa using List.all_eq_true.1 qdp t hm)⟩)
  qis
#print axioms randomProbs_card
