import Derived.Test.YtdapogpjhljhaaaGreatDoorRows
import Derived.ProofKit
import Derived.Stop.Joined
import Derived.SevenTiedAt
import Derived.Test.YtdapogpjhljhaaaGreatDoorCs25
import Derived.Test.YtdapogpjhljhaaaGreatDoorTie
import Derived.Test.YtdapogpjhljhaaaGreatDoorCards
set_option maxRecDepth 100000
set_option linter.all false
set_option linter.defProp false
namespace Go.Proofs.YtdapogpjhljhaaaGreatDoor
open Go Proofs.Tryz
def fn3:prog.funcNamed "testbench/testbenchlaw24.CyclicSolves" = some 3:=by kernel_rfl
def qy7:Tryz.f3.isInstance prog Rows.cyclicSolvesRow.origin Rows.cyclicSolvesRow.targs:=of_decide_eq_true (by kernel_rfl)
def qx3:Tryz.f3.isWrapper prog Rows.cyclicSolvesRow.wrapper Rows.cyclicSolvesRow.mainSum:=by unfold Func.isWrapper;first|(rw[if_pos (by decide +kernel)];kernel_rfl)|(rw[if_neg (by decide +kernel)];exact⟨rfl,rfl⟩)
def W9:(Rows.cyclicSolvesRow.inPlace==prog.inPlace 3)=true:=by kernel_rfl
def JU:(Rows.cyclicSolvesRow.unfollowed==prog.unfollowed 3)=true:=by kernel_rfl
def WA:(Rows.cyclicSolvesRow.recurses==prog.recurses 3)=true:=by kernel_rfl
def qdo:(Rows.cyclicSolvesRow.named==prog.varsNamed 3)=true:=by kernel_rfl
def qeW:(Rows.cyclicSolvesRow.wf (OpenSpec.ofChange Rows.cyclicSolvesSpec)&&laidOutB prog&&mapsRowed prog &&
 Tryz.f3.params.all (prog.readableRec ·)&&namedTie prog Rows.cyclicSolvesRow.named Rows.cyclicSolvesSpec.vars &&
 (Rows.cyclicSolvesRow.stops == [])&&(prog.stops == [])&&(Rows.cyclicSolvesRow.knobs == [])&&(prog.stopKnobs == []))=true:=by kernel_rfl
def qeV:((Rows.cyclicSolvesRow.maps==(Tryz.f3.params.toList++Rows.cyclicSolvesSpec.plain.varTypes prog).any (prog.mapsRec ·))&&(Rows.cyclicSolvesRow.ifaces==(Tryz.f3.params.toList++Rows.cyclicSolvesSpec.plain.varTypes prog).any (prog.ifacesRec ·))&&(Rows.cyclicSolvesRow.mapsOut==prog.mapsAmong Tryz.f3.resultTypes.toList) &&
 (Rows.cyclicSolvesRow.loops==(Tryz.f3.params.toList++Rows.cyclicSolvesSpec.plain.varTypes prog).any (prog.loopsFrom ·))&&(Rows.cyclicSolvesRow.wideKeys==(Tryz.f3.params.toList++Rows.cyclicSolvesSpec.plain.varTypes prog++Tryz.f3.resultTypes.toList).any (prog.wideKeysFrom ·)) &&
 Rows.cyclicSolvesSpec.vars.all (prog.varReadable ·)&&Tryz.f3.resultTypes.all (fun t=>prog.readableRec t&&decide (t<prog.types.size))&&(Rows.cyclicSolvesRow.ifacesOut==Tryz.f3.resultTypes.toList.any (prog.ifacesRec ·))&&(Rows.cyclicSolvesRow.loopsOut==Tryz.f3.resultTypes.toList.any (prog.loopsFrom ·))&&(Rows.cyclicSolvesRow.plainKeys==prog.plainKeys)&&Rows.cyclicSolvesRow.shortTexts.isNone&&prog.stopsHeard&&prog.mayEnter&&(Rows.cyclicSolvesRow.lifted==prog.liftsFinal)&&(prog.make==some Rows.cyclicSolvesRow.make))=true:=by kernel_rfl
def qin:((Rows.cyclicSolvesRow.kinds==(if Rows.cyclicSolvesRow.domain.isEmpty then [] else Tryz.f3.params.toList.map fun t=>match prog.underlying t with|some (.int k)=>some k|_=>none))&&(Rows.cyclicSolvesRow.pinned==Rows.cyclicSolvesRow.pinnedBy) &&
 (Rows.cyclicSolvesRow.veiled==(Tryz.f3.params.toList++Rows.cyclicSolvesSpec.plain.varTypes prog++Tryz.f3.resultTypes.toList).any (prog.veiledRec ·))&&Rows.cyclicSolvesRow.veiledFits prog Tryz.f3.params.toList (Tryz.f3.params.toList++Rows.cyclicSolvesSpec.plain.varTypes prog++Tryz.f3.resultTypes.toList))=true:=by kernel_rfl
def qv4:joinedFacts prog 3 Tryz.f3 Rows.cyclicSolvesSpec Rows.cyclicSolvesRow=true:=by
 have h1:=qeW;have h2:=qeV;have a:=qin;simp only[Bool.and_eq_true,and_assoc]at h1 h2 a;unfold joinedFacts;simp only[Bool.and_eq_true,and_assoc];obtain⟨o,i,l,j,d,e,b,u,x⟩:=h1;obtain⟨b1,b2,b3,b4,b5,h,m,s,v,r,f,w,c,t,g⟩:=h2;obtain⟨c1,c2,c3,c4⟩:=a;exact⟨o,i,l,j,d,e,b,u,x,W9,JU,WA,qdo,b1,b2,b3,b4,b5,h,m,s,v,r,f,w,c,t,g,c1,c2,c3,c4⟩
def YI:Rows.CyclicSolvesSaid :=
 OpenClaim.holds_of_wide 3 Tryz.f3 rfl rfl rfl rfl rfl rfl rfl ⟨rfl,rfl,rfl,rfl,rfl⟩ rfl rfl rfl rfl rfl fn3 Tryz.func3 qv4 qy7 qx3
  (fun os started H enc _=>qsu os started H enc)
def qiC:Rows.cyclicSolvesRow.wfByText (OpenSpec.ofChange Rows.cyclicSolvesSpec)=true:=by kernel_rfl
def qiD:prog.mainIs=some (true, "7db7f6ef2a26abcefd150381d6faa7ff1d41f28f9cba386a719173d8be85268a".toList):=by kernel_rfl
def qe8:true=prog.looks []:=by kernel_rfl
def qdy:([27,29,32].all fun u=>!prog.wantsStandIn u)=true:=by kernel_rfl
def qiE:false=Rows.cyclicSolvesRow.goesBy Tryz.prog:=by kernel_rfl
theorem cyclicSolves_card:Rows.CyclicSolvesCardSaid :=
 Claim7.holds_tied_plain_at .later [] [.data, .data, .data, .widerDeep] true (true, "7db7f6ef2a26abcefd150381d6faa7ff1d41f28f9cba386a719173d8be85268a") true
  YI (fun _ h=>by cases h) qiC (fun _ h=>by cases h) cyclicSolves_row_tie rfl ⟨rfl,rfl⟩ qiD rfl
  (fun f fn hf hfn=>by
    obtain rfl:f=3:=Option.some.inj (fn3.symm.trans hf) |>.symm;obtain rfl:fn=Tryz.f3:=(Option.some.inj (func3.symm.trans hfn)).symm;exact⟨qe8,fun j t ht=>by
     rw[Tryz.params3]at ht;have hm:t∈[27,29,32]:=(by simpa using Array.mem_of_getElem? ht);exact(show prog.wantsStandIn t=false by simpa using List.all_eq_true.1 qdy t hm)⟩)
  qiE
#print axioms cyclicSolves_card
