/- The tied card of RandomTotals: the law's function returns true for every input, and each argument reads afterwards as it read before. No condition. -/
import Derived.Test.YtafbccendejkeaaGreatDoorPt33
import Derived.Test.YtafbccendejkeaaGreatDoorTie
import Derived.Test.YtafbccendejkeaaGreatDoorCards
set_option maxRecDepth 100000
set_option linter.all false
set_option linter.defProp false
namespace Go.Proofs.YtafbccendejkeaaGreatDoor
open Go Proofs.Tryz
def qih:Rows.randomTotalsRow.wfByText (OpenSpec.ofChange Rows.randomTotalsSpec)=true:=by kernel_rfl
def qii : prog.mainIs = some (true, "f3407564bf5ab793c2a93715e9e16850448aa3b866e686021be58b13e0fb91f9".toList) := by kernel_rfl
def qeV:true=prog.looks []:=by kernel_rfl
def qdf:([27,28,28].all fun u=>!prog.wantsStandIn u)=true:=by kernel_rfl
def qij:false=Rows.randomTotalsRow.goesBy Tryz.prog:=by kernel_rfl
theorem randomTotals_card:Rows.RandomTotalsCardSaid :=
 Claim7.holds_tied_plain_at .later [] [.data, .data, .data, .widerDeep] true (true, "f3407564bf5ab793c2a93715e9e16850448aa3b866e686021be58b13e0fb91f9") true
  Yj (fun _ h=>by cases h) qih (fun _ h=>by cases h) randomTotals_row_tie rfl ⟨rfl,rfl⟩ qii rfl
  (fun f fn hf hfn=>by
    obtain rfl:f=3:=Option.some.inj (fn3.symm.trans hf) |>.symm;obtain rfl:fn=Tryz.f3:=(Option.some.inj (func3.symm.trans hfn)).symm;exact⟨qeV,fun j t ht=>by
     rw[Tryz.params3]at ht;have hm:t∈[27,28,28]:=(by simpa using Array.mem_of_getElem? ht);exact(show prog.wantsStandIn t=false by simpa using List.all_eq_true.1 qdf t hm)⟩)
  qij
#print axioms randomTotals_card
