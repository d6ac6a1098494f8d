/- The tied card of CyclicAll: the law's function returns true for every input, and each argument reads afterwards as it read before. No condition. -/
import Derived.Test.YtoibbcnfhhggnaaGreatDoorPc38
import Derived.Test.YtoibbcnfhhggnaaGreatDoorPc39
import Derived.Test.YtoibbcnfhhggnaaGreatDoorPc40
set_option maxRecDepth 100000
set_option linter.unusedSimpArgs false
set_option linter.unusedVariables false
set_option linter.defProp false
section
namespace Go.Proofs.YtoibbcnfhhggnaaGreatDoor
open Go
theorem cyclicAll_card:Rows.CyclicAllCardSaid :=
 Claim7.holds_tied_plain_at .later [] [.data, .data, .data, .widerDeep] true (true, "fde9a280b6af768279908896f69971a7bbf33bd2896679c5a6ded6e1cd53fefd") true
  VV (fun _ h=>by cases h) qgo (fun _ h=>by cases h) cyclicAll_row_tie rfl ⟨rfl,rfl⟩ qgp rfl
  (fun f fn hf hfn=>by
    obtain rfl:f=3:=Option.some.inj (fn3.symm.trans hf) |>.symm;obtain rfl:fn=Tryz.f3:=(Option.some.inj (Tryz.func3.symm.trans hfn)).symm;exact⟨qdc,fun j t ht=>by
     rw[Tryz.params3]at ht;have hm:t∈[27,30]:=(by simpa using Array.mem_of_getElem? ht);exact (show Tryz.prog.wantsStandIn t=false by simpa using List.all_eq_true.1 qbS t hm)⟩)
  qgq
#print axioms cyclicAll_card
end Go.Proofs.YtoibbcnfhhggnaaGreatDoor
end
