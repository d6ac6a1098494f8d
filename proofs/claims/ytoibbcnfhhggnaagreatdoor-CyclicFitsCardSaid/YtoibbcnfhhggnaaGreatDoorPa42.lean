/- The tied card of CyclicFits: the law's function returns true for every input, and each argument reads afterwards as it read before. No condition. -/
import Derived.Test.YtoibbcnfhhggnaaGreatDoorPa39
import Derived.Test.YtoibbcnfhhggnaaGreatDoorPa40
import Derived.Test.YtoibbcnfhhggnaaGreatDoorPa41
set_option maxRecDepth 100000
set_option linter.unusedSimpArgs false
set_option linter.unusedVariables false
set_option linter.defProp false
section
namespace Go.Proofs.YtoibbcnfhhggnaaGreatDoor
open Go
theorem cyclicFits_card:Rows.CyclicFitsCardSaid :=
 Claim7.holds_tied_plain_at .later [] [.data, .data, .data, .widerDeep] true (true, "fde9a280b6af768279908896f69971a7bbf33bd2896679c5a6ded6e1cd53fefd") true
  KJ (fun _ h=>by cases h) qgl (fun _ h=>by cases h) cyclicFits_row_tie rfl ⟨rfl,rfl⟩ qgm rfl
  (fun f fn hf hfn=>by
    obtain rfl:f=4:=Option.some.inj (fn4.symm.trans hf) |>.symm;obtain rfl:fn=Tryz.f4:=(Option.some.inj (Tryz.func4.symm.trans hfn)).symm;exact⟨qdc,fun j t ht=>by
     rw[Tryz.params4]at ht;have hm:t∈[27,41,30]:=(by simpa using Array.mem_of_getElem? ht);exact (show Tryz.prog.wantsStandIn t=false by simpa using List.all_eq_true.1 qbN t hm)⟩)
  qgn
#print axioms cyclicFits_card
end Go.Proofs.YtoibbcnfhhggnaaGreatDoor
end
