/- The tied card of CyclicPlain: the law's function returns true for every input, and each argument reads afterwards as it read before. No condition. -/
import Derived.Test.YtcadpamddlofjaaGreatDoorPa48
import Derived.Test.YtcadpamddlofjaaGreatDoorPa49
import Derived.Test.YtcadpamddlofjaaGreatDoorPa50
set_option maxRecDepth 100000
set_option linter.unusedSimpArgs false
set_option linter.unusedVariables false
set_option linter.defProp false
section
namespace Go.Proofs.YtcadpamddlofjaaGreatDoor
open Go
theorem cyclicPlain_card:Rows.CyclicPlainCardSaid :=
 Claim7.holds_tied_plain_at .later [] [.data, .data, .data, .widerDeep] true (true, "fdd58fed03229fee45258d076e9544ee497cab8310ec777c0d19f101b992b17f") true
  YO (fun _ h=>by cases h) qfp (fun _ h=>by cases h) cyclicPlain_row_tie rfl ⟨rfl,rfl⟩ qfq rfl
  (fun f fn hf hfn=>by
    obtain rfl:f=3:=Option.some.inj (fn3.symm.trans hf) |>.symm;obtain rfl:fn=Tryz.f3:=(Option.some.inj (Tryz.func3.symm.trans hfn)).symm;exact⟨qcx,fun j t ht=>by
     rw[Tryz.params3]at ht;have hm:t∈[27,30]:=(by simpa using Array.mem_of_getElem? ht);exact (show Tryz.prog.wantsStandIn t=false by simpa using List.all_eq_true.1 qa9 t hm)⟩)
  qfr
#print axioms cyclicPlain_card
end Go.Proofs.YtcadpamddlofjaaGreatDoor
end
