/- StimValids: where what is read (the stimulus and the package variables that the row lists) is of bulk at most 1048576, the law's function returns true, and the argument reads afterwards as it read before; no other condition than the row's own (the listed variables hold what the program's text lays). -/
import Derived.Test.YtkodonalmdmgpaaGreatDoorSv47
import Derived.Test.YtkodonalmdmgpaaGreatDoorSv48
import Derived.Test.YtkodonalmdmgpaaGreatDoorTie
import Derived.Test.YtkodonalmdmgpaaGreatDoorCards
set_option maxRecDepth 100000
set_option linter.all false
set_option linter.defProp false
section
namespace Go.Proofs.YtkodonalmdmgpaaGreatDoor
open Go
theorem stimValidsUpto_row:Rows.StimValidsUptoSaid :=
 OpenClaim.holds_of_cond 3 Tryz.f3 rfl rfl rfl rfl rfl rfl rfl ⟨rfl,rfl,rfl,rfl,rfl⟩ rfl rfl rfl rfl rfl fn3 Tryz.func3 facts3 inst3 wrap3
  (fun os started H enc _ F=>by rw [OpenClaim.pre_eq_preRow];exact lifted3 os started H enc F)
#print axioms stimValidsUpto_row
theorem card3_text:Rows.stimValidsUptoRow.wfByText (Rows.OpenSpec.upto Rows.stimValidsSpec)=true:=by kernel_rfl
theorem card3_main : Tryz.prog.mainIs = some (true, "c28b560769bb006416ec3a8267a05739e94b51069a99a65593437a034606db2a".toList) := by kernel_rfl
theorem card3_looks:true=Tryz.prog.looks []:=by kernel_rfl
theorem card3_params:([25].all fun u=>!Tryz.prog.wantsStandIn u)=true:=by kernel_rfl
/-- A program none of whose functions has a go statement: no call starts a goroutine. -/
theorem goes_none {P:Program} (h:P.funcs.any Func.goes=false) (f:FuncId):P.goes f=false:=by
 have hg:∀ g:Nat,(P.funcs[g]?).any Func.goes=false:=by
  intro g
  cases e:P.funcs[g]? with
  | none=>rfl
  | some fn=>
   obtain⟨hg,e⟩:=Array.getElem?_eq_some_iff.1 e
   have:=Array.any_eq_false.1 h g hg
   rw [e] at this
   simpa using this
 unfold Program.goes
 rw [h,Bool.and_false,Bool.or_false,List.any_eq_false]
 intro g _
 rw [hg]
 simp
theorem goes_prog:Tryz.prog.funcs.any Func.goes=false:=by kernel_rfl
theorem goes_by {P:Program} (h:P.funcs.any Func.goes=false) (c:OpenClaim) (hs:c.start=.entering):false=c.goesBy P:=by
 have hn:∀ o:Option FuncId,o.any P.goes=false:=by
  intro o
  cases o with
  | none=>rfl
  | some f=>exact goes_none h f
 unfold OpenClaim.goesBy Program.goesAt Program.goesFrom
 rw [hs,hn]
 rfl
theorem card3_goes:false=Rows.stimValidsUptoRow.goesBy Tryz.prog:=goes_by goes_prog _ rfl
theorem stimValidsUpto_card:Rows.StimValidsUptoCardSaid :=
 Claim7.holds_tied_plain_at .later [] [.data, .data, .data, .widerDeep] true (true, "c28b560769bb006416ec3a8267a05739e94b51069a99a65593437a034606db2a") true
  stimValidsUpto_row (fun _ h=>by cases h) card3_text (fun _ h=>by cases h) stimValidsUpto_row_tie rfl ⟨rfl,rfl⟩ card3_main rfl
  (fun f fn hf hfn=>by
    obtain rfl:f=3:=Option.some.inj (fn3.symm.trans hf) |>.symm
    obtain rfl:fn=Tryz.f3:=(Option.some.inj (Tryz.func3.symm.trans hfn)).symm
    exact⟨card3_looks,fun j t ht=>by
     rw [Tryz.params3] at ht
     have hm:t∈[25]:=by simpa using Array.mem_of_getElem? ht
     exact (show Tryz.prog.wantsStandIn t=false by simpa using List.all_eq_true.1 card3_params t hm)⟩)
  card3_goes
#print axioms stimValidsUpto_card
end Go.Proofs.YtkodonalmdmgpaaGreatDoor
end
