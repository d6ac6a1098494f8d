/- A part of the proof. -/
import Derived.Test.YtpgcmnabljandaaGreatDoorPa13
set_option linter.unusedVariables false
set_option linter.unusedSimpArgs false
set_option maxRecDepth 100000
set_option linter.defProp false
attribute [local simp] Go.Abs.acells Go.Abs.fin Go.Abs.zh Go.Abs.ze Go.Abs.pl1 Go.Abs.plain Go.Abs.pl2 Go.Abs.AV.atom
section
namespace Go.Proofs.YtpgcmnabljandaaGreatDoor
open Go Go.Abs
section
variable (G:Nat->AV)
theorem index1 (v:Var)(name:Str):Pure Zp G 183 [.agg (qo v),.rptr [.str name]] (.bool (v.name==name)):=by
 refine Pure.vc qg Tryz.func183 rfl (by kernel_rfl) ?_;simp
theorem index (l:List Var)(name:Str)(hl:Fits l):Pure Zp G 107 [.sl 4 (l.map qo) .none,.str name] (.int .i64 (qF (fun v=>v.name==name) l 0)):=by
 refine Pure.vc qg Tryz.func107 rfl (by kernel_rfl) ?_;simp;refine qe.lent (Yz G l (fun v=>v.name==name) 183 [] [.rptr [.str name]] hl rfl rfl fun v _=>index1 G v name) rfl ?_ ?_
 . simp[frz]
 . simp
theorem Yw (p:Problem)(i:Int):Pure Zp G 83 [.agg (yM p),.int .i64 i] (.bool (decide (0<=i)&&(p.vars[i.toNat]?).any (fun v=>v.mode != 0))):=by
 refine Pure.vc qg Tryz.func83 rfl (by kernel_rfl) ?_;by_cases h0:0<=i
 . cases hv:p.vars[i.toNat]? with
   | none=>
    have h1:¬ i<p.vars.length:=(by simp at hv;omega);simp[h0,h1]
   | some v=>
    obtain⟨hc,hv'⟩:=qqV.1 hv;have h1:i<p.vars.length:=(by omega);simp[h0,h1,hv']
 . simp[h0]
end
end Go.Proofs.YtpgcmnabljandaaGreatDoor
end
