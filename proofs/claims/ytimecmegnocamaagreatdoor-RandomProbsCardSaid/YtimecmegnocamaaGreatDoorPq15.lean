import Derived.Test.YtimecmegnocamaaGreatDoorPq09
set_option maxRecDepth 100000
set_option linter.all false
set_option linter.defProp false
namespace Go.Proofs.YtimecmegnocamaaGreatDoor
open Go Go.Abs Tryz
variable (G:Nat->AV)
def qvh(v:Var)(name:Str):Pure prog G 255 [.agg (qM v),.rptr [.str name]] (.bool (v.name==name)):=by
 refine qFP qg func255 rfl (by kernel_rfl) ?_;simp
def index(l:List Var)(name:Str)(hl:Fits l):Pure prog G 171 [.sl 4 (l.map qM) .none,.str name] (.int .i64 (zq (fun v=>v.name==name) l 0)):=by
 refine qFP qg func171 rfl (by kernel_rfl) ?_;simp;refine qa.lent (J5 G l (fun v=>v.name==name) 255 [] [.rptr [.str name]] hl rfl rfl fun v _=>qvh G v name) rfl ?_ ?_
 . simp[frz]
 simp
def jp(p i):Pure prog G 112 [.agg (qA p),.int .i64 i] (.bool (decide (0<=i)&&(p.vars[i.toNat]?).any (fun v=>v.mode != 0))):=by
 refine qFP qg func112 rfl (by kernel_rfl) ?_;by_cases h0:0<=i
 . cases hv:p.vars[i.toNat]? with
   | none=>
    have h1:¬i<p.vars.length:=(by simp at hv;omega);simp[h0,h1]
   | some v=>
    obtain⟨hc,hv'⟩:=qAU.1 hv;simp[h0,show i<p.vars.length by omega,hv']
 simp[h0]
