/- A part of the proof. -/
import Derived.Test.YtpjdjolphpfanaaGreatDoorGa14
set_option linter.unusedVariables false
set_option linter.unusedSimpArgs false
set_option maxRecDepth 100000
set_option linter.defProp false
section
namespace Go.Proofs.YtpjdjolphpfanaaGreatDoor
open Go Go.Abs
section
variable (G : Nat → AV)

theorem index1 (v : Var) (name : Str) : Pure Tryz.prog G 101 [.agg (encVar v), .rptr [.str name]] (.bool (v.name == name)) := by
  refine Pure.vc mixed Tryz.func101 rfl (by kernel_rfl) ?_
  simp

theorem index (l : List Var) (name : Str) (hl : Fits l) : Pure Tryz.prog G 65 [.sl 4 (l.map encVar) .none, .str name] (.int .i64 (findI (fun v => v.name == name) l 0)) := by
  refine Pure.vc mixed Tryz.func65 rfl (by kernel_rfl) ?_
  simp
  refine vcCall.lent (indexFuncVar G l (fun v => v.name == name) 101 [] [.rptr [.str name]] hl rfl rfl fun v _ => index1 G v name) rfl ?_ ?_
  · simp [frz]
  · simp
theorem random (p : Problem) (i : Int) : Pure Tryz.prog G 75 [.agg (encP p), .int .i64 i] (.bool (decide (0 ≤ i) && (p.vars[i.toNat]?).any (fun v => v.mode != 0))) := by
  refine Pure.vc mixed Tryz.func75 rfl (by kernel_rfl) ?_
  by_cases h0 : 0 ≤ i
  · cases hv : p.vars[i.toNat]? with
    | none =>
      have h1 : ¬ i < p.vars.length := by simp at hv; omega
      simp [h0, h1]
    | some v =>
      obtain ⟨hc, hv'⟩ := List.getElem?_eq_some_iff.1 hv
      have h1 : i < p.vars.length := by omega
      simp [h0, h1, hv']
  · simp [h0]
end
end Go.Proofs.YtpjdjolphpfanaaGreatDoor
end
