/- A part of the proof: texts WalkFunc Walk1. -/
import Derived.Test.YtpgcmnabljandaaGreatDoorAb14

section
/-
  The slices package's IndexFunc and ContainsFunc, one for each kind of element. Printed by a program.
-/
set_option linter.unusedVariables false
set_option linter.unusedSimpArgs false
set_option maxRecDepth 100000
namespace Go.Proofs.YtpgcmnabljandaaGreatDoor
open Go Go.Abs

theorem indexFuncVar (G : Nat → AV) (l : List Var) (p : Var → Bool) (f : FuncId) (first cap : List AV) (hl : Fits l) (h1 : noRefs first = true) (h2 : noRefs cap = true)
    (hp : ∀ v ∈ l, Pure Tryz.prog G f (first ++ [.agg (encVar v)] ++ cap) (.bool (p v))) : Pure Tryz.prog G 182 [.sl 4 (l.map encVar) .none, .fn f first cap] (.int .i64 (findI p l 0)) := by
  refine Pure.vc mixed Tryz.func182 rfl (by kernel_rfl) ?_
  simp
  refine vcLoop.intro (fun n env σ => ∃ i, i ≤ l.length ∧ n = l.length - i ∧ env 0 = .sl 4 (l.map encVar) .none ∧ env 1 = .fn f first cap ∧ env 7 = .int .i64 l.length ∧ env 8 = .int .i64 i ∧ σ = ⟨[], []⟩ ∧ findI p l 0 = findI p (l.drop i) i) l.length ⟨0, by simp⟩ ?_
  rintro n env σ ⟨i, hi, rfl, h0, h1', h7, h8, rfl, hf⟩
  cases hv : l[i]? with
  | some v =>
    obtain ⟨hc, hv'⟩ := List.getElem?_eq_some_iff.1 hv
    rw [drop_cons hv] at hf
    simp [h0, h1', h7, h8, hc, hv', hf]
    refine vcCall.call (r := .bool (p v)) (by simpa using hp v (List.mem_of_getElem? hv)) (by simp [noRefs_append, h1, h2]) ?_
    simp [h0, h1', h7, h8, findI]
    refine ⟨fun e => by simp [e], fun e => ⟨_, by omega, i + 1, by omega, rfl, wr (by omega) (by omega), by simp [hf, findI, e]⟩⟩
  | none =>
    have hc : ¬ i < l.length := by simp at hv; omega
    have hd : l.drop i = [] := by simp; omega
    simp [h0, h1', h7, h8, hc, hf, hd, findI]

theorem containsFuncVar (G : Nat → AV) (l : List Var) (p : Var → Bool) (f : FuncId) (first cap : List AV) (hl : Fits l) (h1 : noRefs first = true) (h2 : noRefs cap = true)
    (hp : ∀ v ∈ l, Pure Tryz.prog G f (first ++ [.agg (encVar v)] ++ cap) (.bool (p v))) : Pure Tryz.prog G 124 [.sl 4 (l.map encVar) .none, .fn f first cap] (.bool (l.any p)) := by
  refine Pure.vc mixed Tryz.func124 rfl (by kernel_rfl) ?_
  simp
  refine vcCall.call (indexFuncVar G l p f first cap hl h1 h2 hp) (by simp [h1, h2]) ?_
  simp

theorem indexFuncDist (G : Nat → AV) (l : List Dist) (p : Dist → Bool) (f : FuncId) (first cap : List AV) (hl : Fits l) (h1 : noRefs first = true) (h2 : noRefs cap = true)
    (hp : ∀ v ∈ l, Pure Tryz.prog G f (first ++ [.agg (encDist v)] ++ cap) (.bool (p v))) : Pure Tryz.prog G 185 [.sl 2 (l.map encDist) .none, .fn f first cap] (.int .i64 (findI p l 0)) := by
  refine Pure.vc mixed Tryz.func185 rfl (by kernel_rfl) ?_
  simp
  refine vcLoop.intro (fun n env σ => ∃ i, i ≤ l.length ∧ n = l.length - i ∧ env 0 = .sl 2 (l.map encDist) .none ∧ env 1 = .fn f first cap ∧ env 7 = .int .i64 l.length ∧ env 8 = .int .i64 i ∧ σ = ⟨[], []⟩ ∧ findI p l 0 = findI p (l.drop i) i) l.length ⟨0, by simp⟩ ?_
  rintro n env σ ⟨i, hi, rfl, h0, h1', h7, h8, rfl, hf⟩
  cases hv : l[i]? with
  | some v =>
    obtain ⟨hc, hv'⟩ := List.getElem?_eq_some_iff.1 hv
    rw [drop_cons hv] at hf
    simp [h0, h1', h7, h8, hc, hv', hf]
    refine vcCall.call (r := .bool (p v)) (by simpa using hp v (List.mem_of_getElem? hv)) (by simp [noRefs_append, h1, h2]) ?_
    simp [h0, h1', h7, h8, findI]
    refine ⟨fun e => by simp [e], fun e => ⟨_, by omega, i + 1, by omega, rfl, wr (by omega) (by omega), by simp [hf, findI, e]⟩⟩
  | none =>
    have hc : ¬ i < l.length := by simp at hv; omega
    have hd : l.drop i = [] := by simp; omega
    simp [h0, h1', h7, h8, hc, hf, hd, findI]

theorem containsFuncDist (G : Nat → AV) (l : List Dist) (p : Dist → Bool) (f : FuncId) (first cap : List AV) (hl : Fits l) (h1 : noRefs first = true) (h2 : noRefs cap = true)
    (hp : ∀ v ∈ l, Pure Tryz.prog G f (first ++ [.agg (encDist v)] ++ cap) (.bool (p v))) : Pure Tryz.prog G 110 [.sl 2 (l.map encDist) .none, .fn f first cap] (.bool (l.any p)) := by
  refine Pure.vc mixed Tryz.func110 rfl (by kernel_rfl) ?_
  simp
  refine vcCall.call (indexFuncDist G l p f first cap hl h1 h2 hp) (by simp [h1, h2]) ?_
  simp

theorem indexFuncStr (G : Nat → AV) (l : List Str) (p : Str → Bool) (f : FuncId) (first cap : List AV) (hl : Fits l) (h1 : noRefs first = true) (h2 : noRefs cap = true)
    (hp : ∀ v ∈ l, Pure Tryz.prog G f (first ++ [.str v] ++ cap) (.bool (p v))) : Pure Tryz.prog G 199 [.sl 1 (l.map encStr) .none, .fn f first cap] (.int .i64 (findI p l 0)) := by
  refine Pure.vc mixed Tryz.func199 rfl (by kernel_rfl) ?_
  simp
  refine vcLoop.intro (fun n env σ => ∃ i, i ≤ l.length ∧ n = l.length - i ∧ env 0 = .sl 1 (l.map encStr) .none ∧ env 1 = .fn f first cap ∧ env 7 = .int .i64 l.length ∧ env 8 = .int .i64 i ∧ σ = ⟨[], []⟩ ∧ findI p l 0 = findI p (l.drop i) i) l.length ⟨0, by simp⟩ ?_
  rintro n env σ ⟨i, hi, rfl, h0, h1', h7, h8, rfl, hf⟩
  cases hv : l[i]? with
  | some v =>
    obtain ⟨hc, hv'⟩ := List.getElem?_eq_some_iff.1 hv
    rw [drop_cons hv] at hf
    simp [h0, h1', h7, h8, hc, hv', hf]
    refine vcCall.call (r := .bool (p v)) (by simpa using hp v (List.mem_of_getElem? hv)) (by simp [noRefs_append, h1, h2]) ?_
    simp [h0, h1', h7, h8, findI]
    refine ⟨fun e => by simp [e], fun e => ⟨_, by omega, i + 1, by omega, rfl, wr (by omega) (by omega), by simp [hf, findI, e]⟩⟩
  | none =>
    have hc : ¬ i < l.length := by simp at hv; omega
    have hd : l.drop i = [] := by simp; omega
    simp [h0, h1', h7, h8, hc, hf, hd, findI]

theorem containsFuncStr (G : Nat → AV) (l : List Str) (p : Str → Bool) (f : FuncId) (first cap : List AV) (hl : Fits l) (h1 : noRefs first = true) (h2 : noRefs cap = true)
    (hp : ∀ v ∈ l, Pure Tryz.prog G f (first ++ [.str v] ++ cap) (.bool (p v))) : Pure Tryz.prog G 129 [.sl 1 (l.map encStr) .none, .fn f first cap] (.bool (l.any p)) := by
  refine Pure.vc mixed Tryz.func129 rfl (by kernel_rfl) ?_
  simp
  refine vcCall.call (indexFuncStr G l p f first cap hl h1 h2 hp) (by simp [h1, h2]) ?_
  simp

theorem indexFuncWeight (G : Nat → AV) (l : List Weight) (p : Weight → Bool) (f : FuncId) (first cap : List AV) (hl : Fits l) (h1 : noRefs first = true) (h2 : noRefs cap = true)
    (hp : ∀ v ∈ l, Pure Tryz.prog G f (first ++ [.agg (encWeight v)] ++ cap) (.bool (p v))) : Pure Tryz.prog G 265 [.sl 4 (l.map encWeight) .none, .fn f first cap] (.int .i64 (findI p l 0)) := by
  refine Pure.vc mixed Tryz.func265 rfl (by kernel_rfl) ?_
  simp
  refine vcLoop.intro (fun n env σ => ∃ i, i ≤ l.length ∧ n = l.length - i ∧ env 0 = .sl 4 (l.map encWeight) .none ∧ env 1 = .fn f first cap ∧ env 7 = .int .i64 l.length ∧ env 8 = .int .i64 i ∧ σ = ⟨[], []⟩ ∧ findI p l 0 = findI p (l.drop i) i) l.length ⟨0, by simp⟩ ?_
  rintro n env σ ⟨i, hi, rfl, h0, h1', h7, h8, rfl, hf⟩
  cases hv : l[i]? with
  | some v =>
    obtain ⟨hc, hv'⟩ := List.getElem?_eq_some_iff.1 hv
    rw [drop_cons hv] at hf
    simp [h0, h1', h7, h8, hc, hv', hf]
    refine vcCall.call (r := .bool (p v)) (by simpa using hp v (List.mem_of_getElem? hv)) (by simp [noRefs_append, h1, h2]) ?_
    simp [h0, h1', h7, h8, findI]
    refine ⟨fun e => by simp [e], fun e => ⟨_, by omega, i + 1, by omega, rfl, wr (by omega) (by omega), by simp [hf, findI, e]⟩⟩
  | none =>
    have hc : ¬ i < l.length := by simp at hv; omega
    have hd : l.drop i = [] := by simp; omega
    simp [h0, h1', h7, h8, hc, hf, hd, findI]

theorem containsFuncWeight (G : Nat → AV) (l : List Weight) (p : Weight → Bool) (f : FuncId) (first cap : List AV) (hl : Fits l) (h1 : noRefs first = true) (h2 : noRefs cap = true)
    (hp : ∀ v ∈ l, Pure Tryz.prog G f (first ++ [.agg (encWeight v)] ++ cap) (.bool (p v))) : Pure Tryz.prog G 200 [.sl 4 (l.map encWeight) .none, .fn f first cap] (.bool (l.any p)) := by
  refine Pure.vc mixed Tryz.func200 rfl (by kernel_rfl) ?_
  simp
  refine vcCall.call (indexFuncWeight G l p f first cap hl h1 h2 hp) (by simp [h1, h2]) ?_
  simp
end Go.Proofs.YtpgcmnabljandaaGreatDoor
end

section
/-
  Walks: variables by name; numbers as digits; element names.
-/
set_option linter.unusedVariables false
set_option linter.unusedSimpArgs false
set_option maxRecDepth 100000
namespace Go.Proofs.YtpgcmnabljandaaGreatDoor
open Go Go.Abs
variable (G : Nat → AV)

theorem index1 (v : Var) (name : Str) : Pure Tryz.prog G 183 [.agg (encVar v), .rptr [.str name]] (.bool (v.name == name)) := by
  refine Pure.vc mixed Tryz.func183 rfl (by kernel_rfl) ?_
  simp

theorem index (l : List Var) (name : Str) (hl : Fits l) : Pure Tryz.prog G 107 [.sl 4 (l.map encVar) .none, .str name] (.int .i64 (findI (fun v => v.name == name) l 0)) := by
  refine Pure.vc mixed Tryz.func107 rfl (by kernel_rfl) ?_
  simp
  refine vcCall.lent (indexFuncVar G l (fun v => v.name == name) 183 [] [.rptr [.str name]] hl rfl rfl fun v _ => index1 G v name) rfl ?_ ?_
  · simp [frz]
  · simp
theorem random (p : Problem) (i : Int) : Pure Tryz.prog G 83 [.agg (encP p), .int .i64 i] (.bool (decide (0 ≤ i) && (p.vars[i.toNat]?).any (fun v => v.mode != 0))) := by
  refine Pure.vc mixed Tryz.func83 rfl (by kernel_rfl) ?_
  by_cases h0 : 0 ≤ i
  · cases hv : p.vars[i.toNat]? with
    | none =>
      have h1 : ¬ i < p.vars.length := by simp at hv; omega
      simp [h0, h1]
    | some v =>
      obtain ⟨hc, hv'⟩ := List.getElem?_eq_some_iff.1 hv
      have h1 : i < p.vars.length := by omega
      simp [h0, h1, hv']
  · simp [h0]
end Go.Proofs.YtpgcmnabljandaaGreatDoor
end
