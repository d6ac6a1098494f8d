/- A part of the proof: texts WalkHas. -/
import Derived.Test.YtpgcmnabljandaaGreatDoorAb17

/-
  Lists that hold a text or a number. Printed by a program.
-/
set_option linter.unusedVariables false
set_option linter.unusedSimpArgs false
set_option maxRecDepth 100000
namespace Go.Proofs.YtpgcmnabljandaaGreatDoor
open Go Go.Abs
section
variable (G : Nat → AV)

theorem has325 (l : List Str) (s : Str) (hl : Fits l) : Pure Tryz.prog G 325 [.sl 1 (l.map encStr) .none, .str s] (.bool (l.any (· == s))) := by
  refine Pure.vc mixed Tryz.func325 rfl (by kernel_rfl) ?_
  simp
  refine vcLoop.intro (fun n env σ => ∃ i, i ≤ l.length ∧ n = l.length - i ∧ env 0 = .sl 1 (l.map encStr) .none ∧ env 1 = .str s ∧ env 5 = .int .i64 i ∧ σ = ⟨[], []⟩ ∧ l.any (· == s) = (l.drop i).any (· == s)) l.length ⟨0, by simp⟩ ?_
  rintro n env σ ⟨i, hi, rfl, h0, h1, h5, rfl, hf⟩
  cases hv : l[i]? with
  | some v =>
    obtain ⟨hc, hv'⟩ := List.getElem?_eq_some_iff.1 hv
    rw [drop_cons hv] at hf
    by_cases he : v = s
    · subst he
      simp [h0, h1, h5, hc, hv', hf]
    · have he' : (v == s) = false := by simpa using he
      simp [h0, h1, h5, hc, hv', he]
      refine ⟨_, by omega, i + 1, by omega, rfl, wr (by omega) (by omega), ?_⟩
      rw [hf, List.any_cons, he', Bool.false_or]
  | none =>
    have hc : ¬ i < l.length := by simp at hv; omega
    have hd : l.drop i = [] := by simp; omega
    have hz : ∀ x ∈ l, ¬ x = s := by
      intro x hx e
      have : l.any (· == s) = true := List.any_eq_true.2 ⟨x, hx, by simp [e]⟩
      rw [hf, hd] at this
      cases this
    simp [h0, h1, h5, hc]
    exact hz

theorem has292 (l : List Str) (s : Str) (hl : Fits l) : Pure Tryz.prog G 292 [.sl 1 (l.map encStr) .none, .str s] (.bool (l.any (· == s))) := by
  refine Pure.vc mixed Tryz.func292 rfl (by kernel_rfl) ?_
  simp
  refine vcLoop.intro (fun n env σ => ∃ i, i ≤ l.length ∧ n = l.length - i ∧ env 0 = .sl 1 (l.map encStr) .none ∧ env 1 = .str s ∧ env 5 = .int .i64 i ∧ σ = ⟨[], []⟩ ∧ l.any (· == s) = (l.drop i).any (· == s)) l.length ⟨0, by simp⟩ ?_
  rintro n env σ ⟨i, hi, rfl, h0, h1, h5, rfl, hf⟩
  cases hv : l[i]? with
  | some v =>
    obtain ⟨hc, hv'⟩ := List.getElem?_eq_some_iff.1 hv
    rw [drop_cons hv] at hf
    by_cases he : v = s
    · subst he
      simp [h0, h1, h5, hc, hv', hf]
    · have he' : (v == s) = false := by simpa using he
      simp [h0, h1, h5, hc, hv', he]
      refine ⟨_, by omega, i + 1, by omega, rfl, wr (by omega) (by omega), ?_⟩
      rw [hf, List.any_cons, he', Bool.false_or]
  | none =>
    have hc : ¬ i < l.length := by simp at hv; omega
    have hd : l.drop i = [] := by simp; omega
    have hz : ∀ x ∈ l, ¬ x = s := by
      intro x hx e
      have : l.any (· == s) = true := List.any_eq_true.2 ⟨x, hx, by simp [e]⟩
      rw [hf, hd] at this
      cases this
    simp [h0, h1, h5, hc]
    exact hz

theorem index176 (l : List Str) (s : Str) (hl : Fits l) : Pure Tryz.prog G 176 [.sl 1 (l.map encStr) .none, .str s] (.int .i64 (findI (fun v => s == v) l 0)) := by
  refine Pure.vc mixed Tryz.func176 rfl (by kernel_rfl) ?_
  simp
  refine vcLoop.intro (fun n env σ => ∃ i, i ≤ l.length ∧ n = l.length - i ∧ env 0 = .sl 1 (l.map encStr) .none ∧ env 1 = .str s ∧ env 7 = .int .i64 l.length ∧ env 8 = .int .i64 i ∧ σ = ⟨[], []⟩ ∧ findI (fun v => s == v) l 0 = findI (fun v => s == v) (l.drop i) i) l.length ⟨0, by simp⟩ ?_
  rintro n env σ ⟨i, hi, rfl, h0, h1, h7, h8, rfl, hf⟩
  cases hv : l[i]? with
  | some v =>
    obtain ⟨hc, hv'⟩ := List.getElem?_eq_some_iff.1 hv
    rw [drop_cons hv] at hf
    by_cases he : s = v
    · subst he
      simp [h0, h1, h7, h8, hc, hv', hf, findI]
    · have he' : (s == v) = false := by simpa using he
      simp [h0, h1, h7, h8, hc, hv', he]
      refine ⟨_, by omega, i + 1, by omega, rfl, wr (by omega) (by omega), ?_⟩
      rw [hf, findI, he']
      simp
  | none =>
    have hc : ¬ i < l.length := by simp at hv; omega
    have hd : l.drop i = [] := by simp; omega
    simp [h0, h1, h7, h8, hc, hf, hd, findI]

theorem contains101 (l : List Str) (s : Str) (hl : Fits l) : Pure Tryz.prog G 101 [.sl 1 (l.map encStr) .none, .str s] (.bool (l.any (fun v => s == v))) := by
  refine Pure.vc mixed Tryz.func101 rfl (by kernel_rfl) ?_
  simp
  refine vcCall.call (index176 G l s hl) (by simp) ?_
  simp

theorem index318 (l : List Int) (s : Int) (hl : Fits l) : Pure Tryz.prog G 318 [.sl 1 (l.map encInt) .none, .int .i64 s] (.int .i64 (findI (fun v => s == v) l 0)) := by
  refine Pure.vc mixed Tryz.func318 rfl (by kernel_rfl) ?_
  simp
  refine vcLoop.intro (fun n env σ => ∃ i, i ≤ l.length ∧ n = l.length - i ∧ env 0 = .sl 1 (l.map encInt) .none ∧ env 1 = .int .i64 s ∧ env 7 = .int .i64 l.length ∧ env 8 = .int .i64 i ∧ σ = ⟨[], []⟩ ∧ findI (fun v => s == v) l 0 = findI (fun v => s == v) (l.drop i) i) l.length ⟨0, by simp⟩ ?_
  rintro n env σ ⟨i, hi, rfl, h0, h1, h7, h8, rfl, hf⟩
  cases hv : l[i]? with
  | some v =>
    obtain ⟨hc, hv'⟩ := List.getElem?_eq_some_iff.1 hv
    rw [drop_cons hv] at hf
    by_cases he : s = v
    · subst he
      simp [h0, h1, h7, h8, hc, hv', hf, findI]
    · have he' : (s == v) = false := by simpa using he
      simp [h0, h1, h7, h8, hc, hv', he]
      refine ⟨_, by omega, i + 1, by omega, rfl, wr (by omega) (by omega), ?_⟩
      rw [hf, findI, he']
      simp
  | none =>
    have hc : ¬ i < l.length := by simp at hv; omega
    have hd : l.drop i = [] := by simp; omega
    simp [h0, h1, h7, h8, hc, hf, hd, findI]

theorem contains264 (l : List Int) (s : Int) (hl : Fits l) : Pure Tryz.prog G 264 [.sl 1 (l.map encInt) .none, .int .i64 s] (.bool (l.any (fun v => s == v))) := by
  refine Pure.vc mixed Tryz.func264 rfl (by kernel_rfl) ?_
  simp
  refine vcCall.call (index318 G l s hl) (by simp) ?_
  simp

theorem find139 (l : List Var) (s : Str) (hl : Fits l) : Pure Tryz.prog G 139 [.sl 4 (l.map encVar) .none, .str s] (.int .i64 (findI (fun v => v.name == s) l 0)) := by
  refine Pure.vc mixed Tryz.func139 rfl (by kernel_rfl) ?_
  simp
  refine vcLoop.intro (fun n env σ => ∃ i, i ≤ l.length ∧ n = l.length - i ∧ env 0 = .sl 4 (l.map encVar) .none ∧ env 1 = .str s ∧ env 5 = .int .i64 i ∧ σ = ⟨[], []⟩ ∧ findI (fun v => v.name == s) l 0 = findI (fun v => v.name == s) (l.drop i) i) l.length ⟨0, by simp⟩ ?_
  rintro n env σ ⟨i, hi, rfl, h0, h1, h5, rfl, hf⟩
  cases hv : l[i]? with
  | some v =>
    obtain ⟨hc, hv'⟩ := List.getElem?_eq_some_iff.1 hv
    rw [drop_cons hv] at hf
    by_cases he : v.name = s
    · subst he
      simp [h0, h1, h5, hc, hv', hf, findI]
    · have he' : (v.name == s) = false := by simpa using he
      simp [h0, h1, h5, hc, hv', he]
      refine ⟨_, by omega, i + 1, by omega, rfl, wr (by omega) (by omega), ?_⟩
      rw [hf, findI, he']
      simp
  | none =>
    have hc : ¬ i < l.length := by simp at hv; omega
    have hd : l.drop i = [] := by simp; omega
    simp [h0, h1, h5, hc, hf, hd, findI]
end
end Go.Proofs.YtpgcmnabljandaaGreatDoor
