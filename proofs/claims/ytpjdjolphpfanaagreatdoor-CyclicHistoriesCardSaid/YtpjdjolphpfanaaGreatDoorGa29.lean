/- A part of the proof. -/
import Derived.Test.YtpjdjolphpfanaaGreatDoorGa23
set_option linter.unusedVariables false
set_option linter.unusedSimpArgs false
set_option maxRecDepth 100000
set_option linter.defProp false
section
namespace Go.Proofs.YtpjdjolphpfanaaGreatDoor
open Go Go.Abs

theorem any_pre {p : Ex → Bool} {e : Ex} : (pre e).any p = (p e || e.args.any fun a => (pre a).any p) := by
  rw [pre_eq, List.any_cons]
  congr 1
  generalize e.args = l
  induction l with
  | nil => simp
  | cons a r ih => simp [ih]
theorem any_no {α : Type} {p : α → Bool} {l : List α} (h : ∀ a ∈ l, p a = false) : l.any p = false := by
  rw [Bool.eq_false_iff]
  intro e
  obtain ⟨a, h1, h2⟩ := List.any_eq_true.1 e
  rw [h a h1] at h2; cases h2
theorem any_yes {α : Type} {p : α → Bool} {l : List α} {a : α} (h : a ∈ l) (hp : p a = true) : l.any p = true := List.any_eq_true.2 ⟨a, h, hp⟩

theorem arrays222 : ∀ (e : Ex), Wen e → Pure Tryz.prog GG 83 [.agg (encE e)] (.bool (arrB e)) := by
  refine Ex.ind fun e ih hwe => ?_
  refine Pure.vc mixed Tryz.func83 rfl (by kernel_rfl) ?_
  have hl := hwe.fits
  have hA : arrB e = (decide (e.op = 3 ∨ e.op = 24) || e.args.any arrB) := any_pre
  by_cases o3 : e.op = 3
  · have x : arrB e = true := by rw [hA]; simp [o3]
    rw [x]
    simp only [encE_eq e, o3]
    simp
  by_cases o24 : e.op = 24
  · have x : arrB e = true := by rw [hA]; simp [o24]
    rw [x]
    simp only [encE_eq e, o24]
    simp
  have hA' : arrB e = e.args.any arrB := by rw [hA]; simp [o3, o24]
  simp only [encE_eq e]
  simp [o3, o24]
  refine vcLoop.intro (fun n env σ => ∃ i, i ≤ e.args.length ∧ n = e.args.length - i ∧ env 1 = .ptr 0 0 ∧ env 3 = .int .i64 i ∧ σ = ⟨[.cells (encE e)], []⟩ ∧ ∀ a ∈ e.args.take i, arrB a = false) e.args.length ⟨0, by simp, by simp, by simp, by simp, by rw [encE_eq e], by simp⟩ ?_
  rintro n env σ ⟨i, hi, rfl, h1, h3, rfl, hall⟩
  cases hv : e.args[i]? with
  | some a =>
    obtain ⟨hc, hv'⟩ := List.getElem?_eq_some_iff.1 hv
    have hm := List.mem_of_getElem? hv
    simp [h1, h3, encE_eq e, hc, hv', encE_eq a]
    rw [← encE_eq a]
    refine vcCall.call (ih a hm (hwe.arg hm)) (by simp) ?_
    cases ha : arrB a
    · simp [h1, h3]
      exact ⟨_, by omega, i + 1, by omega, rfl, wr (by omega) (by omega), take_succ_all hv hall ha⟩
    · have x : arrB e = true := by rw [hA']; exact any_yes hm ha
      rw [x]
      simp
  | none =>
    have hc : ¬ i < e.args.length := by simp at hv; omega
    have ht : e.args.take i = e.args := List.take_of_length_le (by omega)
    rw [ht] at hall
    have x : arrB e = false := by rw [hA']; exact any_no hall
    rw [x]
    simp [h1, h3, encE_eq e, hc]

theorem foreign223 (l : List Var) (hlv : Fits l) : ∀ (e : Ex), Wen e → Pure Tryz.prog GG 84 [.sl 4 (l.map encVar) .none, .agg (encE e)] (.bool (forB l e)) := by
  refine Ex.ind fun e ih hwe => ?_
  refine Pure.vc mixed Tryz.func84 rfl (by kernel_rfl) ?_
  have hl := hwe.fits
  have hA : forB l e = ((decide (e.op = 2) && !hasV l e.name) || e.args.any (forB l)) := any_pre
  by_cases o2 : e.op = 2
  · simp only [encE_eq e, o2]
    simp
    refine vcCall.call (find139 GG l e.name hlv) (by simp) ?_
    have hg := findI_neg (fun v : Var => v.name == e.name) l
    cases hh : hasV l e.name
    · have x : forB l e = true := by rw [hA]; simp [o2, hh]
      simp only [hasV] at hh
      rw [hh] at hg
      have hf := of_decide_eq_true hg
      rw [x]
      simp [hf]
    · have hA' : forB l e = e.args.any (forB l) := by rw [hA]; simp [o2, hh]
      simp only [hasV] at hh
      rw [hh] at hg
      have hf := of_decide_eq_false hg
      simp [hf]
      refine vcLoop.intro (fun n env σ => ∃ i, i ≤ e.args.length ∧ n = e.args.length - i ∧ env 0 = .sl 4 (l.map encVar) .none ∧ env 3 = .ptr 0 0 ∧ env 5 = .int .i64 i ∧ σ = ⟨[.cells (encE e)], []⟩ ∧ ∀ a ∈ e.args.take i, forB l a = false) e.args.length ⟨0, by simp, by simp, by simp, by simp, by simp, by rw [encE_eq e, o2], by simp⟩ ?_
      rintro n env σ ⟨i, hi, rfl, h0, h3, h5, rfl, hall⟩
      cases hv : e.args[i]? with
      | some a =>
        obtain ⟨hc, hv'⟩ := List.getElem?_eq_some_iff.1 hv
        have hm := List.mem_of_getElem? hv
        simp [h0, h3, h5, encE_eq e, hc, hv', encE_eq a]
        rw [← encE_eq a]
        refine vcCall.call (ih a hm (hwe.arg hm)) (by simp) ?_
        cases ha : forB l a
        · simp [h0, h3, h5]
          exact ⟨_, by omega, i + 1, by omega, rfl, wr (by omega) (by omega), take_succ_all hv hall ha⟩
        · have x : forB l e = true := by rw [hA']; exact any_yes hm ha
          rw [x]
          simp
      | none =>
        have hc : ¬ i < e.args.length := by simp at hv; omega
        have ht : e.args.take i = e.args := List.take_of_length_le (by omega)
        rw [ht] at hall
        have x : forB l e = false := by rw [hA']; exact any_no hall
        rw [x]
        simp [h0, h3, h5, encE_eq e, hc]
  · have hA' : forB l e = e.args.any (forB l) := by rw [hA]; simp [o2]
    simp only [encE_eq e]
    simp [o2]
    refine vcLoop.intro (fun n env σ => ∃ i, i ≤ e.args.length ∧ n = e.args.length - i ∧ env 0 = .sl 4 (l.map encVar) .none ∧ env 3 = .ptr 0 0 ∧ env 5 = .int .i64 i ∧ σ = ⟨[.cells (encE e)], []⟩ ∧ ∀ a ∈ e.args.take i, forB l a = false) e.args.length ⟨0, by simp, by simp, by simp, by simp, by simp, by rw [encE_eq e], by simp⟩ ?_
    rintro n env σ ⟨i, hi, rfl, h0, h3, h5, rfl, hall⟩
    cases hv : e.args[i]? with
    | some a =>
      obtain ⟨hc, hv'⟩ := List.getElem?_eq_some_iff.1 hv
      have hm := List.mem_of_getElem? hv
      simp [h0, h3, h5, encE_eq e, hc, hv', encE_eq a]
      rw [← encE_eq a]
      refine vcCall.call (ih a hm (hwe.arg hm)) (by simp) ?_
      cases ha : forB l a
      · simp [h0, h3, h5]
        exact ⟨_, by omega, i + 1, by omega, rfl, wr (by omega) (by omega), take_succ_all hv hall ha⟩
      · have x : forB l e = true := by rw [hA']; exact any_yes hm ha
        rw [x]
        simp
    | none =>
      have hc : ¬ i < e.args.length := by simp at hv; omega
      have ht : e.args.take i = e.args := List.take_of_length_le (by omega)
      rw [ht] at hall
      have x : forB l e = false := by rw [hA']; exact any_no hall
      rw [x]
      simp [h0, h3, h5, encE_eq e, hc]

def plainE (l : List Var) (e : Ex) : Int := if arrB e = true then 9 else if forB l e = true then 7 else 0
theorem plain147 (l : List Var) (hlv : Fits l) (e : Ex) (hwe : Wen e) : Pure Tryz.prog GG 54 [.sl 4 (l.map encVar) .none, .agg (encE e)] (.int .i64 (plainE l e)) := by
  refine Pure.vc mixed Tryz.func54 rfl (by kernel_rfl) ?_
  simp only [encE_eq e]
  simp
  rw [← encE_eq e]
  refine vcCall.call (arrays222 e hwe) (by simp) ?_
  cases ha : arrB e
  · simp [encE_eq e]
    rw [← encE_eq e]
    refine vcCall.call (foreign223 l hlv e hwe) (by simp) ?_
    cases hf : forB l e <;> simp [plainE, ha, hf]
  · simp [plainE, ha]
end Go.Proofs.YtpjdjolphpfanaaGreatDoor
end
