/- A part of the proof. -/
import Derived.Test.YtpjdjolphpfanaaGreatDoorGa28
import Derived.Test.YtpjdjolphpfanaaGreatDoorGa29
set_option linter.unusedVariables false
set_option linter.unusedSimpArgs false
set_option maxRecDepth 100000
set_option linter.defProp false
section
namespace Go.Proofs.YtpjdjolphpfanaaGreatDoor
open Go Go.Abs

theorem over_OS (σ : St) (b : Nat) (h : σ.H[b]? = some (.cells [.int .i64 0, .int .i64 0, .int .i64 0, .sl 0 [] .nil, .sl 0 [] .nil])) : OS b 0 0 0 [] [] none none σ σ :=
  ⟨h, rfl, rfl, fun h => absurd rfl h, Nat.le_refl _, fun _ _ _ => rfl⟩

theorem over159 (e : Ex) (hwe : Wen e) (hh : hgt e ≤ 1000) (hsz : (pre e).length ≤ 200000000000) (σ0 : St) : ACall Tryz.prog GG 49 [.agg (encE e)] σ0 (fun r σ => ∃ b V A tv ta, r = .ptr b 0 ∧ σ.H[b]? = some (.cells [.int .i64 (sizeS e), .int .i64 (hgt e), .int .i64 (firstE nodeE (pre e)), slS V tv, slS A ta])) := by
  refine ACall.vc mixed Tryz.func49 rfl (by kernel_rfl) ?_
  simp only [encE_eq e]
  simp [buildA, fillA]
  rw [← encE_eq e]
  refine ACall.imp (see235 e hwe _ (σ0.H.length + 1) 0 0 0 [] [] none none 1 0 (over_OS _ _ (by simp)) (by simp) (by omega) (by omega) (by omega)) ?_
  rintro r σ ⟨V, A, tv, ta, hos, _⟩
  have hb := hos.hb
  have hx : max 0 (1 + (hgt e : Int) - 1) = hgt e := by omega
  rw [hx] at hb
  simp only [if_true, Int.zero_add] at hb
  try simp
  exact ⟨V, A, tv, ta, hb⟩

theorem valid92 (e : Ex) (hwe : Wen e) (hh : hgt e ≤ 1000) (hsz : (pre e).length ≤ 100000) : Pure Tryz.prog GG 53 [.agg (encE e)] (.int .i64 (validE e)) := by
  refine Pure.vc mixed Tryz.func53 rfl (by kernel_rfl) ?_
  simp only [encE_eq e]
  simp
  rw [← encE_eq e]
  refine ACall.imp (over159 e hwe hh (by omega) _) ?_
  rintro r σ ⟨b, V, A, tv, ta, rfl, hb⟩
  by_cases h0 : firstE nodeE (pre e) = 0
  · rw [h0] at hb
    by_cases h24 : 24 < hgt e
    · have h24' : (24 : Int) < hgt e := by omega
      have x : validE e = 2 := by unfold validE; rw [if_pos ⟨h0, .inl h24⟩]
      rw [x]
      simp [hb, h24']
    · have h24' : ¬ (24 : Int) < hgt e := by omega
      by_cases h4 : 400 < sizeS e
      · have x : validE e = 2 := by unfold validE; rw [if_pos ⟨h0, .inr h4⟩]
        rw [x]
        simp [hb, h24', h4]
      · have x : validE e = 0 := by unfold validE; rw [if_neg (fun h => by rcases h.2 with h | h; exact h24 h; exact h4 h), h0]
        rw [x]
        simp [hb, h24', h4]
  · have x : validE e = firstE nodeE (pre e) := by unfold validE; rw [if_neg (fun h => h0 h.1)]
    rw [x]
    simp [hb, h0]

theorem exprE_plain (l : List Var) (e : Ex) : exprE l e = if validE e = 0 then plainE l e else validE e := by
  unfold exprE plainE
  by_cases h : validE e = 0
  · rw [if_neg (by simpa using h), if_pos h]
  · rw [if_pos h, if_neg h]
theorem expressions80 (l : List Var) (hlv : Fits l) (x : List Ex) (hx : x.length ≤ 1000000) (hw : ∀ e ∈ x, Wen e ∧ hgt e ≤ 1000 ∧ (pre e).length ≤ 100000) : Pure Tryz.prog GG 28 [.sl 4 (l.map encVar) .none, .sl 4 (x.map encE) .none] (.int .i64 (firstE (exprE l) x)) := by
  refine Pure.vc mixed Tryz.func28 rfl (by kernel_rfl) ?_
  simp
  refine vcLoop.intro (fun n env σ => ∃ i, i ≤ x.length ∧ n = x.length - i ∧ env 0 = .sl 4 (l.map encVar) .none ∧ env 1 = .sl 4 (x.map encE) .none ∧ env 5 = .int .i64 i ∧ σ = ⟨[], []⟩ ∧ ∀ e ∈ x.take i, exprE l e = 0) x.length ⟨0, by simp⟩ ?_
  rintro n env σ ⟨i, hi, rfl, h0, h1, h5, rfl, hz⟩
  cases hv : x[i]? with
  | some e =>
    obtain ⟨hc, hv'⟩ := List.getElem?_eq_some_iff.1 hv
    have hm := List.mem_of_getElem? hv
    obtain ⟨hwe, hh, hsz⟩ := hw e hm
    have hep := exprE_plain l e
    simp [h0, h1, h5, hc, hv', encE_eq e]
    rw [← encE_eq e]
    refine vcCall.call (valid92 e hwe hh hsz) (by simp) ?_
    by_cases hve : validE e = 0
    · rw [if_pos hve] at hep
      simp [hve, h0, h1, h5, hc, hv', encE_eq e]
      rw [← encE_eq e]
      refine vcCall.call (plain147 l hlv e hwe) (by simp) ?_
      by_cases hp : plainE l e = 0
      · simp [hp, h0, h1, h5]
        exact ⟨_, by omega, i + 1, by omega, rfl, wr (by omega) (by omega), take_succ_all hv hz (by rw [hep]; exact hp)⟩
      · rw [firstE_of hv hz (by rw [hep]; exact hp), hep]
        simp [hp]
    · rw [if_neg hve] at hep
      rw [firstE_of hv hz (by rw [hep]; exact hve), hep]
      simp [hve]
  | none =>
    have hc : ¬ i < x.length := by simp at hv; omega
    have ht : x.take i = x := List.take_of_length_le (by omega)
    rw [ht] at hz
    rw [firstE_zero.2 hz]
    simp [h0, h1, h5, hc]
end Go.Proofs.YtpjdjolphpfanaaGreatDoor
end
