/- A part of the proof: texts Walk24 Walk25. -/
import Derived.Test.YtpgcmnabljandaaGreatDoorWk13
import Derived.Test.YtpgcmnabljandaaGreatDoorWk16
import Derived.Test.YtpgcmnabljandaaGreatDoorWk17
import Derived.Test.YtpgcmnabljandaaGreatDoorWk18

section
/-
  Walks: an expression as the reference checks it; the expressions of a problem.
-/
set_option linter.unusedVariables false
set_option linter.unusedSimpArgs false
set_option maxRecDepth 100000
namespace Go.Proofs.YtpgcmnabljandaaGreatDoor
open Go Go.Abs

theorem over_OS (σ : St) (b : Nat) (h : σ.H[b]? = some (.cells [.int .i64 0, .int .i64 0, .int .i64 0, .sl 0 [] .nil, .sl 0 [] .nil])) : OS b 0 0 0 [] [] none none σ σ :=
  ⟨h, rfl, rfl, fun h => absurd rfl h, Nat.le_refl _, fun _ _ _ => rfl⟩

theorem over159 (e : Ex) (hwe : Wen e) (hh : hgt e ≤ 1000) (hsz : (pre e).length ≤ 100000) (σ0 : St) : ACall Tryz.prog GG 159 [.agg (encE e)] σ0 (fun r σ => ∃ b V A tv ta, r = .ptr b 0 ∧ σ.H[b]? = some (.cells [.int .i64 (sizeS e), .int .i64 (hgt e), .int .i64 (firstE nodeE (pre e)), slS V tv, slS A ta])) := by
  refine ACall.vc mixed Tryz.func159 rfl (by kernel_rfl) ?_
  simp only [encE_eq e]
  simp [buildA, fillA]
  rw [← encE_eq e]
  refine ACall.imp (see235 e hwe _ (σ0.H.length + 1) 0 0 0 [] [] none none 1 0 (over_OS _ _ (by simp)) (by simp) (by omega) (by omega) (by omega)) ?_
  rintro r σ ⟨V, A, tv, ta, hos, _⟩
  have hb := hos.hb
  have hx : max 0 (1 + (hgt e : Int) - 1) = hgt e := by omega
  rw [hx] at hb
  simp only [if_true, Int.zero_add] at hb
  try simp
  exact ⟨V, A, tv, ta, hb⟩

theorem valid92 (e : Ex) (hwe : Wen e) (hh : hgt e ≤ 1000) (hsz : (pre e).length ≤ 100000) : Pure Tryz.prog GG 92 [.agg (encE e)] (.int .i64 (validE e)) := by
  refine Pure.vc mixed Tryz.func92 rfl (by kernel_rfl) ?_
  simp only [encE_eq e]
  simp
  rw [← encE_eq e]
  refine ACall.imp (over159 e hwe hh hsz _) ?_
  rintro r σ ⟨b, V, A, tv, ta, rfl, hb⟩
  by_cases h0 : firstE nodeE (pre e) = 0
  · rw [h0] at hb
    by_cases h24 : 24 < hgt e
    · have h24' : (24 : Int) < hgt e := by omega
      have x : validE e = 2 := by unfold validE; rw [if_pos ⟨h0, .inl h24⟩]
      rw [x]
      simp [hb, h24']
    · have h24' : ¬ (24 : Int) < hgt e := by omega
      by_cases h4 : 400 < sizeS e
      · have x : validE e = 2 := by unfold validE; rw [if_pos ⟨h0, .inr h4⟩]
        rw [x]
        simp [hb, h24', h4]
      · have x : validE e = 0 := by unfold validE; rw [if_neg (fun h => by rcases h.2 with h | h; exact h24 h; exact h4 h), h0]
        rw [x]
        simp [hb, h24', h4]
  · have x : validE e = firstE nodeE (pre e) := by unfold validE; rw [if_neg (fun h => h0 h.1)]
    rw [x]
    simp [hb, h0]

theorem exprE_plain (l : List Var) (e : Ex) : exprE l e = if validE e = 0 then plainE l e else validE e := by
  unfold exprE plainE
  by_cases h : validE e = 0
  · rw [if_neg (by simpa using h), if_pos h]
  · rw [if_pos h, if_neg h]
theorem expressions80 (l : List Var) (hlv : Fits l) (x : List Ex) (hx : x.length ≤ 100) (hw : ∀ e ∈ x, Wen e ∧ hgt e ≤ 1000 ∧ (pre e).length ≤ 100000) : Pure Tryz.prog GG 80 [.sl 4 (l.map encVar) .none, .sl 4 (x.map encE) .none] (.int .i64 (firstE (exprE l) x)) := by
  refine Pure.vc mixed Tryz.func80 rfl (by kernel_rfl) ?_
  simp
  refine vcLoop.intro (fun n env σ => ∃ i, i ≤ x.length ∧ n = x.length - i ∧ env 0 = .sl 4 (l.map encVar) .none ∧ env 1 = .sl 4 (x.map encE) .none ∧ env 5 = .int .i64 i ∧ σ = ⟨[], []⟩ ∧ ∀ e ∈ x.take i, exprE l e = 0) x.length ⟨0, by simp⟩ ?_
  rintro n env σ ⟨i, hi, rfl, h0, h1, h5, rfl, hz⟩
  cases hv : x[i]? with
  | some e =>
    obtain ⟨hc, hv'⟩ := List.getElem?_eq_some_iff.1 hv
    have hm := List.mem_of_getElem? hv
    obtain ⟨hwe, hh, hsz⟩ := hw e hm
    have hep := exprE_plain l e
    simp [h0, h1, h5, hc, hv', encE_eq e]
    rw [← encE_eq e]
    refine vcCall.call (valid92 e hwe hh hsz) (by simp) ?_
    by_cases hve : validE e = 0
    · rw [if_pos hve] at hep
      simp [hve, h0, h1, h5, hc, hv', encE_eq e]
      rw [← encE_eq e]
      refine vcCall.call (plain147 l hlv e hwe) (by simp) ?_
      by_cases hp : plainE l e = 0
      · simp [hp, h0, h1, h5]
        exact ⟨_, by omega, i + 1, by omega, rfl, wr (by omega) (by omega), take_succ_all hv hz (by rw [hep]; exact hp)⟩
      · rw [firstE_of hv hz (by rw [hep]; exact hp), hep]
        simp [hp]
    · rw [if_neg hve] at hep
      rw [firstE_of hv hz (by rw [hep]; exact hve), hep]
      simp [hve]
  | none =>
    have hc : ¬ i < x.length := by simp at hv; omega
    have ht : x.take i = x := List.take_of_length_le (by omega)
    rw [ht] at hz
    rw [firstE_zero.2 hz]
    simp [h0, h1, h5, hc]
end Go.Proofs.YtpgcmnabljandaaGreatDoor
end

section
/-
  Walks: a problem is valid, for the program and for the reference.
-/
set_option linter.unusedVariables false
set_option linter.unusedSimpArgs false
set_option maxRecDepth 100000
namespace Go.Proofs.YtpgcmnabljandaaGreatDoor
open Go Go.Abs

/-- What a problem that is small comes to. -/
structure VP (p : Problem) : Prop where
  vars20 : p.vars.length ≤ 20
  names : ∀ v ∈ p.vars, Fits v.name
  hard20 : p.hard.length ≤ 20
  soft20 : p.soft.length ≤ 20
  exprs : ∀ e ∈ p.hard ++ p.soft, Wen e ∧ hgt e ≤ 1000 ∧ (pre e).length ≤ 100000
  dists : Fits p.dists
  weights : ∀ d ∈ p.dists, Fits d.weights
  groups : Fits p.groups
  group : ∀ g ∈ p.groups, Fits g
  flat : p.groups.flatten.length < 1000000

theorem checks50 (fs : List (FuncId × Int)) (c : AV) (hc : noRef c = true) (hl : Fits fs) (h : ∀ q ∈ fs, Pure Tryz.prog GG q.1 [c] (.int .i64 q.2)) : Pure Tryz.prog GG 50 [.sl 1 (fs.map fun q => [.fn q.1 [] [c]]) .none] (.int .i64 (firstE (fun q => q.2) fs)) := by
  refine Pure.vc mixed Tryz.func50 rfl (by kernel_rfl) ?_
  simp
  refine vcLoop.intro (fun n env σ => ∃ i, i ≤ fs.length ∧ n = fs.length - i ∧ env 6 = .sl 1 (fs.map fun q => [.fn q.1 [] [c]]) .none ∧ env 7 = .int .i64 fs.length ∧ env 8 = .int .i64 i ∧ σ = ⟨[], []⟩ ∧ ∀ q ∈ fs.take i, q.2 = 0) fs.length ⟨0, by simp⟩ ?_
  rintro n env σ ⟨i, hi, rfl, h6, h7, h8, rfl, hz⟩
  cases hv : fs[i]? with
  | some q =>
    obtain ⟨hc1, hv'⟩ := List.getElem?_eq_some_iff.1 hv
    have hm := List.mem_of_getElem? hv
    simp [h6, h7, h8, hc1, hv']
    refine vcCall.call (h q hm) (by simp [hc]) ?_
    by_cases h0 : q.2 = 0
    · simp [h0, h6, h7, h8]
      exact ⟨_, by omega, i + 1, by omega, rfl, wr (by omega) (by omega), by simpa using take_succ_all (p := fun q : FuncId × Int => q.2 = 0) hv hz h0⟩
    · rw [firstE_of hv hz h0]
      simp [h0]
  | none =>
    have hc1 : ¬ i < fs.length := by simp at hv; omega
    have ht : fs.take i = fs := List.take_of_length_le (by omega)
    rw [ht] at hz
    rw [firstE_zero.2 hz]
    simp [h6, h7, h8, hc1]

theorem c61 (p : Problem) (h : VP p) : Pure Tryz.prog GG 61 [.rptr (encP p)] (.int .i64 (varsS p.vars)) := by
  refine Pure.vc mixed Tryz.func61 rfl (by kernel_rfl) ?_
  simp
  refine vcCall.call (vars62 p.vars (by have := h.vars20; omega) h.names) (by simp) ?_
  simp
theorem c63 (p : Problem) (h : VP p) : Pure Tryz.prog GG 63 [.rptr (encP p)] (.int .i64 (firstE (exprE p.vars) (p.hard ++ p.soft))) := by
  refine Pure.vc mixed Tryz.func63 rfl (by kernel_rfl) ?_
  have := exprs64 p (by have := h.vars20; omega) h.hard20 h.soft20 h.exprs
  simp only [encP] at this
  simp
  refine vcCall.call this (by simp) ?_
  simp
theorem c65 (p : Problem) (h : VP p) : Pure Tryz.prog GG 65 [.rptr (encP p)] (.int .i64 (distsS p.vars p.dists)) := by
  refine Pure.vc mixed Tryz.func65 rfl (by kernel_rfl) ?_
  have := dists66 p h.dists h.weights
  simp only [encP] at this
  simp
  refine vcCall.call this (by simp) ?_
  simp
theorem c67 (p : Problem) (h : VP p) : Pure Tryz.prog GG 67 [.rptr (encP p)] (.int .i64 (groupsS p.vars p.groups)) := by
  refine Pure.vc mixed Tryz.func67 rfl (by kernel_rfl) ?_
  have := groups68 p h.vars20 h.groups h.group
  simp only [encP] at this
  simp
  refine vcCall.call this (by simp) ?_
  simp

theorem validP_first (p : Problem) : firstE (fun q : FuncId × Int => q.2) [(61, varsS p.vars), (63, firstE (exprE p.vars) (p.hard ++ p.soft)), (65, distsS p.vars p.dists), (67, groupsS p.vars p.groups)] = validP p := by
  simp only [firstE, validP]
  by_cases h1 : varsS p.vars = 0
  · by_cases h2 : firstE (exprE p.vars) (p.hard ++ p.soft) = 0
    · by_cases h3 : distsS p.vars p.dists = 0
      · by_cases h4 : groupsS p.vars p.groups = 0 <;> simp [h1, h2, h3, h4]
      · simp [h1, h2, h3]
    · simp [h1, h2]
  · simp [h1]
theorem valid14' (p : Problem) (h : VP p) : Pure Tryz.prog GG 14 [.agg (encP p)] (.int .i64 (validP p)) := by
  refine Pure.vc mixed Tryz.func14 rfl (by kernel_rfl) ?_
  have hk := checks50 [(61, varsS p.vars), (63, firstE (exprE p.vars) (p.hard ++ p.soft)), (65, distsS p.vars p.dists), (67, groupsS p.vars p.groups)] (.rptr (encP p)) (by simp) (by simp) (by
    intro q hq
    simp only [List.mem_cons, List.not_mem_nil, or_false] at hq
    rcases hq with rfl | rfl | rfl | rfl
    · exact c61 p h
    · exact c63 p h
    · exact c65 p h
    · exact c67 p h)
  rw [validP_first] at hk
  simp [buildSliceA, rowsFill]
  refine vcCall.lent hk rfl ?_ ?_
  · simp [frz]
  · simp

theorem valid23 (p : Problem) (h : VP p) : Pure Tryz.prog GG 23 [.agg (encP p)] (.int .i64 (validP p)) := by
  refine Pure.vc mixed Tryz.func23 rfl (by kernel_rfl) ?_
  have hlv : Fits p.vars := by have := h.vars20; omega
  simp
  refine vcCall.call (variables79 p.vars hlv h.names) (by simp) ?_
  by_cases h1 : varsS p.vars = 0
  · simp [h1]
    refine vcCall.call (expressions80 p.vars hlv p.hard (by have := h.hard20; omega) fun e he => h.exprs e (List.mem_append_left _ he)) (by simp) ?_
    by_cases h2 : firstE (exprE p.vars) p.hard = 0
    · simp [h2]
      refine vcCall.call (expressions80 p.vars hlv p.soft (by have := h.soft20; omega) fun e he => h.exprs e (List.mem_append_right _ he)) (by simp) ?_
      by_cases h3 : firstE (exprE p.vars) p.soft = 0
      · have h23 : firstE (exprE p.vars) (p.hard ++ p.soft) = 0 := by rw [firstE_append, if_pos h2, h3]
        simp [h3]
        refine vcCall.call (dists81 p.vars p.dists hlv h.dists h.weights) (by simp) ?_
        by_cases h4 : distsS p.vars p.dists = 0
        · simp [h4]
          refine vcCall.call (groups82 p.vars p.groups h.vars20 h.groups h.group h.flat) (by simp) ?_
          have x : validP p = groupsS p.vars p.groups := by unfold validP; simp [h1, h23, h4]
          rw [x]
          by_cases hg : GroupsOk p.vars p.groups
          · rw [okG_good hg, show groupsS p.vars p.groups = 0 by unfold groupsS; rw [if_pos hg]]
            simp
          · rw [okG_bad hg, show groupsS p.vars p.groups = 1 by unfold groupsS; rw [if_neg hg]]
            simp
        · have x : validP p = distsS p.vars p.dists := by unfold validP; simp [h1, h23, h4]
          rw [x]
          simp [h4]
      · have x : validP p = firstE (exprE p.vars) p.soft := by
          have h23 : firstE (exprE p.vars) (p.hard ++ p.soft) = firstE (exprE p.vars) p.soft := by rw [firstE_append, if_pos h2]
          unfold validP; rw [h23]; simp [h1, h3]
        rw [x]
        simp [h3]
    · have x : validP p = firstE (exprE p.vars) p.hard := by
        have h23 : firstE (exprE p.vars) (p.hard ++ p.soft) = firstE (exprE p.vars) p.hard := by rw [firstE_append, if_neg h2]
        unfold validP; rw [h23]; simp [h1, h2]
      rw [x]
      simp [h2]
  · have x : validP p = varsS p.vars := by unfold validP; simp [h1]
    rw [x]
    simp [h1]
end Go.Proofs.YtpgcmnabljandaaGreatDoor
end
