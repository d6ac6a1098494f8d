/- A part of the proof: texts Walk17. -/
import Derived.Test.YtpgcmnabljandaaGreatDoorWk09

/-
  Walks: the distributions of a problem.
-/
set_option linter.unusedVariables false
set_option linter.unusedSimpArgs false
set_option maxRecDepth 100000
namespace Go.Proofs.YtpgcmnabljandaaGreatDoor
open Go Go.Abs

theorem weight201 (w : Weight) : Pure Tryz.prog GG 201 [.agg (encWeight w)] (.bool (weightB w)) := by
  refine Pure.vc mixed Tryz.func201 rfl (by kernel_rfl) ?_
  by_cases c1 : w.lo < 0
  · have x : weightB w = true := by simp [weightB, c1]
    rw [x]; simp [c1]
  by_cases c2 : w.hi < w.lo
  · have x : weightB w = true := by simp [weightB, c2]
    rw [x]; simp [c1, c2]
  by_cases c3 : 65535 < w.hi
  · have x : weightB w = true := by simp [weightB, c3]
    rw [x]; simp [c1, c2, c3]
  by_cases c4 : w.weight < 0
  · have x : weightB w = true := by simp [weightB, c4]
    rw [x]; simp [c1, c2, c3, c4]
  have x : weightB w = decide (1000 < w.weight) := by simp [weightB, c1, c2, c3, c4]
  rw [x]; simp [c1, c2, c3, c4]
theorem weights133 (l : List Weight) (hl : Fits l) : Pure Tryz.prog GG 133 [.sl 4 (l.map encWeight) .none] (.bool (!l.any weightB)) := by
  refine Pure.vc mixed Tryz.func133 rfl (by kernel_rfl) ?_
  simp
  refine vcCall.call (containsFuncWeight GG l weightB 201 [] [] hl rfl rfl fun v _ => weight201 v) (by simp) ?_
  simp
theorem same132 (x d : Dist) : Pure Tryz.prog GG 132 [.agg (encDist x), .rptr (encDist d)] (.bool (x.var == d.var)) := by
  refine Pure.vc mixed Tryz.func132 rfl (by kernel_rfl) ?_
  simp

theorem firstR {f : Nat → Int} {n i : Nat} (hi : i < n) (hz : ∀ j, j < i → f j = 0) (hf : f i ≠ 0) : firstE f (List.range n) = f i :=
  firstE_of (l := List.range n) (i := i) (v := i) (by simp [hi]) (fun a ha => by
    rw [List.take_range] at ha
    have := List.mem_range.1 ha
    exact hz a (by omega)) hf
theorem firstR0 {f : Nat → Int} {n : Nat} (hz : ∀ j, j < n → f j = 0) : firstE f (List.range n) = 0 := firstE_zero.2 fun a ha => hz a (List.mem_range.1 ha)
theorem rndS_eq (l : List Var) (i : Int) : (decide (0 ≤ i) && (l[i.toNat]?).any (fun v => v.mode != 0)) = rndS l i := rfl

set_option maxHeartbeats 4000000 in
theorem dists66 (p : Problem) (hd : Fits p.dists) (hw : ∀ d ∈ p.dists, Fits d.weights) : Pure Tryz.prog GG 66 [.agg (encP p)] (.int .i64 (distsS p.vars p.dists)) := by
  refine Pure.vc mixed Tryz.func66 rfl (by kernel_rfl) ?_
  simp
  refine vcLoop.intro (fun n env σ => ∃ i tail, i ≤ p.dists.length ∧ n = p.dists.length - i ∧ env 1 = .ptr 0 0 ∧ env 6 = .sl 2 (p.dists.map encDist) .none ∧ env 7 = .int .i64 p.dists.length ∧ env 8 = .int .i64 i ∧ σ = ⟨.cells (encP p) :: tail, []⟩ ∧ ∀ j, j < i → distE p.vars p.dists j = 0) p.dists.length ⟨0, [], by simp⟩ ?_
  rintro n env σ ⟨i, tail, hi, rfl, h1, h6, h7, h8, rfl, hz⟩
  cases hv : p.dists[i]? with
  | some d =>
    obtain ⟨hc, hv'⟩ := List.getElem?_eq_some_iff.1 hv
    have hm := List.mem_of_getElem? hv
    have bad : distE p.vars p.dists i ≠ 0 → distsS p.vars p.dists = distE p.vars p.dists i := fun h => firstR hc hz h
    have next : distE p.vars p.dists i = 0 → ∀ j, j < i + 1 → distE p.vars p.dists j = 0 := fun h j hj => by
      rcases Nat.lt_succ_iff_lt_or_eq.1 hj with hj | rfl
      · exact hz j hj
      · exact h
    have hle : i ≤ p.dists.length := by omega
    have hle' : (i : Int) ≤ p.dists.length := by omega
    have hr := random GG p d.var
    rw [rndS_eq] at hr
    simp only [encP] at hr
    simp [h1, h6, h7, h8, hc, hv', List.set_append]
    refine vcCall.call hr (by simp) ?_
    cases hrn : rndS p.vars d.var
    · have x : distE p.vars p.dists i = 1 := by simp [distE, hv, hrn]
      rw [bad (by rw [x]; decide), x]
      simp
    · simp [h1, h6, h7, h8, sliceA, boundA, thirdA, sliceTok, hle, hle', List.set_append]
      have hcf := containsFuncDist GG (p.dists.take i) (fun y => y.var == d.var) 132 [] [.rptr (encDist d)] (by simp; omega) rfl (by simp) fun y _ => same132 y d
      refine vcCall.lent hcf rfl ?_ ?_
      · have htk : (p.dists.map encDist).take i = (p.dists.take i).map encDist := List.map_take.symm
        simp [frz, -List.map_take, htk]
      · cases hdp : (p.dists.take i).any fun y => y.var == d.var
        · by_cases h16 : 16 < d.weights.length
          · have h16' : (16 : Int) < d.weights.length := by omega
            have x : distE p.vars p.dists i = 2 := by simp only [distE, hv, hrn, hdp, h16]; rfl
            rw [bad (by rw [x]; decide), x]
            simp [h16', List.set_append]
          · have h16' : ¬ (16 : Int) < d.weights.length := by omega
            simp [h16', List.set_append]
            refine vcCall.call (weights133 d.weights (hw d hm)) (by simp) ?_
            cases hwt : d.weights.any weightB
            · have x : distE p.vars p.dists i = 0 := by simp only [distE, hv, hrn, hdp, h16, hwt]; rfl
              simp [h1, h6, h7, h8]
              exact ⟨_, by omega, i + 1, by omega, rfl, wr (by omega) (by omega), next x⟩
            · have x : distE p.vars p.dists i = 1 := by simp only [distE, hv, hrn, hdp, h16, hwt]; rfl
              rw [bad (by rw [x]; decide), x]
              simp
        · have x : distE p.vars p.dists i = 8 := by simp only [distE, hv, hrn, hdp]; rfl
          rw [bad (by rw [x]; decide), x]
          simp
  | none =>
    have hc : ¬ i < p.dists.length := by simp at hv; omega
    have x : distsS p.vars p.dists = 0 := firstR0 fun j hj => hz j (by omega)
    rw [x]
    simp [h1, h6, h7, h8, hc]
end Go.Proofs.YtpgcmnabljandaaGreatDoor
