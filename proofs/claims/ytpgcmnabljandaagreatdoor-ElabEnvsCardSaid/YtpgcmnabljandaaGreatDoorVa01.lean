/- A part of the proof: texts Walk29. -/
import Derived.Test.YtpgcmnabljandaaGreatDoorWk20
import Derived.Test.YtpgcmnabljandaaGreatDoorWo02

/-
  The law of Valid, Bits and Random: the walk of its function.
-/
set_option linter.unusedVariables false
set_option linter.unusedSimpArgs false
set_option maxRecDepth 100000
namespace Go.Proofs.YtpgcmnabljandaaGreatDoor
open Go Go.Abs

/-- What memory can hold of a problem. -/
structure VH (p : Problem) : Prop where
  names : ∀ v ∈ p.vars, Fits v.name
  exprs : ∀ e ∈ p.hard ++ p.soft, Wen e
  dists : Fits p.dists
  weights : ∀ d ∈ p.dists, Fits d.weights
  groups : Fits p.groups
  group : ∀ g ∈ p.groups, Fits g
theorem VH.small {p : Problem} (h : VH p) (hs : smallS p = true) : VP p := by
  simp only [smallS, Bool.and_eq_true, Bool.not_eq_true', Bool.or_eq_false_iff, decide_eq_false_iff_not, List.all_eq_true, decide_eq_true_eq] at hs
  obtain ⟨⟨⟨⟨⟨⟨⟨⟨a1, a2⟩, a3⟩, a4⟩, a5⟩, b1⟩, b2⟩, b3⟩, b4⟩ := hs
  refine ⟨by omega, h.names, by omega, by omega, fun e he => ?_, h.dists, h.weights, h.groups, h.group, ?_⟩
  · have hb : briefS e 0 = true := by
      rcases List.mem_append.1 he with he | he
      · exact b1 e he
      · exact b2 e he
    have h1 := brief_hgt e 0 hb
    have h2 := brief_few hb
    exact ⟨h.exprs e he, by omega, by omega⟩
  · have : ∀ (g : List (List Int)), (∀ x ∈ g, x.length ≤ 20) → g.flatten.length ≤ g.length * 20 := by
      intro g
      induction g with
      | nil => simp
      | cons a r ih =>
        intro h
        have h1 := h a (by simp)
        have h2 := ih fun x hx => h x (by simp [hx])
        simp only [List.flatten_cons, List.length_append, List.length_cons]
        omega
    have := this p.groups b4
    omega

theorem widthAt_get {l : List Var} {i : Nat} (h : i < l.length) : widthAt l i = l[i].width := by simp [widthAt, List.getElem?_eq_getElem h]
/-- The number of random bits, as a machine adds. -/
def sumW (l : List Var) (s : List Int) : Int := s.foldl (fun n i => IntKind.i64.wrap (n + widthAt l i.toNat)) 0
theorem randomI_range {p : Problem} {i : Int} (h : i ∈ randomI p) : 0 ≤ i ∧ i < p.vars.length := by
  unfold randomI at h
  split at h
  · cases h
  · unfold rndL at h
    obtain ⟨j, hj, rfl⟩ := List.mem_map.1 h
    have := List.mem_range.1 (List.mem_filter.1 hj).1
    omega
theorem randomI_len (p : Problem) (h : VP p) : (randomI p).length ≤ 20 := by
  unfold randomI
  split
  · simp
  · exact Nat.le_trans rndL_len h.vars20
theorem sum_succ {l : List Var} {s : List Int} {i : Nat} {v : Int} (h : s[i]? = some v) : sumW l (s.take (i + 1)) = IntKind.i64.wrap (sumW l (s.take i) + widthAt l v.toNat) := by
  unfold sumW
  rw [List.take_add_one, h, List.foldl_append]
  rfl

theorem bits24 (p : Problem) (h : VP p) : Pure Tryz.prog GG 24 [.agg (encP p)] (.int .i64 (sumW p.vars (randomI p))) := by
  refine Pure.vc mixed Tryz.func24 rfl (by kernel_rfl) ?_
  have hv := random27 p h
  have hlen := randomI_len p h
  have hrg : ∀ i ∈ randomI p, 0 ≤ i ∧ i < p.vars.length := fun i hi => randomI_range hi
  simp only [encP] at hv
  generalize randomI p = R at hv hlen hrg ⊢
  simp
  refine vcCall.call hv (by simp) ?_
  try simp
  refine vcLoop.intro (fun q env σ => ∃ i, i ≤ R.length ∧ q = R.length - i ∧ env 1 = .ptr 0 0 ∧ env 3 = .int .i64 (sumW p.vars (R.take i)) ∧ env 7 = .sl 1 (R.map encInt) .none ∧ env 8 = .int .i64 R.length ∧ env 9 = .int .i64 i ∧ σ = ⟨[.cells (encP p)], []⟩) R.length ⟨0, by simp [sumW]⟩ ?_
  rintro q env σ ⟨i, hi, rfl, h1, h3, h7, h8, h9, rfl⟩
  cases hvi : R[i]? with
  | some v =>
    obtain ⟨hc, hv'⟩ := List.getElem?_eq_some_iff.1 hvi
    obtain ⟨r1, r2⟩ := hrg v (List.mem_of_getElem? hvi)
    obtain ⟨j, rfl⟩ := Int.eq_ofNat_of_zero_le r1
    have hj : j < p.vars.length := by omega
    have hs := sum_succ (l := p.vars) hvi
    simp only [Int.toNat_natCast] at hs
    rw [widthAt_get hj] at hs
    simp [h1, h3, h7, h8, h9, hc, hv', hj]
    exact ⟨_, by omega, i + 1, by omega, rfl, by rw [hs], wr (by omega) (by omega)⟩
  | none =>
    have hc : ¬ i < R.length := by simp at hvi; omega
    have ht : R.take i = R := List.take_of_length_le (by omega)
    rw [ht] at h3
    simp [h1, h3, h7, h8, h9, hc]

theorem bits25 (p : Problem) (h : VP p) : Pure Tryz.prog GG 25 [.agg (encP p)] (.int .i64 (sumW p.vars (randomI p))) := by
  refine Pure.vc mixed Tryz.func25 rfl (by kernel_rfl) ?_
  have hv := random28 p h
  have hlen := randomI_len p h
  have hrg : ∀ i ∈ randomI p, 0 ≤ i ∧ i < p.vars.length := fun i hi => randomI_range hi
  simp only [encP] at hv
  generalize randomI p = R at hv hlen hrg ⊢
  simp
  refine vcCall.call hv (by simp) ?_
  try simp
  refine vcLoop.intro (fun q env σ => ∃ i, i ≤ R.length ∧ q = R.length - i ∧ env 1 = .ptr 0 0 ∧ env 3 = .sl 1 (R.map encInt) .none ∧ env 4 = .int .i64 (sumW p.vars (R.take i)) ∧ env 5 = .int .i64 i ∧ σ = ⟨[.cells (encP p)], []⟩) R.length ⟨0, by simp [sumW]⟩ ?_
  rintro q env σ ⟨i, hi, rfl, h1, h3, h4, h5, rfl⟩
  cases hvi : R[i]? with
  | some v =>
    obtain ⟨hc, hv'⟩ := List.getElem?_eq_some_iff.1 hvi
    obtain ⟨r1, r2⟩ := hrg v (List.mem_of_getElem? hvi)
    obtain ⟨j, rfl⟩ := Int.eq_ofNat_of_zero_le r1
    have hj : j < p.vars.length := by omega
    have hs := sum_succ (l := p.vars) hvi
    simp only [Int.toNat_natCast] at hs
    rw [widthAt_get hj] at hs
    simp [h1, h3, h4, h5, hc, hv', hj]
    exact ⟨_, by omega, i + 1, by omega, rfl, by rw [hs], wr (by omega) (by omega)⟩
  | none =>
    have hc : ¬ i < R.length := by simp at hvi; omega
    have ht : R.take i = R := List.take_of_length_le (by omega)
    rw [ht] at h4
    simp [h1, h3, h4, h5, hc]

theorem valids5 (p : Problem) (h : VH p) : Pure Tryz.prog GG 5 [.agg (encP p)] (.bool true) := by
  refine Pure.vc mixed Tryz.func5 rfl (by kernel_rfl) ?_
  have hsm := small22 p h.exprs
  cases hs : smallS p
  · rw [hs] at hsm
    simp only [encP] at hsm
    simp
    refine vcCall.call hsm (by simp) ?_
    try simp
    refine vcCall.call works11 rfl ?_
    simp
  · rw [hs] at hsm
    have hp := h.small hs
    have a1 := valid14' p hp
    have a2 := valid23 p hp
    have a3 := bits24 p hp
    have a4 := bits25 p hp
    have a5 := random27 p hp
    have a6 := random28 p hp
    have hl := randomI_len p hp
    have a7 := sameInts26 (randomI p) (randomI p) (by omega)
    simp only [encP] at hsm a1 a2 a3 a4 a5 a6
    simp
    refine vcCall.call hsm (by simp) ?_
    try simp
    refine vcCall.call a1 (by simp) ?_
    try simp
    refine vcCall.call a2 (by simp) ?_
    try simp
    refine vcCall.call a3 (by simp) ?_
    try simp
    refine vcCall.call a4 (by simp) ?_
    try simp
    refine vcCall.call a5 (by simp) ?_
    try simp
    refine vcCall.call a6 (by simp) ?_
    try simp
    refine vcCall.call a7 (by simp) ?_
    try simp
    refine vcCall.call works11 rfl ?_
    simp
end Go.Proofs.YtpgcmnabljandaaGreatDoor
