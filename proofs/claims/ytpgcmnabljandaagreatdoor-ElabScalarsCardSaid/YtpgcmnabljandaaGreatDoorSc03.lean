/- A part of the proof: texts Walk42 Walk43 Walk44 Walk45. -/
import Derived.Test.YtpgcmnabljandaaGreatDoorSc01
import Derived.Test.YtpgcmnabljandaaGreatDoorEv03
import Derived.Test.YtpgcmnabljandaaGreatDoorSc02

section
/-
  Walks: sums and choices of elements, copies of expressions.
-/
set_option linter.unusedVariables false
set_option linter.unusedSimpArgs false
set_option maxRecDepth 100000
namespace Go.Proofs.YtpgcmnabljandaaGreatDoor
open Go Go.Abs

attribute [local simp high] acells_encE
attribute [local simp] acells_int acells_str acells_bool acells_sl acells_agg encE_atoms encE_len putAt_encE putAt_encE2 take_encE
set_option maxHeartbeats 1000000 in
theorem sum157 (l : List Var) (a : Str) (hl : Fits l) (ha : a.length ≤ 1000) (hv : ∀ v ∈ l, varS v.name = true) (h0 : 1 ≤ sizeA l a) : Pure Tryz.prog GG 157 [.agg [.sl 4 (l.map encVar) .none], .str a] (.agg (encE (sumE a (sizeA l a - 1)))) := by
  refine Pure.vc mixed Tryz.func157 rfl (by kernel_rfl) ?_
  have hsz := size154 l a hl ha hv
  have h8 := sizeA_le l a
  generalize sizeA l a = n at hsz h0 h8 ⊢
  simp [-acells]
  refine vcCall.call (variable232 a 0 (by omega) ha) rfl ?_
  simp [-acells]
  refine vcLoop.intro (fun q ev σ => ∃ k : Nat, k < n ∧ q = n - k ∧ ev 1 = .str a ∧ ev 2 = .ptr 0 0 ∧ ev 4 = .ptr 1 0 ∧ ev 5 = .ptr 2 0 ∧ ev 6 = .int .i64 ((k : Int) + 1) ∧ σ = ⟨[.cells [.sl 4 (l.map encVar) .none], .cells [.int .i64 0, .int .i64 0, .str [], .sl 0 [] .nil], .cells (encE (sumE a k))], []⟩) n ⟨0, by omega, by simp, by simp, by simp, by simp, by simp, by simp, by simp [sumE]⟩ ?_
  rintro q ev σ ⟨k, hk, rfl, h1, h2, h4, h5, h6, rfl⟩
  simp [-acells, h1, h2, h4, h5, h6]
  refine vcCall.call hsz (by simp) ?_
  by_cases hc : k + 1 < n
  · have hc' : (k : Int) + 1 < n := by omega
    have hv1 := variable232 a (k + 1) (by omega) ha
    simp only [Int.natCast_add, Int.natCast_one] at hv1
    simp [-acells, h1, h2, h4, h5, h6, hc']
    refine vcCall.call hv1 rfl ?_
    simp [-acells, buildSliceA, rowsFill]
    refine vcCall.less (node233 7 [sumE a k, itemE a (k + 1)]) (by simp) (by simp) ?_
    simp [-acells, h1, h2, h4, h5, h6]
    exact ⟨_, by omega, k + 1, by omega, rfl, by rw [wr (by omega) (by omega)]; omega, by simp [sumE]⟩
  · have hc' : ¬ (k : Int) + 1 < n := by omega
    have hk' : n - 1 = k := by omega
    rw [hk']
    simp [-acells, h1, h2, h4, h5, h6, hc', fin1_encE]

set_option maxHeartbeats 1000000 in
theorem copied117 : ∀ e, Slim e → Pure Tryz.prog GG 117 [.agg (encE e)] (.agg (encE e)) := by
  refine Ex.ind fun e ih hs => ?_
  refine Pure.vc mixed Tryz.func117 rfl (by kernel_rfl) ?_
  have hfa := hs.self
  simp [-acells]
  simp [-acells, encE_eq e]
  refine vcLoop.intro (fun n ev σ => ∃ i tl, i ≤ e.args.length ∧ n = e.args.length - i ∧ ev 1 = .ptr 0 0 ∧ ev 2 = .ptr 1 0 ∧ ev 3 = outK 4 encE (e.args.take i) ∧ ev 7 = .sl 4 (e.args.map encE) .none ∧ ev 8 = .int .i64 e.args.length ∧ ev 9 = .int .i64 i ∧ σ = ⟨.cells (encE e) :: .cells [.int .i64 0, .int .i64 0, .str [], .sl 0 [] .nil] :: tl, outTK (e.args.take i)⟩) e.args.length ⟨0, [], by simp, by simp, by simp, by simp, by simp, by simp, by simp, by simp, by simp [encE_eq e]⟩ ?_
  rintro n ev σ ⟨i, tl, hi, rfl, h1, h2, h3, h7, h8, h9, rfl⟩
  cases hv : e.args[i]? with
  | some a =>
    obtain ⟨hc, hv'⟩ := List.getElem?_eq_some_iff.1 hv
    have hm := List.mem_of_getElem? hv
    have ih := ih a hm (hs.arg hm)
    have ht : e.args.take (i + 1) = e.args.take i ++ [a] := by rw [List.take_add_one, hv]; rfl
    have hRl : (e.args.take i).length ≤ 1000 := by simp; omega
    generalize hR : e.args.take i = R at h3 ht hRl ⊢
    cases R with
    | nil =>
      simp only [outK] at h3
      simp [-acells, h1, h2, h3, h7, h8, h9, hc, hv', List.set_append]
      refine vcCall.call ih (by simp) ?_
      simp [-acells, h1, h2, h3, h7, h8, h9, appendA, buildSliceA, rowsFill, rowsOf]
      exact ⟨_, by omega, i + 1, by omega, rfl, by rw [ht]; simp [outK], wr (by omega) (by omega), by rw [ht]; simp [outTK]⟩
    | cons b r =>
      have hb : r.length ≤ 1073741822 := by simp at hRl; omega
      simp only [outK] at h3
      simp [-acells, h1, h2, h3, h7, h8, h9, hc, hv', List.set_append]
      refine vcCall.call ih (by simp) ?_
      simp [-acells, h1, h2, h3, h7, h8, h9, appendA, buildSliceA, rowsFill, rowsOf, outTK, hb]
      exact ⟨_, by omega, i + 1, by omega, rfl, by rw [ht]; simp [outK], wr (by omega) (by omega), by rw [ht]; simp⟩
  | none =>
    have hc : ¬ i < e.args.length := by simp at hv; omega
    rw [List.take_of_length_le (by omega)] at h3 ⊢
    have q := fun H => outK_fin (sz := 4) (en := encE) e.args H nrE'
    simp [-acells, h1, h2, h3, h7, h8, h9, hc, encE_eq e, outK_atom, acells_ex]
    exact q _
end Go.Proofs.YtpgcmnabljandaaGreatDoor
end

section
/-
  Walks: choices of elements; how large a scalar form is.
-/
set_option linter.unusedVariables false
set_option linter.unusedSimpArgs false
set_option maxRecDepth 100000
namespace Go.Proofs.YtpgcmnabljandaaGreatDoor
open Go Go.Abs

attribute [local simp high] acells_encE
attribute [local simp] acells_int acells_str acells_bool acells_sl acells_agg encE_atoms encE_len putAt_encE putAt_encE2 take_encE

set_option maxHeartbeats 2000000 in
theorem chosen158 (l : List Var) (a : Str) (x : Ex) (hl : Fits l) (ha : a.length ≤ 1000) (hv : ∀ v ∈ l, varS v.name = true) (hs : Slim x) (hx : x.op = 1 → 0 ≤ x.n) :
    Pure Tryz.prog GG 158 [.agg [.sl 4 (l.map encVar) .none], .str a, .agg (encE x)] (.agg (encE (chainE a x (sizeA l a)))) := by
  refine Pure.vc mixed Tryz.func158 rfl (by kernel_rfl) ?_
  have hsz := size154 l a hl ha hv
  have h8 := sizeA_le l a
  generalize sizeA l a = n at hsz h8 ⊢
  by_cases c1 : x.op = 1
  · by_cases c2 : x.n < n
    · have hr : chainE a x n = itemE a x.n.toNat := by unfold chainE; rw [if_pos c1, if_pos c2]
      rw [hr]
      have h0 := hx c1
      obtain ⟨m, hm⟩ := Int.eq_ofNat_of_zero_le h0
      rw [hm] at c2 ⊢
      rw [Int.toNat_natCast]
      have hv1 := variable232 a m (by omega) ha
      simp [-acells]
      refine vcCall.call hsz (by simp) ?_
      simp [-acells, encE_eq x, c1, hm, c2]
      refine vcCall.call hv1 rfl ?_
      simp [-acells, fin1_encE]
    · have hr : chainE a x n = constE 0 := by unfold chainE; rw [if_pos c1, if_neg c2]
      rw [hr]
      simp [-acells]
      refine vcCall.call hsz (by simp) ?_
      simp [-acells, encE_eq x, c1, c2]
      refine vcCall.call (number234 0) rfl ?_
      simp [-acells, fin1_encE]
  · have hr : chainE a x n = ifsE a x n n := by unfold chainE; rw [if_neg c1]
    rw [hr]
    have hcp := copied117 x hs
    simp [-acells]
    refine vcCall.call hsz (by simp) ?_
    simp [-acells, encE_eq x, c1]
    rw [← encE_eq x]
    refine vcCall.call (number234 0) rfl ?_
    have w0 : IntKind.i64.wrap ((n : Int) - 1) = (n : Int) - 1 := wr (by omega) (by omega)
    simp [-acells, w0]
    refine vcLoop.intro (fun q ev σ => q ≤ n ∧ ev 1 = .str a ∧ ev 3 = .ptr 0 0 ∧ ev 5 = .ptr 1 0 ∧ ev 6 = .ptr 2 0 ∧ ev 8 = .ptr 3 0 ∧ ev 9 = .int .i64 ((q : Int) - 1) ∧ σ = ⟨[.cells [.sl 4 (l.map encVar) .none], .cells (encE x), .cells [.int .i64 0, .int .i64 0, .str [], .sl 0 [] .nil], .cells (encE (ifsE a x n (n - q)))], []⟩) n ⟨by simp, by simp, by simp, by simp, by simp, by simp, by simp, by simp [ifsE]⟩ ?_
    rintro q ev σ ⟨hq, h1, h3, h5, h6, h8', h9, rfl⟩
    cases q with
    | zero =>
      simp only [Int.natCast_zero, Int.zero_sub, Nat.sub_zero] at h9 ⊢
      simp [-acells, h1, h3, h5, h6, h8', h9, fin1_encE]
    | succ k =>
      have e9 : ((k + 1 : Nat) : Int) - 1 = k := by omega
      rw [e9] at h9
      have hk : n - (n - (k + 1)) = k + 1 := by omega
      have hi : n - 1 - (n - (k + 1)) = k := by omega
      have hst : ifsE a x n (n - k) = .mk 22 0 [] [.mk 15 0 [] [x, constE (k : Int)], itemE a k, ifsE a x n (n - (k + 1))] := by
        rw [show n - k = (n - (k + 1)) + 1 by omega, ifsE, hi]
      generalize ifsE a x n (n - (k + 1)) = Y at hst ⊢
      have hv1 := variable232 a k (by omega) ha
      have hp : (0 : Int) ≤ k := by omega
      simp [-acells, h1, h3, h5, h6, h8', h9, hp]
      refine vcCall.call hcp (by simp) ?_
      try simp [-acells]
      refine vcCall.call (number234 k) rfl ?_
      simp [-acells, buildSliceA, rowsFill]
      refine vcCall.less (node233 15 [x, constE k]) (by simp) (by simp) ?_
      simp [-acells]
      refine vcCall.call hv1 rfl ?_
      simp [-acells, buildSliceA, rowsFill]
      refine vcCall.less (node233 22 [.mk 15 0 [] [x, constE k], itemE a k, Y]) (by simp) (by simp) ?_
      simp [-acells, h1, h3, h5, h6, h8', h9]
      exact ⟨k, by omega, by omega, wr (by omega) (by omega), by rw [hst]⟩
end Go.Proofs.YtpgcmnabljandaaGreatDoor
end

section
/-
  Walks: how large a scalar form is; the scalar form.
-/
set_option linter.unusedVariables false
set_option linter.unusedSimpArgs false
set_option maxRecDepth 100000
namespace Go.Proofs.YtpgcmnabljandaaGreatDoor
open Go Go.Abs

attribute [local simp high] acells_encE
attribute [local simp] acells_int acells_str acells_bool acells_sl acells_agg encE_atoms encE_len putAt_encE putAt_encE2 take_encE

theorem capS_append : ∀ {xs : List (Int × Int)} {s : Int} {m : Int × Int}, capS s (xs ++ [m]) = if 401 < capS s xs + m.1 then 401 else capS s xs + m.1
  | [], s, m => rfl
  | x :: r, s, m => by simp only [List.cons_append, capS]; exact capS_append
theorem lastX_append : ∀ {xs : List (Int × Int)} {x m : Int × Int}, lastX x (xs ++ [m]) = m
  | [], x, m => rfl
  | y :: r, x, m => by simp only [List.cons_append, lastX]; exact lastX_append
theorem lastX_mem : ∀ {xs : List (Int × Int)} {x : Int × Int}, lastX x xs = x ∨ lastX x xs ∈ xs
  | [], x => .inl rfl
  | y :: r, x => by
    simp only [lastX]
    rcases lastX_mem (xs := r) (x := y) with h | h
    · exact .inr (by rw [h]; simp)
    · exact .inr (by simp [h])
def encX (m : Int × Int) : List AV := [.int .i64 m.1, .int .i64 m.2]
set_option maxHeartbeats 4000000 in
theorem extent90 (l : List Var) (hl : Fits l) (hv : ∀ v ∈ l, varS v.name = true) : ∀ e, Wen e → NodesOk e → unkB l e = false → Pure Tryz.prog GG 90 [.agg [.sl 4 (l.map encVar) .none], .agg (encE e)] (.agg (encX (extE l e))) := by
  refine Ex.ind fun e ih hwe hn hu => ?_
  refine Pure.vc mixed Tryz.func90 rfl (by kernel_rfl) ?_
  have hsz := size154 l e.name hl (name_le hn) hv
  have h8 := sizeA_le l e.name
  have hfa := hwe.fits
  have hok : ∀ a ∈ e.args, ExtOk l a := fun a ha => extOk l a (hn.arg ha) (unkB_arg hu ha)
  rw [extE_eq]
  unfold extN
  have hxs : ∀ x ∈ e.args.map (extE l), 1 ≤ x.1 ∧ x.1 ≤ 401 := by
    intro x hx
    obtain ⟨a, ha, rfl⟩ := List.mem_map.1 hx
    exact (hok a ha).nn
  have hone : e.op = 3 → ∃ m, e.args.map (extE l) = [m] := fun c3 => by
    obtain ⟨a, ha⟩ := args1 hn c3
    exact ⟨extE l a, by rw [ha]; rfl⟩
  have hnx : (e.args.map (extE l)).length = e.args.length := by simp
  have hgx : ∀ (i : Nat) (a : Ex), e.args[i]? = some a → (e.args.map (extE l))[i]? = some (extE l a) := fun i a h => by rw [List.getElem?_map, h]; rfl
  generalize hX : e.args.map (extE l) = xs at hxs hone hnx hgx
  generalize sizeA l e.name = n at hsz h8
  by_cases c1 : e.op = 1
  · rw [if_pos c1]
    simp only [encE_eq e]
    simp [-acells, c1, buildA, fillA, stPlace, putAt, encX]
  by_cases c24 : e.op = 24
  · rw [if_neg c1, if_pos c24]
    have w1 : IntKind.i64.wrap (2 * (n : Int)) = 2 * n := wr (by omega) (by omega)
    have w2 : IntKind.i64.wrap (2 * (n : Int) - 1) = 2 * n - 1 := wr (by omega) (by omega)
    simp only [encE_eq e]
    simp [-acells, c24]
    refine vcCall.call hsz (by simp) ?_
    simp [-acells, w1, w2, buildA, fillA, stPlace, putAt, encX]
  rw [if_neg c1, if_neg c24]
  generalize hr : (if e.op ≠ 3 then ((capS 1 xs, -1) : Int × Int) else if (n : Int) ≤ (lastX (0, -1) xs).2 then (1, 0) else if 0 ≤ (lastX (0, -1) xs).2 then (1, -1) else
    (if 401 < (n : Int) * ((lastX (0, -1) xs).1 + 4) + 1 then 401 else (n : Int) * ((lastX (0, -1) xs).1 + 4) + 1, -1)) = r
  simp only [encE_eq e]
  simp [-acells, c1, c24, buildA, fillA, stPlace, putAt]
  refine vcLoop.intro (fun q ev σ => ∃ i tl, i ≤ e.args.length ∧ q = e.args.length - i ∧ ev 2 = .ptr 0 0 ∧ ev 3 = .ptr 1 0 ∧ ev 4 = .ptr 2 0 ∧ ev 5 = .int .i64 (capS 1 (xs.take i)) ∧ ev 6 = .ptr 3 0 ∧ ev 28 = .sl 4 (e.args.map encE) .none ∧ ev 29 = .int .i64 e.args.length ∧ ev 30 = .int .i64 i ∧ σ = ⟨.cells [.sl 4 (l.map encVar) .none] :: .cells (encE e) :: .cells [.int .i64 0, .int .i64 0] :: .cells (encX (lastX (0, -1) (xs.take i))) :: tl, []⟩) e.args.length ⟨0, [], by simp, by simp, by simp, by simp, by simp, by simp [capS], by simp, by simp, by simp, by simp, by simp [encE_eq e, encX, lastX]⟩ ?_
  rintro q ev σ ⟨i, tl, hi, rfl, h2, h3, h4, h5, h6, h28, h29, h30, rfl⟩
  cases hvi : e.args[i]? with
  | some a =>
    obtain ⟨hc, hv'⟩ := List.getElem?_eq_some_iff.1 hvi
    have hm := List.mem_of_getElem? hvi
    have ih := ih a hm (hwe.arg hm) (hn.arg hm) (unkB_arg hu hm)
    have ht : xs.take (i + 1) = xs.take i ++ [extE l a] := by rw [List.take_add_one, hgx i a hvi]; rfl
    have hcap := capS_mono (xs := xs.take i) (s := 1) (by omega) fun x hx => by have := (hxs x (List.mem_of_mem_take hx)).1; omega
    have hnn := (hok a hm).nn
    have ec := capS_append (xs := xs.take i) (s := 1) (m := extE l a)
    have el := lastX_append (xs := xs.take i) (x := (0, -1)) (m := extE l a)
    rw [← ht] at ec el
    generalize capS 1 (xs.take i) = C at h5 hcap ec
    generalize lastX (0, -1) (xs.take i) = L
    generalize extE l a = m at ih hnn ec el
    have w1 : IntKind.i64.wrap (C + m.1) = C + m.1 := wr (by omega) (by omega)
    simp [-acells, h2, h3, h4, h5, h6, h28, h29, h30, hc, hv', List.set_append]
    refine vcCall.call ih (by simp [encX]) ?_
    simp [-acells, h2, h3, h4, h5, h6, h28, h29, h30, encX, putAt, w1, min2A]
    refine ⟨_, by omega, i + 1, by omega, rfl, by rw [ec], wr (by omega) (by omega), ?_⟩
    rw [el]
    exact ⟨rfl, rfl⟩
  | none =>
    have hc : ¬ i < e.args.length := by simp at hvi; omega
    rw [List.take_of_length_le (by omega)] at h5 ⊢
    simp [-acells, h2, h3, h4, h5, h6, h28, h29, h30, hc, encE_eq e]
    refine vcCall.call hsz (by simp) ?_
    by_cases c3 : e.op = 3
    · obtain ⟨m, rfl⟩ := hone c3
      have hnn := hxs m (by simp)
      have hp : 0 ≤ (n : Int) * (m.1 + 4) ∧ (n : Int) * (m.1 + 4) ≤ 8 * 405 := mul_bound (by omega) (by omega) (by omega) (by omega)
      have w1 : IntKind.i64.wrap (m.1 + 4) = m.1 + 4 := wr (by omega) (by omega)
      have w2 : IntKind.i64.wrap ((n : Int) * (m.1 + 4)) = n * (m.1 + 4) := wr (by omega) (by omega)
      have w3 : IntKind.i64.wrap ((n : Int) * (m.1 + 4) + 1) = n * (m.1 + 4) + 1 := wr (by omega) (by omega)
      have hL : lastX (0, -1) [m] = m := rfl
      rw [if_neg (fun h => h c3), hL] at hr
      rw [hL]
      by_cases c5 : (n : Int) ≤ m.2
      · rw [if_pos c5] at hr
        subst hr
        simp [-acells, h2, h3, h4, h5, h6, h28, h29, h30, c3, c5, encX, buildA, fillA, stPlace, putAt, lastX, encE_eq e]
      · by_cases c6 : 0 ≤ m.2
        · rw [if_neg c5, if_pos c6] at hr
          subst hr
          simp [-acells, h2, h3, h4, h5, h6, h28, h29, h30, c3, c5, c6, encX, buildA, fillA, stPlace, putAt, lastX, encE_eq e]
        · rw [if_neg c5, if_neg c6] at hr
          subst hr
          simp [-acells, h2, h3, h4, h5, h6, h28, h29, h30, c3, c5, c6, encX, buildA, fillA, stPlace, putAt, lastX, encE_eq e, w1, w2, w3, min2A]
    · rw [if_pos (by simpa using c3)] at hr
      subst hr
      simp [-acells, h2, h3, h4, h5, h6, h28, h29, h30, c3, encX, buildA, fillA, stPlace, putAt, encE_eq e]
end Go.Proofs.YtpgcmnabljandaaGreatDoor
end

section
/-
  Walks: the scalar form, for the program.
-/
set_option linter.unusedVariables false
set_option linter.unusedSimpArgs false
set_option maxRecDepth 100000
namespace Go.Proofs.YtpgcmnabljandaaGreatDoor
open Go Go.Abs

theorem slim_mk {o n : Int} {s : Str} {a : List Ex} (h : a.length ≤ 1000) (ha : ∀ x ∈ a, Slim x) : Slim (.mk o n s a) := by
  intro x hx
  rw [pre_eq] at hx
  rcases List.mem_cons.1 hx with rfl | hx
  · exact h
  · obtain ⟨y, hy, hxy⟩ := mem_preL.1 hx
    exact ha y hy x hxy
theorem slim_item (a : Str) (i : Nat) : Slim (itemE a i) := slim_mk (by simp) (by simp)
theorem slim_const (n : Int) : Slim (constE n) := slim_mk (by simp) (by simp)
theorem slim_sum (a : Str) : ∀ k, Slim (sumE a k)
  | 0 => slim_item a 0
  | k + 1 => slim_mk (by simp) (by
    intro x hx
    simp only [List.mem_cons, List.not_mem_nil, or_false] at hx
    rcases hx with rfl | rfl
    · exact slim_sum a k
    · exact slim_item _ _)
theorem slim_ifs (a : Str) {idx : Ex} (hi : Slim idx) (n : Nat) : ∀ k, Slim (ifsE a idx n k)
  | 0 => slim_const 0
  | k + 1 => slim_mk (by simp) (by
    intro x hx
    simp only [List.mem_cons, List.not_mem_nil, or_false] at hx
    rcases hx with rfl | rfl | rfl
    · refine slim_mk (by simp) fun y hy => ?_
      simp only [List.mem_cons, List.not_mem_nil, or_false] at hy
      rcases hy with rfl | rfl
      · exact hi
      · exact slim_const _
    · exact slim_item _ _
    · exact slim_ifs a hi n k)
theorem slim_chain (a : Str) {idx : Ex} (hi : Slim idx) (n : Nat) : Slim (chainE a idx n) := by
  unfold chainE
  split
  · split
    · exact slim_item _ _
    · exact slim_const _
  · exact slim_ifs a hi n n
theorem slim_sc (l : List Var) : ∀ e, NodesOk e → Slim (scE l e) := by
  refine Ex.ind fun e ih hn => ?_
  have hs : ∀ x ∈ e.args.map (scE l), Slim x := by
    intro x hx
    obtain ⟨a, ha, rfl⟩ := List.mem_map.1 hx
    exact ih a ha (hn.arg ha)
  rw [scE_eq]
  split
  · exact slim_sum _ _
  split
  · refine slim_chain _ ?_ _
    cases hm : e.args.map (scE l) with
    | nil => exact slim_const 0
    | cons x r => exact hs x (by rw [hm]; simp)
  · exact slim_mk (by have := args_le hn; simp; omega) hs
theorem sc_const {l : List Var} {e : Ex} (hn : NodesOk e) (hu : unkB l e = false) (h1 : (scE l e).op = 1) : 0 ≤ (scE l e).n := by
  rcases (extOk l e hn hu).val with ⟨v0, _, vn⟩ | ⟨_, vo⟩
  · rw [vn]; exact v0
  · exact absurd h1 vo

attribute [local simp high] acells_encE
attribute [local simp] acells_int acells_str acells_bool acells_sl acells_agg encE_atoms encE_len putAt_encE putAt_encE2 take_encE

set_option maxHeartbeats 2000000 in
theorem make91 (l : List Var) (hl : Fits l) (hv : ∀ v ∈ l, varS v.name = true) : ∀ e, NodesOk e → unkB l e = false → Pure Tryz.prog GG 91 [.agg [.sl 4 (l.map encVar) .none], .agg (encE e)] (.agg (encE (scE l e))) := by
  refine Ex.ind fun e ih hn hu => ?_
  refine Pure.vc mixed Tryz.func91 rfl (by kernel_rfl) ?_
  have hnl := name_le hn
  have h33 := args_le hn
  by_cases c24 : e.op = 24
  · have hsum := sum157 l e.name hl hnl hv (unk1_size (unkB_self hu) (.inr c24))
    have x : scE l e = sumE e.name (sizeA l e.name - 1) := by rw [scE_eq, if_pos c24]
    rw [x]
    generalize sumE e.name (sizeA l e.name - 1) = Y at hsum
    simp only [encE_eq e]
    simp [-acells, c24]
    refine vcCall.call hsum (by simp) ?_
    simp [-acells, fin1_encE]
  have hsl : ∀ a ∈ e.args, Slim (scE l a) := fun a ha => slim_sc l a (hn.arg ha)
  have hco : ∀ a ∈ e.args, (scE l a).op = 1 → 0 ≤ (scE l a).n := fun a ha => sc_const (hn.arg ha) (unkB_arg hu ha)
  simp only [encE_eq e]
  simp [-acells, c24, makeSliceA]
  rw [if_pos (by omega)]
  simp [-acells]
  refine vcLoop.intro (fun q ev σ => ∃ i tl, i ≤ e.args.length ∧ q = e.args.length - i ∧ ev 2 = .ptr 0 0 ∧ ev 3 = .ptr 1 0 ∧ ev 4 = .ptr 2 0 ∧ ev 5 = .sl 4 (((e.args.take i).map (scE l)).map encE) (.chain 0 i) ∧ ev 20 = .sl 4 (e.args.map encE) .none ∧ ev 21 = .int .i64 e.args.length ∧ ev 22 = .int .i64 i ∧ σ = ⟨.cells [.sl 4 (l.map encVar) .none] :: .cells (encE e) :: .cells [.int .i64 0, .int .i64 0, .str [], .sl 0 [] .nil] :: tl, [some i]⟩) e.args.length ⟨0, [], by simp, by simp, by simp, by simp, by simp, by simp, by simp, by simp, by simp, by simp [encE_eq e]⟩ ?_
  rintro q ev σ ⟨i, tl, hi, rfl, h2, h3, h4, h5, h20, h21, h22, rfl⟩
  cases hvi : e.args[i]? with
  | some a =>
    obtain ⟨hc, hv'⟩ := List.getElem?_eq_some_iff.1 hvi
    have hm := List.mem_of_getElem? hvi
    have ih := ih a hm (hn.arg hm) (unkB_arg hu hm)
    have ht : (e.args.take (i + 1)).map (scE l) = (e.args.take i).map (scE l) ++ [scE l a] := by rw [List.take_add_one, hvi]; simp
    have hRl : ((e.args.take i).map (scE l)).length = i := by simp; omega
    have hb : i + 1 ≤ 1073741824 := by omega
    generalize (e.args.take i).map (scE l) = R at h5 ht hRl
    simp [-acells, h2, h3, h4, h5, h20, h21, h22, hc, hv', List.set_append]
    refine vcCall.call ih (by simp) ?_
    simp [-acells, h2, h3, h4, h5, h20, h21, h22, appendA, buildSliceA, rowsFill, rowsOf, hRl, hb]
    exact ⟨_, by omega, i + 1, by omega, rfl, ⟨by simpa using (congrArg (List.map encE) ht).symm, rfl⟩, wr (by omega) (by omega), rfl⟩
  | none =>
    have hle : e.args.length ≤ i := by simpa using hvi
    have hc : ¬ i < e.args.length := by omega
    have hie : i = e.args.length := by omega
    rw [List.take_of_length_le hle] at h5
    by_cases c3 : e.op = 3
    · obtain ⟨a, ha⟩ := args1 hn c3
      have hch := chosen158 l e.name (scE l a) hl hnl hv (hsl a (by rw [ha]; simp)) (hco a (by rw [ha]; simp))
      have x : scE l e = chainE e.name (scE l a) (sizeA l e.name) := by rw [scE_eq, if_neg c24, if_pos c3, ha]; rfl
      rw [x]
      rw [ha] at h5
      generalize chainE e.name (scE l a) (sizeA l e.name) = Y at hch
      simp [-acells, h2, h3, h4, h5, h20, h21, h22, hc, c3, encE_eq e]
      refine vcCall.call hch (by simp) ?_
      simp [-acells, fin1_encE]
    · have x : scE l e = .mk e.op e.n e.name (e.args.map (scE l)) := by rw [scE_eq, if_neg c24, if_neg c3]
      rw [x]
      generalize e.args.map (scE l) = R at h5
      simp [-acells, h2, h3, h4, h5, h20, h21, h22, hc, c3, encE_eq e, encE_eq (Ex.mk _ _ _ _)]
end Go.Proofs.YtpgcmnabljandaaGreatDoor
end
