/- A part of the proof: texts Walk26 Walk27 Walk28. -/
import Derived.Test.YtpgcmnabljandaaGreatDoorWk09
import Derived.Test.YtpgcmnabljandaaGreatDoorWk19

section
/-
  Walks: the sizes of the law's arguments.
-/
set_option linter.unusedVariables false
set_option linter.unusedSimpArgs false
set_option maxRecDepth 100000
namespace Go.Proofs.YtpgcmnabljandaaGreatDoor
open Go Go.Abs

theorem take_succ_all' {α : Type} {p : α → Prop} {l : List α} {i : Nat} {v : α} (h : l[i]? = some v) (hz : ∀ a ∈ l.take i, p a) (hv : p v) : ∀ a ∈ l.take (i + 1), p a := by
  intro a ha
  rw [List.take_add_one, h] at ha
  rcases List.mem_append.1 ha with ha | ha
  · exact hz a ha
  · simp at ha; rw [ha]; exact hv
theorem nodes84 : ∀ (e : Ex), Wen e → ∀ (d : Nat), d ≤ 30 → Pure Tryz.prog GG 84 [.agg (encE e), .int .i64 d] (.int .i64 (nodesS e d)) := by
  refine Ex.ind fun e ih hwe d hd => ?_
  refine Pure.vc mixed Tryz.func84 rfl (by kernel_rfl) ?_
  have hl := hwe.fits
  simp only [encE_eq e]
  simp
  refine vcLoop.intro (fun q env σ => ∃ i n, i ≤ e.args.length ∧ q = e.args.length - i ∧ env 1 = .int .i64 d ∧ env 2 = .ptr 0 0 ∧ env 5 = .int .i64 n ∧ env 6 = .int .i64 i ∧ σ = ⟨[.cells (encE e)], []⟩ ∧ nodesS e d = nodesL (e.args.drop i) d n) e.args.length ⟨0, 1, by simp, by simp, by simp, by simp, by simp, by simp, by rw [encE_eq e], by rw [nodesS_eq]; simp⟩ ?_
  rintro q env σ ⟨i, n, hi, rfl, h1, h2, h5, h6, rfl, hn⟩
  cases hv : e.args[i]? with
  | none =>
    have hc : ¬ i < e.args.length := by simp at hv; omega
    have hd0 : e.args.drop i = [] := by simp; omega
    rw [hd0, nodesL_nil] at hn
    rw [hn]
    simp [h1, h2, h5, h6, encE_eq e, hc]
  | some a =>
    obtain ⟨hc, hv'⟩ := List.getElem?_eq_some_iff.1 hv
    have hm := List.mem_of_getElem? hv
    rw [drop_cons hv, nodesL_cons] at hn
    by_cases c1 : n < 100
    · by_cases c2 : (d : Int) < 30
      · have c2' : d < 30 := by omega
        rw [if_pos ⟨c1, c2⟩] at hn
        have hw : IntKind.i64.wrap ((d : Int) + 1) = ((d + 1 : Nat) : Int) := by rw [wr (by omega) (by omega)]; omega
        simp [h1, h2, h5, h6, encE_eq e, hc, c1, c2, c2', hv', encE_eq a, hw]
        rw [← encE_eq a]
        refine vcCall.call (ih a hm (hwe.arg hm) (d + 1) (by omega)) (by simp) ?_
        rw [hw] at hn
        simp [h1, h2, h5, h6]
        exact ⟨_, by omega, i + 1, by omega, rfl, wr (by omega) (by omega), by simpa using hn⟩
      · have c2' : ¬ d < 30 := by omega
        rw [if_neg (fun h => c2 h.2)] at hn
        rw [hn]
        simp [h1, h2, h5, h6, encE_eq e, hc, c1, c2, c2']
    · rw [if_neg (fun h => c1 h.1)] at hn
      rw [hn]
      simp [h1, h2, h5, h6, encE_eq e, hc, c1]

theorem brief29 : ∀ (e : Ex), Wen e → ∀ (d : Nat), d ≤ 26 → Pure Tryz.prog GG 29 [.agg (encE e), .int .i64 d] (.bool (briefS e d)) := by
  refine Ex.ind fun e ih hwe d hd => ?_
  refine Pure.vc mixed Tryz.func29 rfl (by kernel_rfl) ?_
  have hl := hwe.fits
  have hB := briefS_eq e d
  by_cases c1 : 25 < d
  · have c1' : (25 : Int) < d := by omega
    rw [hB, if_pos (.inl c1)]
    simp only [encE_eq e]
    simp [c1']
  · have c1' : ¬ (25 : Int) < d := by omega
    have hw : IntKind.i64.wrap ((d : Int) + 1) = ((d + 1 : Nat) : Int) := by rw [wr (by omega) (by omega)]; omega
    by_cases c2 : d = 0
    · subst c2
      simp only [encE_eq e]
      simp
      rw [← encE_eq e]
      refine vcCall.call (nodes84 e hwe 0 (by omega)) (by simp) ?_
      by_cases c3 : 60 < nodesS e 0
      · rw [hB, if_pos (.inr ⟨rfl, c3⟩)]
        simp [c3]
      · rw [if_neg (fun h => by rcases h with h | h; omega; exact c3 h.2)] at hB
        simp [c3]
        rw [hB, briefL_all]
        refine vcLoop.intro (fun q env σ => ∃ i, i ≤ e.args.length ∧ q = e.args.length - i ∧ env 1 = .int .i64 0 ∧ env 2 = .ptr 0 0 ∧ env 5 = .int .i64 i ∧ σ = ⟨[.cells (encE e)], []⟩ ∧ ∀ a ∈ e.args.take i, briefS a 1 = true) e.args.length ⟨0, by simp, by simp, by simp, by simp, by simp, rfl, by simp⟩ ?_
        rintro q env σ ⟨i, hi, rfl, h1, h2, h5, rfl, hall⟩
        cases hv : e.args[i]? with
        | none =>
          have hc : ¬ i < e.args.length := by simp at hv; omega
          have ht : e.args.take i = e.args := List.take_of_length_le (by omega)
          rw [ht] at hall
          rw [List.all_eq_true.2 hall]
          simp [h1, h2, h5, encE_eq e, hc]
        | some a =>
          obtain ⟨hc, hv'⟩ := List.getElem?_eq_some_iff.1 hv
          have hm := List.mem_of_getElem? hv
          have w1 : IntKind.i64.wrap 1 = 1 := by decide
          simp [h1, h2, h5, encE_eq e, hc, hv', encE_eq a, w1]
          rw [← encE_eq a]
          refine vcCall.call (ih a hm (hwe.arg hm) 1 (by omega)) (by simp) ?_
          cases ha : briefS a 1
          · have : (e.args.all fun x => briefS x 1) = false := by
              rw [Bool.eq_false_iff]
              intro h
              rw [List.all_eq_true.1 h a hm] at ha; cases ha
            simp [this]
          · simp [h1, h2, h5]
            exact ⟨_, by omega, i + 1, by omega, rfl, wr (by omega) (by omega), take_succ_all' hv hall ha⟩
    · have c2' : ¬ (d : Int) = 0 := by omega
      rw [if_neg (fun h => by rcases h with h | h; omega; exact c2 h.1)] at hB
      simp only [encE_eq e]
      simp [c1', c2, c2']
      rw [hB, briefL_all]
      refine vcLoop.intro (fun q env σ => ∃ i, i ≤ e.args.length ∧ q = e.args.length - i ∧ env 1 = .int .i64 d ∧ env 2 = .ptr 0 0 ∧ env 5 = .int .i64 i ∧ σ = ⟨[.cells (encE e)], []⟩ ∧ ∀ a ∈ e.args.take i, briefS a (d + 1) = true) e.args.length ⟨0, by simp, by simp, by simp, by simp, by simp, by rw [encE_eq e], by simp⟩ ?_
      rintro q env σ ⟨i, hi, rfl, h1, h2, h5, rfl, hall⟩
      cases hv : e.args[i]? with
      | none =>
        have hc : ¬ i < e.args.length := by simp at hv; omega
        have ht : e.args.take i = e.args := List.take_of_length_le (by omega)
        rw [ht] at hall
        rw [List.all_eq_true.2 hall]
        simp [h1, h2, h5, encE_eq e, hc]
      | some a =>
        obtain ⟨hc, hv'⟩ := List.getElem?_eq_some_iff.1 hv
        have hm := List.mem_of_getElem? hv
        simp [h1, h2, h5, encE_eq e, hc, hv', encE_eq a, hw]
        rw [← encE_eq a]
        refine vcCall.call (ih a hm (hwe.arg hm) (d + 1) (by omega)) (by simp) ?_
        cases ha : briefS a (d + 1)
        · have : (e.args.all fun x => briefS x (d + 1)) = false := by
            rw [Bool.eq_false_iff]
            intro h
            rw [List.all_eq_true.1 h a hm] at ha; cases ha
          simp [this]
        · simp [h1, h2, h5]
          exact ⟨_, by omega, i + 1, by omega, rfl, wr (by omega) (by omega), take_succ_all' hv hall ha⟩
end Go.Proofs.YtpgcmnabljandaaGreatDoor
end

section
/-
  Walks: a problem is small; what follows from it.
-/
set_option linter.unusedVariables false
set_option linter.unusedSimpArgs false
set_option maxRecDepth 100000
namespace Go.Proofs.YtpgcmnabljandaaGreatDoor
open Go Go.Abs

theorem all_no {α : Type} {p : α → Bool} {l : List α} {a : α} (h : a ∈ l) (hp : p a = false) : l.all p = false := by
  rw [Bool.eq_false_iff]
  intro e
  rw [List.all_eq_true.1 e a h] at hp; cases hp

set_option maxHeartbeats 8000000 in
theorem small22 (p : Problem) (hw : ∀ e ∈ p.hard ++ p.soft, Wen e) : Pure Tryz.prog GG 22 [.agg (encP p)] (.bool (smallS p)) := by
  refine Pure.vc mixed Tryz.func22 rfl (by kernel_rfl) ?_
  by_cases l1 : 20 < p.vars.length
  · have x : smallS p = false := by simp [smallS, l1]
    have l1' : (20 : Int) < p.vars.length := by omega
    rw [x]; simp [l1']
  have l1' : ¬ (20 : Int) < p.vars.length := by omega
  by_cases l2 : 20 < p.hard.length
  · have x : smallS p = false := by simp [smallS, l2]
    have l2' : (20 : Int) < p.hard.length := by omega
    rw [x]; simp [l1', l2']
  have l2' : ¬ (20 : Int) < p.hard.length := by omega
  by_cases l3 : 20 < p.soft.length
  · have x : smallS p = false := by simp [smallS, l3]
    have l3' : (20 : Int) < p.soft.length := by omega
    rw [x]; simp [l1', l2', l3']
  have l3' : ¬ (20 : Int) < p.soft.length := by omega
  by_cases l4 : 20 < p.dists.length
  · have x : smallS p = false := by simp [smallS, l4]
    have l4' : (20 : Int) < p.dists.length := by omega
    rw [x]; simp [l1', l2', l3', l4']
  have l4' : ¬ (20 : Int) < p.dists.length := by omega
  by_cases l5 : 20 < p.groups.length
  · have x : smallS p = false := by simp [smallS, l5]
    have l5' : (20 : Int) < p.groups.length := by omega
    rw [x]; simp [l1', l2', l3', l4', l5']
  have l5' : ¬ (20 : Int) < p.groups.length := by omega
  have hS : smallS p = (p.hard.all (briefS · 0) && p.soft.all (briefS · 0) && p.dists.all (fun d => decide (d.weights.length ≤ 20)) && p.groups.all (fun g => decide (g.length ≤ 20))) := by
    simp only [smallS, l1, l2, l3, l4, l5, decide_false, Bool.or_false, Bool.not_false, Bool.true_and]
  simp [l1', l2', l3', l4', l5']
  refine vcLoop.intro (fun q env σ => ∃ i, i ≤ p.hard.length ∧ q = p.hard.length - i ∧ env 1 = .ptr 0 0 ∧ env 3 = .int .i64 i ∧ σ = ⟨[.cells (encP p)], []⟩ ∧ ∀ a ∈ p.hard.take i, briefS a 0 = true) p.hard.length ⟨0, by simp⟩ ?_
  rintro q env σ ⟨i, hi, rfl, h1, h3, rfl, hall⟩
  cases hv : p.hard[i]? with
  | some a =>
    obtain ⟨hc, hv'⟩ := List.getElem?_eq_some_iff.1 hv
    have hm := List.mem_of_getElem? hv
    simp [h1, h3, hc, hv', encE_eq a]
    rw [← encE_eq a]
    refine vcCall.call (brief29 a (hw a (List.mem_append_left _ hm)) 0 (by omega)) (by simp) ?_
    cases ha : briefS a 0
    · have x : smallS p = false := by rw [hS, all_no (p := (briefS · 0)) hm ha]; simp
      rw [x]; simp
    · simp [h1, h3]
      exact ⟨_, by omega, i + 1, by omega, rfl, wr (by omega) (by omega), take_succ_all' hv hall ha⟩
  | none =>
    have hc : ¬ i < p.hard.length := by simp at hv; omega
    have ht : p.hard.take i = p.hard := List.take_of_length_le (by omega)
    rw [ht] at hall
    have hA : p.hard.all (briefS · 0) = true := List.all_eq_true.2 hall
    simp [h1, h3, hc]
    refine vcLoop.intro (fun q env σ => ∃ i, i ≤ p.soft.length ∧ q = p.soft.length - i ∧ env 1 = .ptr 0 0 ∧ env 4 = .int .i64 i ∧ σ = ⟨[.cells (encP p)], []⟩ ∧ ∀ a ∈ p.soft.take i, briefS a 0 = true) p.soft.length ⟨0, by simp [h1]⟩ ?_
    clear h1 h3 hall hc ht hv hi i
    rintro q env σ ⟨i, hi, rfl, h1, h3, rfl, hall⟩
    cases hv : p.soft[i]? with
    | some a =>
      obtain ⟨hc, hv'⟩ := List.getElem?_eq_some_iff.1 hv
      have hm := List.mem_of_getElem? hv
      simp [h1, h3, hc, hv', encE_eq a]
      rw [← encE_eq a]
      refine vcCall.call (brief29 a (hw a (List.mem_append_right _ hm)) 0 (by omega)) (by simp) ?_
      cases ha : briefS a 0
      · have x : smallS p = false := by rw [hS, all_no (p := (briefS · 0)) hm ha]; simp
        rw [x]; simp
      · simp [h1, h3]
        exact ⟨_, by omega, i + 1, by omega, rfl, wr (by omega) (by omega), take_succ_all' hv hall ha⟩
    | none =>
      have hc : ¬ i < p.soft.length := by simp at hv; omega
      have ht : p.soft.take i = p.soft := List.take_of_length_le (by omega)
      rw [ht] at hall
      have hB : p.soft.all (briefS · 0) = true := List.all_eq_true.2 hall
      simp [h1, h3, hc]
      refine vcLoop.intro (fun q env σ => ∃ i, i ≤ p.dists.length ∧ q = p.dists.length - i ∧ env 1 = .ptr 0 0 ∧ env 5 = .int .i64 i ∧ σ = ⟨[.cells (encP p)], []⟩ ∧ ∀ a ∈ p.dists.take i, a.weights.length ≤ 20) p.dists.length ⟨0, by simp [h1]⟩ ?_
      clear h1 h3 hall hc ht hv hi i
      rintro q env σ ⟨i, hi, rfl, h1, h3, rfl, hall⟩
      cases hv : p.dists[i]? with
      | some a =>
        obtain ⟨hc, hv'⟩ := List.getElem?_eq_some_iff.1 hv
        have hm := List.mem_of_getElem? hv
        by_cases hlw : a.weights.length ≤ 20
        · have hlw' : ¬ (20 : Int) < a.weights.length := by omega
          simp [h1, h3, hc, hv', hlw']
          exact ⟨_, by omega, i + 1, by omega, rfl, wr (by omega) (by omega), take_succ_all' (p := fun a : Dist => a.weights.length ≤ 20) hv hall hlw⟩
        · have hlw' : (20 : Int) < a.weights.length := by omega
          have x : smallS p = false := by rw [hS, all_no (p := fun d : Dist => decide (d.weights.length ≤ 20)) hm (by simpa using hlw)]; simp
          rw [x]; simp [h1, h3, hc, hv', hlw']
      | none =>
        have hc : ¬ i < p.dists.length := by simp at hv; omega
        have ht : p.dists.take i = p.dists := List.take_of_length_le (by omega)
        rw [ht] at hall
        have hC : p.dists.all (fun d => decide (d.weights.length ≤ 20)) = true := List.all_eq_true.2 fun d hd => decide_eq_true (hall d hd)
        simp [h1, h3, hc]
        refine vcLoop.intro (fun q env σ => ∃ i, i ≤ p.groups.length ∧ q = p.groups.length - i ∧ env 1 = .ptr 0 0 ∧ env 6 = .int .i64 i ∧ σ = ⟨[.cells (encP p)], []⟩ ∧ ∀ a ∈ p.groups.take i, a.length ≤ 20) p.groups.length ⟨0, by simp [h1]⟩ ?_
        clear h1 h3 hall hc ht hv hi i
        rintro q env σ ⟨i, hi, rfl, h1, h3, rfl, hall⟩
        cases hv : p.groups[i]? with
        | some a =>
          obtain ⟨hc, hv'⟩ := List.getElem?_eq_some_iff.1 hv
          have hm := List.mem_of_getElem? hv
          by_cases hlw : a.length ≤ 20
          · have hlw' : ¬ (20 : Int) < a.length := by omega
            simp [h1, h3, hc, hv', hlw']
            exact ⟨_, by omega, i + 1, by omega, rfl, wr (by omega) (by omega), take_succ_all' (p := fun a : List Int => a.length ≤ 20) hv hall hlw⟩
          · have hlw' : (20 : Int) < a.length := by omega
            have x : smallS p = false := by rw [hS, all_no (p := fun d : List Int => decide (d.length ≤ 20)) hm (by simpa using hlw)]; simp
            rw [x]; simp [h1, h3, hc, hv', hlw']
        | none =>
          have hc : ¬ i < p.groups.length := by simp at hv; omega
          have ht : p.groups.take i = p.groups := List.take_of_length_le (by omega)
          rw [ht] at hall
          have hD : p.groups.all (fun g => decide (g.length ≤ 20)) = true := List.all_eq_true.2 fun g hg => decide_eq_true (hall g hg)
          have x : smallS p = true := by rw [hS, hA, hB, hC, hD]; rfl
          rw [x]
          simp [h1, h3, hc]

/-! ### Few nodes -/
theorem nodes_lo : ∀ (e : Ex) (d : Nat), d + hgt e ≤ 30 → (1 ≤ nodesS e d ∧ ((pre e).length ≤ 100 → ((pre e).length : Int) ≤ nodesS e d) ∧ (100 ≤ (pre e).length → 100 ≤ nodesS e d)) ∧ nodesS e d ≤ 100 * hgt e := by
  refine Ex.ind fun e ih d hd => ?_
  rw [hgt_eq] at hd ⊢
  have gen : ∀ (l : List Ex) (n : Int), (∀ a ∈ l, a ∈ e.args) → 1 ≤ n → n ≤ 100 * (hgtL e.args + 1 : Nat) →
      (1 ≤ nodesL l d n ∧ n ≤ nodesL l d n ∧ (n + (preL l).length ≤ 100 → n + (preL l).length ≤ nodesL l d n) ∧ (100 ≤ n + (preL l).length → 100 ≤ nodesL l d n)) ∧ nodesL l d n ≤ 100 * (hgtL e.args + 1 : Nat) := by
    intro l
    induction l with
    | nil => intro n _ h1 h2; simp; omega
    | cons a r ihr =>
      intro n hsub h1 h2
      have ham := hsub a (by simp)
      have hga := hgtL_mem ham
      have hga1 : 1 ≤ hgt a := by rw [hgt_eq]; omega
      rw [nodesL_cons]
      by_cases c1 : n < 100
      · have c2 : (d : Int) < 30 := by omega
        rw [if_pos ⟨c1, c2⟩]
        have hw : IntKind.i64.wrap ((d : Int) + 1) = ((d + 1 : Nat) : Int) := by rw [wr (by omega) (by omega)]; omega
        rw [hw]
        have k := ih a ham (d + 1) (by omega)
        have hub : nodesS a ((d + 1 : Nat) : Int) ≤ 100 * hgt a := k.2
        have hw2 : IntKind.i64.wrap (n + nodesS a ((d + 1 : Nat) : Int)) = n + nodesS a ((d + 1 : Nat) : Int) := wr (by omega) (by omega)
        rw [hw2]
        have kr := ihr (n + nodesS a ((d + 1 : Nat) : Int)) (fun x hx => hsub x (by simp [hx])) (by omega) (by omega)
        simp only [preL_cons, List.length_append]
        obtain ⟨⟨k1, k2, k3⟩, k4⟩ := k
        obtain ⟨⟨r1, r2, r3, r4⟩, r5⟩ := kr
        refine ⟨⟨r1, by omega, fun h => ?_, fun h => ?_⟩, r5⟩
        · have a1 := k2 (by omega)
          by_cases hb : n + nodesS a ((d + 1 : Nat) : Int) + (preL r).length ≤ 100
          · have := r3 hb; omega
          · have := r4 (by omega); omega
        · by_cases ha : (pre a).length ≤ 100
          · have a1 := k2 ha
            exact r4 (by omega)
          · have a1 := k3 (by omega)
            exact r4 (by omega)
      · rw [if_neg (fun h => c1 h.1)]
        refine ⟨⟨h1, Int.le_refl _, fun h => ?_, fun _ => by omega⟩, h2⟩
        simp only [preL_cons, List.length_append] at h ⊢
        omega
  have g := gen e.args 1 (fun _ h => h) (by omega) (by omega)
  rw [← nodesS_eq] at g
  have hl : (pre e).length = (preL e.args).length + 1 := by rw [pre_eq, List.length_cons]
  rw [hl]
  refine ⟨⟨g.1.1, fun h => ?_, fun h => ?_⟩, g.2⟩
  · have := g.1.2.2.1 (by omega); omega
  · exact g.1.2.2.2 (by omega)
theorem brief_few {e : Ex} (h : briefS e 0 = true) : (pre e).length ≤ 60 := by
  have hh := brief_hgt e 0 h
  rw [briefS_eq] at h
  split at h
  · cases h
  · rename_i hn
    have h60 : ¬ 60 < nodesS e 0 := fun h => hn (.inr ⟨rfl, h⟩)
    have k := nodes_lo e 0 (by omega)
    obtain ⟨⟨_, k2, k3⟩, _⟩ := k
    apply Classical.byContradiction
    intro hgt60
    by_cases h100 : (pre e).length ≤ 100
    · have := k2 h100
      simp only [Int.natCast_zero] at this h60
      omega
    · have := k3 (by omega)
      simp only [Int.natCast_zero] at this h60
      omega
end Go.Proofs.YtpgcmnabljandaaGreatDoor
end

section
/-
  Walks: the random variables and their bits; the law of Valid, Bits and Random.
-/
set_option linter.unusedVariables false
set_option linter.unusedSimpArgs false
set_option maxRecDepth 100000
namespace Go.Proofs.YtpgcmnabljandaaGreatDoor
open Go Go.Abs

/-- The random variables before the i-th. -/
def rndL (l : List Var) (i : Nat) : List Int := ((List.range i).filter fun (j : Nat) => rndS l (j : Int)).map fun (j : Nat) => (j : Int)
theorem rndL_succ {l : List Var} {i : Nat} : rndL l (i + 1) = if rndS l (i : Int) = true then rndL l i ++ [(i : Int)] else rndL l i := by
  unfold rndL
  rw [List.range_succ, List.filter_append]
  by_cases h : rndS l (i : Int) = true
  · simp [h]
  · simp [h]
theorem rndL_len {l : List Var} {i : Nat} : (rndL l i).length ≤ i := by
  unfold rndL
  rw [List.length_map]
  exact Nat.le_trans (List.length_filter_le _ _) (by simp)
noncomputable def randomI (p : Problem) : List Int := if validP p ≠ 0 then [] else rndL p.vars p.vars.length
/-- What an appended list of numbers looks like. -/
def outI (s : List Int) : AV := match s with
  | [] => .sl 0 [] .nil
  | a :: r => .sl 1 ((a :: r).map encInt) (.chain 0 (r.length + 1))
theorem outI_end (s : List Int) (H : List Blk) : noRef (fin H (outI s)) = true ∧ Leq (fin H (outI s)) (.sl 1 (s.map encInt) .none) := by
  cases s with
  | nil => simp [outI, Leq]
  | cons a r => simp [outI, Leq]
def outTI (s : List Int) : List (Option Nat) := match s with
  | [] => []
  | _ :: r => [some (r.length + 1)]

theorem random27 (p : Problem) (h : VP p) : Pure Tryz.prog GG 27 [.agg (encP p)] (.sl 1 ((randomI p).map encInt) .none) := by
  refine Pure.vc mixed Tryz.func27 rfl (by kernel_rfl) ?_
  have hv := valid14' p h
  have hr : ∀ i, Pure Tryz.prog GG 83 [.agg [.sl 4 (p.vars.map encVar) .none, .sl 4 (p.hard.map encE) .none, .sl 4 (p.soft.map encE) .none, .sl 2 (p.dists.map encDist) .none, .sl 1 (p.groups.map encInts) .none], .int .i64 i] (.bool (rndS p.vars i)) := fun i => by
    have hr := random GG p i
    rw [rndS_eq] at hr
    simpa only [encP] using hr
  simp only [encP] at hv
  have hv20 := h.vars20
  simp
  refine vcCall.call hv (by simp) ?_
  by_cases h0 : validP p = 0
  · have x : randomI p = rndL p.vars p.vars.length := by simp [randomI, h0]
    rw [x]
    simp [h0]
    refine vcLoop.intro (fun q env σ => ∃ i, i ≤ p.vars.length ∧ q = p.vars.length - i ∧ env 1 = .ptr 0 0 ∧ env 3 = outI (rndL p.vars i) ∧ env 10 = .int .i64 p.vars.length ∧ env 11 = .int .i64 i ∧ σ = ⟨[.cells (encP p)], outTI (rndL p.vars i)⟩) p.vars.length ⟨0, by simp [rndL, outI, outTI]⟩ ?_
    rintro q env σ ⟨i, hi, rfl, h1, h3, h10, h11, rfl⟩
    by_cases hc : i < p.vars.length
    · have hc' : (i : Int) < p.vars.length := by omega
      have hlen := rndL_len (l := p.vars) (i := i)
      have hs := rndL_succ (l := p.vars) (i := i)
      simp [h1, h3, h10, h11, hc]
      refine vcCall.call (hr i) (by simp) ?_
      cases hri : rndS p.vars (i : Int)
      · rw [hri] at hs
        simp [h1, h3, h10, h11]
        exact ⟨_, by omega, i + 1, by omega, rfl, by rw [hs]; rfl, wr (by omega) (by omega), by rw [hs]; rfl⟩
      · rw [hri, if_pos rfl] at hs
        generalize hR : rndL p.vars i = R at h3 hlen hs ⊢
        cases R with
        | nil =>
          simp only [outI] at h3
          simp [h1, h3, h10, h11, outTI, appendA, buildSliceA, rowsFill, rowsOf]
          exact ⟨_, by omega, i + 1, by omega, rfl, by rw [hs]; simp [outI], wr (by omega) (by omega), by rw [hs]; simp [outTI]⟩
        | cons a r =>
          have hb : r.length ≤ 1073741822 := by simp at hlen; omega
          simp only [outI] at h3
          simp [h1, h3, h10, h11, outTI, appendA, buildSliceA, rowsFill, rowsOf, hb]
          exact ⟨_, by omega, i + 1, by omega, rfl, by rw [hs]; simp [outI], wr (by omega) (by omega), by rw [hs]; simp [outTI]⟩
    · have hi' : i = p.vars.length := by omega
      subst hi'
      have he := outI_end (rndL p.vars p.vars.length) [.cells (encP p)]
      simp [h1, h3, h10, h11]
      simpa using he
  · have x : randomI p = [] := by simp [randomI, h0]
    rw [x]
    simp [h0, Leq]

theorem random28 (p : Problem) (h : VP p) : Pure Tryz.prog GG 28 [.agg (encP p)] (.sl 1 ((randomI p).map encInt) .none) := by
  refine Pure.vc mixed Tryz.func28 rfl (by kernel_rfl) ?_
  have hv := valid23 p h
  simp only [encP] at hv
  have hv20 := h.vars20
  simp
  refine vcCall.call hv (by simp) ?_
  by_cases h0 : validP p = 0
  · have x : randomI p = rndL p.vars p.vars.length := by simp [randomI, h0]
    rw [x]
    simp [h0]
    refine vcLoop.intro (fun q env σ => ∃ i, i ≤ p.vars.length ∧ q = p.vars.length - i ∧ env 1 = .ptr 0 0 ∧ env 3 = outI (rndL p.vars i) ∧ env 4 = .int .i64 i ∧ σ = ⟨[.cells (encP p)], outTI (rndL p.vars i)⟩) p.vars.length ⟨0, by simp [rndL, outI, outTI]⟩ ?_
    rintro q env σ ⟨i, hi, rfl, h1, h3, h4, rfl⟩
    by_cases hc : i < p.vars.length
    · have hc' : (i : Int) < p.vars.length := by omega
      have hlen := rndL_len (l := p.vars) (i := i)
      have hs := rndL_succ (l := p.vars) (i := i)
      have hrr : rndS p.vars (i : Int) = (p.vars[i].mode != 0) := by simp [rndS, List.getElem?_eq_getElem hc]
      by_cases m0 : p.vars[i].mode = 0
      · have hri : rndS p.vars (i : Int) = false := by rw [hrr]; simp [m0]
        rw [hri] at hs
        simp [h1, h3, h4, hc, m0]
        exact ⟨_, by omega, i + 1, by omega, rfl, by rw [hs]; rfl, wr (by omega) (by omega), by rw [hs]; rfl⟩
      · have hri : rndS p.vars (i : Int) = true := by rw [hrr]; simp [m0]
        rw [hri, if_pos rfl] at hs
        generalize hR : rndL p.vars i = R at h3 hlen hs ⊢
        cases R with
        | nil =>
          simp only [outI] at h3
          simp [h1, h3, h4, hc, m0, outTI, appendA, buildSliceA, rowsFill, rowsOf]
          exact ⟨_, by omega, i + 1, by omega, rfl, by rw [hs]; simp [outI], wr (by omega) (by omega), by rw [hs]; simp [outTI]⟩
        | cons a r =>
          have hb : r.length ≤ 1073741822 := by simp at hlen; omega
          simp only [outI] at h3
          simp [h1, h3, h4, hc, m0, outTI, appendA, buildSliceA, rowsFill, rowsOf, hb]
          exact ⟨_, by omega, i + 1, by omega, rfl, by rw [hs]; simp [outI], wr (by omega) (by omega), by rw [hs]; simp [outTI]⟩
    · have hi' : i = p.vars.length := by omega
      subst hi'
      have he := outI_end (rndL p.vars p.vars.length) [.cells (encP p)]
      simp [h1, h3, h4]
      simpa using he
  · have x : randomI p = [] := by simp [randomI, h0]
    rw [x]
    simp [h0, Leq]
end Go.Proofs.YtpgcmnabljandaaGreatDoor
end
