/- A part of the proof: texts Walk5b Walk5c. -/
import Derived.Test.YtpgcmnabljandaaGreatDoorWk05

section
/-
  Walks: names of variables.
-/
set_option linter.unusedVariables false
set_option linter.unusedSimpArgs false
set_option maxRecDepth 100000
namespace Go.Proofs.YtpgcmnabljandaaGreatDoor
open Go Go.Abs
theorem last3 {s : Str} (h : 3 ≤ s.length) : ∃ t x y z, s = t ++ [x, y, z] := by
  refine ⟨s.take (s.length - 3), s[s.length - 3]'(by omega), s[s.length - 2]'(by omega), s[s.length - 1]'(by omega), ?_⟩
  have e : s.drop (s.length - 3) = [s[s.length - 3]'(by omega), s[s.length - 2]'(by omega), s[s.length - 1]'(by omega)] := by
    rw [List.drop_eq_getElem_cons (by omega), List.drop_eq_getElem_cons (by omega), List.drop_eq_getElem_cons (by omega), List.drop_eq_nil_of_le (by omega)]
    simp only [List.cons.injEq, and_true, true_and]
    exact ⟨by congr 1; omega, by congr 1; omega⟩
  rw [← e, List.take_append_drop]
theorem elem_short {s : Str} (h : s.length < 4) : elemO s = none := by
  rw [elemO_none]
  intro a i hi
  have := nameS_ne hi.2.1
  have := List.length_pos_iff.2 this
  rw [hi.2.2] at h
  simp at h; omega
set_option maxHeartbeats 2000000 in
theorem split376 (s : Str) (hs : Fits s) : Pure Tryz.prog GG 376 [.str s] (elemR s) := by
  refine Pure.vc mixed Tryz.func376 rfl (by kernel_rfl) ?_
  by_cases h4 : s.length < 4
  · have h4' : (s.length : Int) < 4 := by omega
    rw [elemR_no (elem_short h4)]
    simp [h4']
  · obtain ⟨t, x, y, z, rfl⟩ := last3 (s := s) (by omega)
    have hl : (t ++ [x, y, z]).length = t.length + 3 := by simp
    rw [Fits, hl] at hs
    rw [hl] at h4
    have no : ¬ (x = 91 ∧ z = 93 ∧ 48 ≤ y.toNat ∧ y.toNat < 56 ∧ nameS t = true) → elemR (t ++ [x, y, z]) = .tup [.str [], .int .i64 0, .bool false] := by
      intro h
      refine elemR_no (elemO_none.2 fun a i hi => h ?_)
      obtain ⟨e1, e2, e3⟩ := elem_last hi
      obtain ⟨e4, e5⟩ := List.append_inj' e1 rfl
      cases e5
      subst e4
      exact ⟨rfl, rfl, by omega, by omega, hi.2.1⟩
    have h4' : ¬ (t.length : Int) + 3 < 4 := by omega
    have w1 : IntKind.i64.wrap ((t.length : Int) + 3 - 1) = ((t.length + 2 : Nat) : Int) := by rw [wr (by omega) (by omega)]; omega
    have w2 : IntKind.i64.wrap ((t.length : Int) + 3 - 2) = ((t.length + 1 : Nat) : Int) := by rw [wr (by omega) (by omega)]; omega
    have w3 : IntKind.i64.wrap (t.length : Int) = t.length := wr (by omega) (by omega)
    have w4 : IntKind.i64.wrap ((t.length : Int) + 3 - 3) = t.length := by rw [wr (by omega) (by omega)]; omega
    have g1 : (t ++ [x, y, z])[t.length + 2]? = some z := by simp
    have g2 : (t ++ [x, y, z])[t.length + 1]? = some y := by simp
    have g3 : (t ++ [x, y, z])[t.length]? = some x := by simp
    have g4 : (t ++ [x, y, z]).take t.length = t := by simp
    have n1 : ((t.length : Int) + 2).toNat = t.length + 2 := by omega
    have n2 : ((t.length : Int) + 1).toNat = t.length + 1 := by omega
    have p1 : (0 : Int) ≤ (t.length : Int) + 2 := by omega
    have p2 : (0 : Int) ≤ (t.length : Int) + 1 := by omega
    have hle : t.length ≤ t.length + 3 := by omega
    have hn210 := isName210 t (show t.length < _ by omega)
    have yes : x = 91 → z = 93 → 48 ≤ y.toNat → y.toNat < 56 → nameS t = true → elemR (t ++ [x, y, z]) = .tup [.str t, .int .i64 ((y.toNat : Int) - 48), .bool true] := by
      rintro rfl rfl h1 h2 h3
      rw [elemR_yes (isElem_of h3 h1 h2 rfl)]
      congr 4
      omega
    generalize hS : t ++ [x, y, z] = S at *
    generalize t.length = T at *
    have q1 : S[T + 2]'(by omega) = z := (List.getElem?_eq_some_iff.1 g1).2
    have q2 : S[T + 1]'(by omega) = y := (List.getElem?_eq_some_iff.1 g2).2
    have q3 : S[T]'(by omega) = x := (List.getElem?_eq_some_iff.1 g3).2
    have le3 : (T : Int) ≤ (T : Int) + 3 := by omega
    by_cases hz : z = 93
    · by_cases hx : x = 91
      · subst hx hz
        have wy1 : IntKind.i64.wrap (y.toNat : Int) = y.toNat := by have := y.toNat_lt; exact wr (by omega) (by omega)
        have wy2 : IntKind.i64.wrap ((y.toNat : Int) - 48) = y.toNat - 48 := by have := y.toNat_lt; exact wr (by omega) (by omega)
        by_cases h1 : 48 ≤ y.toNat
        · by_cases h2 : y.toNat < 56
          · have h1' : ¬ (y.toNat : Int) - 48 < 0 := by omega
            have h2' : ¬ (8 : Int) ≤ (y.toNat : Int) - 48 := by omega
            simp [hl, h4', w1, w2, w3, w4, q1, q2, q3, le3, g4, n1, n2, p1, p2, hle, convA, wy1, wy2, h1', h2', sliceA, boundA]
            refine vcCall.call hn210 rfl ?_
            cases hnt : nameS t
            · rw [no (fun h => by rw [hnt] at h; cases h.2.2.2.2)]
              simp
            · rw [yes rfl rfl h1 h2 hnt]
              simp
          · rw [no (fun h => h2 h.2.2.2.1)]
            have h1' : ¬ (y.toNat : Int) - 48 < 0 := by omega
            have h2' : (8 : Int) ≤ (y.toNat : Int) - 48 := by omega
            simp [hl, h4', w1, w2, w3, w4, q1, q2, q3, le3, g4, n1, n2, p1, p2, hle, convA, wy1, wy2, h1', h2', sliceA, boundA]
        · rw [no (fun h => h1 h.2.2.1)]
          have h1' : (y.toNat : Int) - 48 < 0 := by omega
          simp [hl, h4', w1, w2, w3, w4, q1, q2, q3, le3, g4, n1, n2, p1, p2, hle, convA, wy1, wy2, h1', sliceA, boundA]
      · have hx' : ¬ (x.toNat : Int) = 91 := by
          intro e
          exact hx (UInt8.toNat_inj.1 (by simp; omega))
        rw [no (fun h => hx h.1)]
        subst hz
        simp [hl, h4', w1, w2, w3, w4, q1, q2, q3, le3, g4, n1, n2, p1, p2, hx']
    · have hz' : ¬ (z.toNat : Int) = 93 := by
        intro e
        exact hz (UInt8.toNat_inj.1 (by simp; omega))
      rw [no (fun h => hz h.2.1)]
      simp [hl, h4', w1, w2, w3, w4, q1, q2, q3, le3, g4, n1, n2, p1, p2, hz']
end Go.Proofs.YtpgcmnabljandaaGreatDoor
end

section
/-
  Walks: names of variables.
-/
set_option linter.unusedVariables false
set_option linter.unusedSimpArgs false
set_option maxRecDepth 100000
namespace Go.Proofs.YtpgcmnabljandaaGreatDoor
open Go Go.Abs
theorem isVar347 (s : Str) (hs : Fits s) : Pure Tryz.prog GG 347 [.str s] (.bool (varS s)) := by
  refine Pure.vc mixed Tryz.func347 rfl (by kernel_rfl) ?_
  simp
  cases he : elemO s with
  | some p =>
    obtain ⟨a, i⟩ := p
    refine vcCall.call (by have := split376 s hs; rw [elemR_yes (elemO_some.1 he)] at this; exact this) rfl ?_
    simp [varS, he]
  | none =>
    refine vcCall.call (by have := split376 s hs; rw [elemR_no he] at this; exact this) rfl ?_
    simp
    refine vcCall.call (isName210 s hs) rfl ?_
    simp [varS, he]

theorem named220 (s : Str) (hs : Fits s) : Pure Tryz.prog GG 220 [.str s] (.bool (varS s)) := by
  refine Pure.vc mixed Tryz.func220 rfl (by kernel_rfl) ?_
  simp
  refine vcCall.call (isName210 s hs) rfl ?_
  cases hn : nameS s
  · simp
    refine vcLoop.intro (fun n env σ => ∃ k : Nat, 1 ≤ k ∧ k ≤ s.length + 1 ∧ n = s.length + 1 - k ∧ env 0 = .str s ∧ env 3 = .int .i64 k ∧ σ = ⟨[], []⟩ ∧ ∀ a i, IsElem s a i → ¬ a.length < k) s.length ⟨1, by simp, by simp, by simp, by simp, by simp, rfl, fun a i hi => by have := List.length_pos_iff.2 (nameS_ne hi.2.1); omega⟩ ?_
    rintro n env σ ⟨k, hk1, hk, rfl, h0, h3, rfl, hall⟩
    by_cases hlt : k < s.length
    · have hlt' : (k : Int) < s.length := by omega
      have hle' : (k : Int) ≤ s.length := by omega
      have hle : k ≤ s.length := by omega
      have step : (∀ a i, IsElem s a i → a.length ≠ k) → ∀ a i, IsElem s a i → ¬ a.length < k + 1 := fun h a i hi hl => by
        rcases Nat.lt_succ_iff_lt_or_eq.1 hl with h1 | h1
        · exact hall a i hi h1
        · exact h a i hi h1
      have at91 : ∀ a i, IsElem s a i → a.length = k → s[k] = 91 ∧ s.take k = a := fun a i hi hl => by
        obtain ⟨_, _, rfl⟩ := hi
        subst hl
        simp [elemS]
      have hw : IntKind.i64.wrap ((k : Int) + 1) = ((k + 1 : Nat) : Int) := by rw [wr (by omega) (by omega)]; omega
      by_cases hc : s[k] = 91
      · simp [h0, h3, hlt, hc, sliceA, boundA, hle, hle']
        refine vcCall.call (isName210 (s.take k) (by simp; omega)) rfl ?_
        cases ht : nameS (s.take k)
        · simp [h0, h3, hw]
          refine ⟨_, by omega, k + 1, by omega, by omega, rfl, rfl, fun a i hi => Nat.not_lt.1 (step (fun a i hi hl => ?_) a i hi)⟩
          have := (at91 a i hi hl).2
          rw [this, hi.2.1] at ht; cases ht
        · simp [h0, h3]
          refine vcLoop.intro (fun n env σ => ∃ i : Nat, i ≤ 8 ∧ n = 8 - i ∧ env 0 = .str s ∧ env 3 = .int .i64 k ∧ env 4 = .int .i64 i ∧ σ = ⟨[], []⟩ ∧ ∀ j, j < i → s ≠ elemS (s.take k) j) 8 ⟨0, by simp [h0, h3]⟩ ?_
          rintro n env σ ⟨i, hi, rfl, h0, h3, h4, rfl, hin⟩
          by_cases h8 : i < 8
          · have h8' : (i : Int) < 8 := by omega
            simp [h0, h3, h4, h8', sliceA, boundA, hle, hle']
            refine vcCall.call (element221 (s.take k) i h8 (by have := name_len ht; omega)) rfl ?_
            by_cases he : s = elemS (s.take k) i
            · have hv : varS s = true := by simp [varS, elemO_eq (show IsElem s (s.take k) i from ⟨h8, ht, he⟩)]
              rw [← he]
              simp [h0, hv]
            · simp [h0, h3, h4, he]
              refine ⟨_, by omega, i + 1, by omega, rfl, wr (by omega) (by omega), ?_⟩
              intro j hj e
              rcases Nat.lt_succ_iff_lt_or_eq.1 hj with hj | rfl
              · exact hin j hj e
              · exact he e
          · have h8' : ¬ (i : Int) < 8 := by omega
            simp [h0, h3, h4, h8', hw]
            refine ⟨_, by omega, k + 1, by omega, by omega, rfl, rfl, fun a i hi => Nat.not_lt.1 (step (fun a i' hi' hl => ?_) a i hi)⟩
            have := (at91 a i' hi' hl).2
            exact hin i' (by have := hi'.1; omega) (by rw [this]; exact hi'.2.2)
      · have hc' : ¬ (s[k].toNat : Int) = 91 := by
          intro e
          exact hc (UInt8.toNat_inj.1 (by simp; omega))
        simp [h0, h3, hlt, hc', hw]
        refine ⟨_, by omega, k + 1, by omega, by omega, rfl, rfl, fun a i hi => Nat.not_lt.1 (step (fun a i hi hl => ?_) a i hi)⟩
        exact hc (at91 a i hi hl).1
    · have hlt' : ¬ (k : Int) < s.length := by omega
      have hv : varS s = false := by
        have : elemO s = none := elemO_none.2 fun a i hi => hall a i hi (by rw [hi.2.2] at hlt; simp at hlt; omega)
        simp [varS, hn, this]
      simp [h0, h3, hlt, hv]
  · simp [varS, hn]
end Go.Proofs.YtpgcmnabljandaaGreatDoor
end
