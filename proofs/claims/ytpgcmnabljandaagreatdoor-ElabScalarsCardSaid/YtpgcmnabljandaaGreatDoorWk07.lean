/- A part of the proof: texts Walk6. -/
import Derived.Test.YtpgcmnabljandaaGreatDoorWk06
import Derived.Test.YtpgcmnabljandaaGreatDoorWk01

/-
  Walks: gaps.
-/
set_option linter.unusedVariables false
set_option linter.unusedSimpArgs false
set_option maxRecDepth 100000
namespace Go.Proofs.YtpgcmnabljandaaGreatDoor
open Go Go.Abs

theorem findI_neg {α : Type} (p : α → Bool) (l : List α) : decide (findI p l 0 < 0) = !l.any p := by
  have h := findI_ge (p := p) (l := l) (i := 0) (by omega)
  cases hb : l.any p
  · rw [hb] at h
    have : ¬ 0 ≤ findI p l 0 := fun e => by have := h.1 e; cases this
    simp; omega
  · rw [hb] at h
    have := h.2 rfl
    simp; omega
theorem gapS_none {l : List Var} {name : Str} (h : elemO name = none) : gapS l name = false := by simp [gapS, h]
theorem gapS_zero {l : List Var} {name a : Str} (h : IsElem name a 0) : gapS l name = false := by simp [gapS, elemO_eq h]
theorem gapS_succ {l : List Var} {name a : Str} {i : Nat} (h : IsElem name a (i + 1)) : gapS l name = !hasV l (elemS a i) := by simp [gapS, elemO_eq h]

theorem gap126 (l : List Var) (name : Str) (hl : Fits l) (hs : Fits name) (hv : varS name = true) : Pure Tryz.prog GG 126 [.sl 4 (l.map encVar) .none, .str name] (.bool (gapS l name)) := by
  refine Pure.vc mixed Tryz.func126 rfl (by kernel_rfl) ?_
  simp
  cases hc : name.contains 91
  · refine vcCall.call (cut196n GG name hs hc) rfl ?_
    rw [gapS_none (no_elem hc)]
    simp
  · refine vcCall.call (cut196 GG name hs hc) rfl ?_
    simp
    have hn : nameS name = false := by
      cases e : nameS name
      · rfl
      · exact absurd (nameS_no91 e 91 (by simpa using hc)) (by simp)
    obtain ⟨a, i, hi⟩ : ∃ a i, IsElem name a i := by
      simp only [varS, hn, Bool.false_or, Option.isSome_iff_exists] at hv
      obtain ⟨p, hp⟩ := hv
      exact ⟨p.1, p.2, elemO_some.1 hp⟩
    have hh := hi.has.2.1
    have hal : a.length ≤ 1000 := by have := name_len hi.2.1; omega
    rw [hh]
    refine vcLoop.intro (fun n env σ => ∃ j : Nat, 1 ≤ j ∧ j ≤ 8 ∧ n = 8 - j ∧ env 0 = .sl 4 (l.map encVar) .none ∧ env 1 = .str name ∧ env 5 = .str a ∧ env 8 = .int .i64 j ∧ σ = ⟨[], []⟩ ∧ (i = 0 ∨ j ≤ i)) 7 ⟨1, by simp, by simp, by simp, by simp, by simp, by simp, by simp, rfl, by omega⟩ ?_
    rintro n env σ ⟨j, hj1, hj8, rfl, h0, h1, h5, h8, rfl, hj⟩
    by_cases hlt : j < 8
    · have hlt' : (j : Int) < 8 := by omega
      simp [h0, h1, h5, h8, hlt']
      refine vcCall.call (element181 a j hlt hal) rfl ?_
      by_cases he : j = i
      · subst he
        rw [← hi.2.2]
        obtain ⟨k, rfl⟩ : ∃ k, j = k + 1 := ⟨j - 1, by omega⟩
        have hw : IntKind.i64.wrap (((k + 1 : Nat) : Int) - 1) = k := by rw [wr (by omega) (by omega)]; omega
        have hw' : IntKind.i64.wrap (k : Int) = k := wr (by omega) (by omega)
        have hw2 : IntKind.i64.wrap ((k : Int) + 1 - 1) = k := by rw [wr (by omega) (by omega)]; omega
        simp [h0, h1, h5, h8, hw, hw', hw2]
        refine vcCall.call (element181 a k (by omega) hal) rfl ?_
        refine vcCall.call (index GG l (elemS a k) hl) (by simp) ?_
        rw [gapS_succ hi]
        simp [findI_neg, hasV]
      · have hne : ¬ name = elemS a j := by
          intro e
          exact he (elemS_inj hlt hi.1 (e.symm.trans hi.2.2)).2
        simp [h0, h1, h5, h8, hne]
        refine ⟨_, by omega, j + 1, by omega, by omega, rfl, wr (by omega) (by omega), by omega⟩
    · have hlt' : ¬ (j : Int) < 8 := by omega
      have hi0 : i = 0 := by have := hi.1; omega
      subst hi0
      rw [gapS_zero hi]
      simp [h0, h1, h5, h8, hlt']

theorem vars125 (l : List Var) (v : Var) (hl : Fits l) (hs : Fits v.name) (hv : varS v.name = true) : Pure Tryz.prog GG 125 [.agg (encVar v), .rptr [.sl 4 (l.map encVar) .none]] (.bool (gapS l v.name)) := by
  refine Pure.vc mixed Tryz.func125 rfl (by kernel_rfl) ?_
  simp
  refine vcCall.call (gap126 l v.name hl hs hv) (by simp) ?_
  simp

theorem shl1 {w : Int} (h1 : 1 ≤ w) (h2 : w ≤ 8) : IntKind.i64.wrap (2 ^ (min w.toNat 64)) = 2 ^ w.toNat := by
  obtain ⟨k, rfl⟩ := Int.eq_ofNat_of_zero_le (show 0 ≤ w by omega)
  have : k = 1 ∨ k = 2 ∨ k = 3 ∨ k = 4 ∨ k = 5 ∨ k = 6 ∨ k = 7 ∨ k = 8 := by omega
  rcases this with rfl | rfl | rfl | rfl | rfl | rfl | rfl | rfl <;> decide

set_option maxHeartbeats 4000000 in
theorem variable145 (v : Var) (hs : Fits v.name) : Pure Tryz.prog GG 145 [.agg (encVar v)] (.int .i64 (varE v)) := by
  refine Pure.vc mixed Tryz.func145 rfl (by kernel_rfl) ?_
  simp
  refine vcCall.call (named220 v.name hs) rfl ?_
  cases hn : varS v.name
  · simp [varE, hn]
  · by_cases c1 : v.width < 1
    · have e : varE v = 1 := by simp [varE, hn, c1]
      simp [e, c1]
    · by_cases c2 : 8 < v.width
      · have e : varE v = 1 := by simp [varE, hn, c2]
        simp [e, c1, c2]
      · by_cases c3 : v.mode < 0
        · have e : varE v = 1 := by simp [varE, hn, c3]
          simp [e, c1, c2, c3]
        · by_cases c4 : 2 < v.mode
          · have e : varE v = 1 := by simp [varE, hn, c4]
            simp [e, c1, c2, c3, c4]
          · by_cases c5 : v.value < 0
            · have e : varE v = 1 := by simp [varE, hn, c5]
              simp [e, c1, c2, c3, c4, c5]
            · have c6 : ¬ v.width < 0 := by omega
              have hsh := shl1 (w := v.width) (by omega) (by omega)
              by_cases m0 : v.mode = 0
              · by_cases c7 : (2 : Int) ^ v.width.toNat ≤ v.value
                · have e : varE v = 1 := by simp [varE, hn, c7]
                  simp [e, c1, c2, c3, c4, c5, c6, m0, hsh, c7, IntKind.bits]
                · have e : varE v = 0 := by simp [varE, hn, c1, c2, c3, c4, c5, c7, m0]
                  simp [e, c1, c2, c3, c4, c5, c6, m0, hsh, c7, IntKind.bits]
              · by_cases c8 : v.value = 0
                · have c9 : ¬ (2 : Int) ^ v.width.toNat ≤ 0 := by
                    have : (0 : Int) < 2 ^ v.width.toNat := Int.pow_pos (by omega)
                    omega
                  have e : varE v = 0 := by simp [varE, hn, c1, c2, c3, c4, c8, c9]
                  simp [e, c1, c2, c3, c4, c5, c6, m0, hsh, c8, c9, IntKind.bits]
                · have e : varE v = 1 := by simp [varE, hn, m0, c8]
                  simp [e, c1, c2, c3, c4, c5, c6, m0, hsh, c8, IntKind.bits]
end Go.Proofs.YtpgcmnabljandaaGreatDoor
