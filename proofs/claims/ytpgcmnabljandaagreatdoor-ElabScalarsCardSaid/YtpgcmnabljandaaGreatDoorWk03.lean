/- A part of the proof: texts Walk2a Walk2b. -/
import Derived.Test.YtpgcmnabljandaaGreatDoorAb17
import Derived.Test.YtpgcmnabljandaaGreatDoorWk01
import Derived.Laws.RangeAny

section
/-
  Walks: names.
-/
set_option linter.unusedVariables false
set_option linter.unusedSimpArgs false
set_option maxRecDepth 100000
namespace Go.Proofs.YtpgcmnabljandaaGreatDoor
open Go Go.Abs
section
variable (G : Nat → AV)

theorem lower305 (n : Int) : Pure Tryz.prog G 305 [.int .i32 n] (.bool (lowerI n)) := by
  refine Pure.vc mixed Tryz.func305 rfl (by kernel_rfl) ?_
  by_cases h1 : 97 ≤ n <;> by_cases h2 : n ≤ 122 <;> simp [lowerI, h1, h2]
theorem digit357 (n : Int) : Pure Tryz.prog G 357 [.int .i32 n] (.bool (digitI n)) := by
  refine Pure.vc mixed Tryz.func357 rfl (by kernel_rfl) ?_
  by_cases h1 : 48 ≤ n <;> by_cases h2 : n ≤ 57 <;> simp [digitI, h1, h2]
theorem small275 (n : Int) : Pure Tryz.prog G 275 [.int .u8 n] (.bool (lowerI n)) := by
  refine Pure.vc mixed Tryz.func275 rfl (by kernel_rfl) ?_
  by_cases h1 : 97 ≤ n <;> by_cases h2 : n ≤ 122 <;> simp [lowerI, h1, h2]
theorem digit327 (n : Int) : Pure Tryz.prog G 327 [.int .u8 n] (.bool (digitI n)) := by
  refine Pure.vc mixed Tryz.func327 rfl (by kernel_rfl) ?_
  by_cases h1 : 48 ≤ n <;> by_cases h2 : n ≤ 57 <;> simp [digitI, h1, h2]
theorem follows306 (n : Int) : Pure Tryz.prog G 306 [.int .i32 n] (.bool (innerI n)) := by
  refine Pure.vc mixed Tryz.func306 rfl (by kernel_rfl) ?_
  simp
  refine vcCall.call (lower305 G n) rfl ?_
  cases hl : lowerI n
  · simp
    refine vcCall.call (digit357 G n) rfl ?_
    cases hd : digitI n
    · by_cases h1 : 65 ≤ n <;> by_cases h2 : n ≤ 90 <;> by_cases h3 : n = 95 <;> simp [innerI, hl, hd, h1, h2, h3]
    · simp [innerI, hl, hd]
  · simp [innerI, hl]
theorem inner277 (n : Int) : Pure Tryz.prog G 277 [.int .u8 n] (.bool (innerI n)) := by
  refine Pure.vc mixed Tryz.func277 rfl (by kernel_rfl) ?_
  simp
  refine vcCall.call (small275 G n) rfl ?_
  cases hl : lowerI n
  · simp
    refine vcCall.call (digit327 G n) rfl ?_
    cases hd : digitI n
    · by_cases h1 : 65 ≤ n <;> by_cases h2 : n ≤ 90 <;> by_cases h3 : n = 95 <;> simp [innerI, hl, hd, h1, h2, h3]
    · simp [innerI, hl, hd]
  · simp [innerI, hl]

end
end Go.Proofs.YtpgcmnabljandaaGreatDoor
end

section
/-
  Walks: names.
-/
set_option linter.unusedVariables false
set_option linter.unusedSimpArgs false
set_option maxRecDepth 100000
namespace Go.Proofs.YtpgcmnabljandaaGreatDoor
open Go Go.Abs
section
variable (G : Nat → AV)
theorem dec_lo {s : Str} {pos : Nat} (h : pos < s.length) (hl : (s[pos]).toNat < 128) : Utf8.decode ⟨s.toArray⟩ pos = ((s[pos]).toNat, 1) := by
  have := Go.decode_ascii ⟨s.toArray⟩ pos (by simpa [ByteArray.size] using h) hl
  exact this
theorem dec_hi {s : Str} {pos : Nat} (h : pos < s.length) (hl : 128 ≤ (s[pos]).toNat) : 128 ≤ (Utf8.decode ⟨s.toArray⟩ pos).1 := by
  have := Go.decode_high ⟨s.toArray⟩ pos (by simpa [ByteArray.size] using h) hl
  exact this.1
theorem innerI_hi {n : Int} (h : 128 ≤ n) : innerI n = false := by
  simp [innerI, lowerI, digitI]; omega
theorem wordS_bad {s : Str} {c : UInt8} (h : c ∈ s) (hc : innerB c = false) : wordS s = false := by
  cases s with
  | nil => cases h
  | cons a r =>
    have : (a :: r).all innerB = false := by
      rw [Bool.eq_false_iff]
      intro e
      rw [List.all_eq_true.1 e c h] at hc; cases hc
    simp only [wordS, this, Bool.and_false]
theorem wordS_head {c : UInt8} {r : Str} (h : lowerI c.toNat = false) : wordS (c :: r) = false := by simp [wordS, h]

theorem word240 (s : Str) : Pure Tryz.prog G 240 [.str s] (.bool (wordS s)) := by
  refine Pure.vc mixed Tryz.func240 rfl (by kernel_rfl) ?_
  simp
  refine vcLoop.intro (fun n env σ => ∃ pos, pos ≤ s.length ∧ n = s.length - pos ∧ env 0 = .str s ∧ env 6 = .iter 0 ∧ σ = ⟨[.siter s pos], []⟩ ∧ (∀ c ∈ s.take pos, innerB c = true) ∧ (0 < pos → ∀ c r, s = c :: r → lowerI c.toNat = true)) s.length ⟨0, by simp⟩ ?_
  rintro n env σ ⟨pos, hp, rfl, h0, h6, rfl, hall, hlow⟩
  by_cases hlt : pos < s.length
  · have hmem : s[pos] ∈ s := List.getElem_mem hlt
    by_cases hc : (s[pos]).toNat < 128
    · have hd := dec_lo hlt hc
      have htake : s.take (pos + 1) = s.take pos ++ [s[pos]] := by rw [List.take_add_one, List.getElem?_eq_getElem hlt]; rfl
      have more : innerB s[pos] = true → ∀ c ∈ s.take (pos + 1), innerB c = true := by
        intro hi c hcm
        rw [htake, List.mem_append] at hcm
        rcases hcm with hcm | hcm
        · exact hall c hcm
        · rw [List.mem_singleton.1 hcm]; exact hi
      rcases Nat.eq_zero_or_pos pos with rfl | hpos
      · simp [h0, h6, nextA, hlt, hd]
        refine vcCall.call (lower305 G _) rfl ?_
        cases hl : lowerI (s[0].toNat : Int)
        · cases s with
          | nil => simp at hlt
          | cons c r => simpa using wordS_head hl
        · simp
          refine vcCall.call (follows306 G _) rfl ?_
          cases hi : innerI (s[0].toNat : Int)
          · simpa using wordS_bad hmem hi
          · simp [h0, h6]
            refine ⟨_, by omega, 1, by omega, rfl, rfl, more hi, fun _ c r e => by subst e; exact hl⟩
      · have hne : ¬ pos = 0 := by omega
        simp [h0, h6, nextA, hlt, hd, hne]
        refine vcCall.call (follows306 G _) rfl ?_
        cases hi : innerI (s[pos].toNat : Int)
        · simpa using wordS_bad hmem hi
        · simp [h0, h6]
          refine ⟨_, by omega, pos + 1, by omega, rfl, rfl, more hi, fun _ => hlow hpos⟩
    · have hd := dec_hi hlt (by omega)
      have hi := innerI_hi (n := ((Utf8.decode ⟨s.toArray⟩ pos).1 : Int)) (by omega)
      have hl : lowerI ((Utf8.decode ⟨s.toArray⟩ pos).1 : Int) = false := by
        simp only [innerI, Bool.or_eq_false_iff] at hi; exact hi.1.1.1
      have hb := wordS_bad hmem (innerI_hi (n := (s[pos].toNat : Int)) (by omega))
      rcases Nat.eq_zero_or_pos pos with rfl | hpos
      · simp [h0, h6, nextA, hlt]
        refine vcCall.call (lower305 G _) rfl ?_
        simpa [hl] using hb
      · have hne : ¬ pos = 0 := by omega
        simp [h0, h6, nextA, hlt, hne]
        refine vcCall.call (follows306 G _) rfl ?_
        simpa [hi] using hb
  · have he : pos = s.length := by omega
    subst he
    cases s with
    | nil => simp [h0, h6, nextA, wordS]
    | cons c r =>
      have h1 : wordS (c :: r) = true := by
        simp only [wordS, Bool.and_eq_true]
        exact ⟨hlow (by simp) c r rfl, List.all_eq_true.2 fun x hx => hall x (by simpa using hx)⟩
      simp [h0, h6, nextA, h1]
end
end Go.Proofs.YtpgcmnabljandaaGreatDoor
end
