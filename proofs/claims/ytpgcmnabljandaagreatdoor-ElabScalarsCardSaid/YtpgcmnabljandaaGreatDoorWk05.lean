/- A part of the proof: texts Walk5. -/
import Derived.Test.YtpgcmnabljandaaGreatDoorWk04

/-
  Walks: names of variables.
-/
set_option linter.unusedVariables false
set_option linter.unusedSimpArgs false
set_option maxRecDepth 100000
namespace Go.Proofs.YtpgcmnabljandaaGreatDoor
open Go Go.Abs

/-- What an element's name is taken apart to. -/
noncomputable def elemR (s : Str) : AV := match elemO s with
  | some (a, i) => .tup [.str a, .int .i64 i, .bool true]
  | none => .tup [.str [], .int .i64 0, .bool false]
theorem elemR_yes {s a : Str} {i : Nat} (h : IsElem s a i) : elemR s = .tup [.str a, .int .i64 i, .bool true] := by simp [elemR, elemO_eq h]
theorem elemR_no {s : Str} (h : elemO s = none) : elemR s = .tup [.str [], .int .i64 0, .bool false] := by simp [elemR, h]
theorem u8_of {c : UInt8} (h1 : 48 ≤ c.toNat) (h2 : c.toNat < 56) : UInt8.ofNat (48 + (c.toNat - 48)) = c := by
  have : 48 + (c.toNat - 48) = c.toNat := by omega
  rw [this]; simp
theorem isElem_of {s t : Str} {c : UInt8} (hn : nameS t = true) (h1 : 48 ≤ c.toNat) (h2 : c.toNat < 56) (h : s = t ++ [91, c, 93]) : IsElem s t (c.toNat - 48) :=
  ⟨by omega, hn, by rw [h, elemS, u8_of h1 h2]⟩
theorem elem_last {s a : Str} {i : Nat} (h : IsElem s a i) : s = a ++ [91, UInt8.ofNat (48 + i), 93] ∧ (UInt8.ofNat (48 + i)).toNat = 48 + i ∧ i < 8 := by
  refine ⟨h.2.2, ?_, h.1⟩
  have := h.1
  simp; omega

theorem element290 (s : Str) (hs : Fits s) : Pure Tryz.prog GG 290 [.str s] (elemR s) := by
  refine Pure.vc mixed Tryz.func290 rfl (by kernel_rfl) ?_
  simp
  cases hc : s.contains 91
  · refine vcCall.call (cut196n GG s hs hc) rfl ?_
    rw [elemR_no (no_elem hc)]
    simp
  · refine vcCall.call (cut196 GG s hs hc) rfl ?_
    simp
    refine vcCall.call (isName168 (headS s)) rfl ?_
    cases hn : nameS (headS s)
    · rw [elemR_no (elemB_no' hn)]
      simp
    · have no : (∀ c, tailS s = [c, 93] → ¬ (48 ≤ c.toNat ∧ c.toNat < 56)) → elemR s = .tup [.str [], .int .i64 0, .bool false] := by
        intro h
        refine elemR_no (elemO_none.2 fun a i hi => ?_)
        obtain ⟨e1, e2, e3⟩ := elem_last hi
        exact h _ hi.has.2.2 ⟨by omega, by omega⟩
      cases ht : tailS s with
      | nil => rw [no (by simp [ht])]; simp
      | cons c r1 =>
        cases r1 with
        | nil => rw [no (by simp [ht])]; simp
        | cons d r2 =>
          cases r2 with
          | cons e r3 =>
            have hl : ¬ ((r3.length : Int) + 1 + 1 + 1 = 2) := by omega
            rw [no (by simp [ht])]
            simp [hl]
          | nil =>
            by_cases hd : d = 93
            · subst hd
              by_cases h1 : 48 ≤ c.toNat
              · have h1' : ¬ (c.toNat : Int) < 48 := by omega
                by_cases h2 : c.toNat < 56
                · have h2' : ¬ (56 : Int) ≤ c.toNat := by omega
                  have e : IsElem s (headS s) (c.toNat - 48) := isElem_of hn h1 h2 (by have := cut_eq hc; rw [ht] at this; exact this)
                  rw [elemR_yes e]
                  have w1 : IntKind.u8.wrap ((c.toNat : Int) - 48) = c.toNat - 48 := by simp [IntKind.wrap, IntKind.bits, IntKind.signed]; omega
                  have w2 : IntKind.i64.wrap ((c.toNat : Int) - 48) = c.toNat - 48 := wr (by omega) (by omega)
                  have w3 : ((c.toNat : Int) - 48) = ((c.toNat - 48 : Nat) : Int) := by omega
                  simp [h1', h2', convA, w1, w2]
                  omega
                · have h2' : (56 : Int) ≤ c.toNat := by omega
                  rw [no (fun c' e => by rw [ht] at e; cases e; omega)]
                  simp [h1', h2']
              · have h1' : (c.toNat : Int) < 48 := by omega
                rw [no (fun c' e => by rw [ht] at e; cases e; omega)]
                simp [h1']
            · have hd' : ¬ (d.toNat : Int) = 93 := by
                intro e
                exact hd (UInt8.toNat_inj.1 (by simp; omega))
              rw [no (fun c' e => by rw [ht] at e; cases e; exact absurd rfl hd)]
              simp [hd']

theorem isVar229 (s : Str) (hs : Fits s) : Pure Tryz.prog GG 229 [.str s] (.bool (varS s)) := by
  refine Pure.vc mixed Tryz.func229 rfl (by kernel_rfl) ?_
  simp
  cases he : elemO s with
  | some p =>
    obtain ⟨a, i⟩ := p
    refine vcCall.call (by have := element290 s hs; rw [elemR_yes (elemO_some.1 he)] at this; exact this) rfl ?_
    simp [varS, he]
  | none =>
    refine vcCall.call (by have := element290 s hs; rw [elemR_no he] at this; exact this) rfl ?_
    simp
    refine vcCall.call (isName168 s) rfl ?_
    simp [varS, he]

end Go.Proofs.YtpgcmnabljandaaGreatDoor
