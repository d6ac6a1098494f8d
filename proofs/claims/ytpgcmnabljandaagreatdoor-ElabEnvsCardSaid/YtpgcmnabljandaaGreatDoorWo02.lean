/- A part of the proof: texts Works3. -/
import Derived.Test.YtpgcmnabljandaaGreatDoorWo01

/-
  works() is true, by the kernel.
-/
set_option linter.unusedSimpArgs false
set_option linter.unusedVariables false
set_option maxRecDepth 1000000
namespace Go.Proofs.YtpgcmnabljandaaGreatDoor
open Go Go.Abs
def K3 (g : FuncId) : Bool := Nat.beq g 13 || (Nat.beq g 45 || (Nat.beq g 48 || (Nat.beq g 116 || Nat.beq g 14)))
def X3 (g : FuncId) (args : List AV) : Option AV :=
  pickB (Nat.beq g 13 && leqL args [srcA, .str [112, 97, 105, 114]]) (some r13) <|
  pickB (Nat.beq g 45 && leqL args [flatA]) (some r45) <|
  pickB (Nat.beq g 48 && leqL args [itemsA, flatA]) (some r48a) <|
  pickB (Nat.beq g 48 && leqL args [moreA, flatA]) (some r48b) <|
  pickB (Nat.beq g 116 && leqL args [hardA, flatA]) (some r116a) <|
  pickB (Nat.beq g 116 && leqL args [softA, flatA]) (some r116b) <|
  pickB (Nat.beq g 14 && leqL args [.agg (encP pairP)]) (some (.int .i64 0)) <|
  pickB (Nat.beq g 14 && leqL args [.agg (encP badP)]) (some (.int .i64 1)) <|
  none
theorem X3_ok : ConX Tryz.prog GG X3 := by
  intro g args r h
  have step : ∀ {b : FuncId} {a : List AV} {s : AV} {k : Option AV}, Pure Tryz.prog GG b a s → pickB (Nat.beq g b && leqL args a) (some s) k = some r → Pure Tryz.prog GG g args r ∨ k = some r := by
    intro b a s k hp hk
    cases hb : (Nat.beq g b && leqL args a)
    · rw [hb] at hk; exact .inr hk
    · rw [hb] at hk
      simp only [Bool.and_eq_true] at hb
      cases hk
      rw [Nat.eq_of_beq_eq_true hb.1]
      exact .inl (hp.less (leqL_spec _ _ hb.2))
  unfold X3 at h
  rcases step flat13 h with h | h
  · exact h
  rcases step vars45 h with h | h
  · exact h
  rcases step expand48a h with h | h
  · exact h
  rcases step expand48b h with h | h
  · exact h
  rcases step scalar116a h with h | h
  · exact h
  rcases step scalar116b h with h | h
  · exact h
  rcases step valid14 h with h | h
  · exact h
  rcases step valid14b h with h | h
  · exact h
  cases h
theorem works11 : Pure Tryz.prog GG 11 [] (.bool true) := Pure.closedX (K := K3) X3_ok 1000 40 (by kernel_rfl)
end Go.Proofs.YtpgcmnabljandaaGreatDoor
