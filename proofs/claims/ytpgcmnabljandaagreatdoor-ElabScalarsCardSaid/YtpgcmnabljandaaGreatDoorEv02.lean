/- A part of the proof: texts Walk31a Walk31b. -/
import Derived.Test.YtpgcmnabljandaaGreatDoorEv01

section
/-
  Walks: operators with two operands.
-/
set_option linter.unusedVariables false
set_option linter.unusedSimpArgs false
set_option maxRecDepth 100000
namespace Go.Proofs.YtpgcmnabljandaaGreatDoor
open Go Go.Abs

theorem intOp_eql (k : IntKind) (a b : Int) : intOp .eql k a b = some (.bool (a == b)) := rfl
theorem b2i_lt (a b : Int) (c : Bool) (h : c = decide (a < b)) : b2i c = b2i (decide (a < b)) := by rw [h]
set_option maxHeartbeats 2000000 in
theorem double239 (op : Int) (x y : Nat) (hx : x < 65536) (hy : y < 65536) : Pure Tryz.prog GG 239 [.int .i64 op, .int .i64 x, .int .i64 y] (.int .i64 (binW op x y)) := by
  refine Pure.vc mixed Tryz.func239 rfl (by kernel_rfl) ?_
  have n1 := nat_and hx hy
  have n2 := nat_or hx hy
  have n3 := nat_xor hx hy
  by_cases h7 : op = 7
  · subst h7
    simp
    refine vcCall.call (add237 x y) rfl ?_
    simp [binW]
  by_cases h8 : op = 8
  · subst h8
    simp
    refine vcCall.call (sub301 x y) rfl ?_
    simp [binW]
  by_cases h9 : op = 9
  · subst h9
    simp
    refine vcCall.call (mul302 x y) rfl ?_
    simp [binW]
  by_cases h10 : op = 10
  · subst h10
    have hb : binW 10 x y = ((x &&& y : Nat) : Int) := by simp [binW]
    rw [hb]
    simp [n1, intOp_eql, -intOp]
  by_cases h11 : op = 11
  · subst h11
    have hb : binW 11 x y = ((x ||| y : Nat) : Int) := by simp [binW]
    rw [hb]
    simp [n2, intOp_eql, -intOp]
  by_cases h12 : op = 12
  · subst h12
    have hb : binW 12 x y = ((x ^^^ y : Nat) : Int) := by simp [binW]
    rw [hb]
    simp [n3, intOp_eql, -intOp]
  by_cases h13 : op = 13
  · subst h13
    simp
    refine vcCall.call (shl303 x y) rfl ?_
    simp [binW, shlW]
  by_cases h14 : op = 14
  · subst h14
    simp
    refine vcCall.call (shr304 x y) rfl ?_
    simp [binW, shrW]
  by_cases h15 : op = 15
  · subst h15
    simp
    refine vcCall.call (truth297 _) rfl ?_
    try simp only [beq_dec, bne_dec]
    by_cases h : x = y <;> simp [binW, h]
  by_cases h16 : op = 16
  · subst h16
    simp
    refine vcCall.call (truth297 _) rfl ?_
    try simp only [beq_dec, bne_dec]
    by_cases h : x = y <;> simp [binW, h]
  by_cases h17 : op = 17
  · subst h17
    simp
    refine vcCall.call (truth297 _) rfl ?_
    by_cases h : x < y <;> simp [binW, h]
  by_cases h18 : op = 18
  · subst h18
    simp
    refine vcCall.call (truth297 _) rfl ?_
    by_cases h : x ≤ y <;> simp [binW, h]
  by_cases h19 : op = 19
  · subst h19
    by_cases h : x = 0
    · simp [h]
      refine vcCall.call (truth297 _) rfl ?_
      simp [binW, h]
    · simp [h]
      refine vcCall.call (truth297 _) rfl ?_
      (try simp only [beq_dec, bne_dec]); by_cases h' : y = 0 <;> simp [binW, h, h']
  by_cases h20 : op = 20
  · subst h20
    by_cases h : x = 0
    · simp [h]
      refine vcCall.call (truth297 _) rfl ?_
      (try simp only [beq_dec, bne_dec]); by_cases h' : y = 0 <;> simp [binW, h, h']
    · simp [h]
      refine vcCall.call (truth297 _) rfl ?_
      simp [binW, h]
  have hb : binW op x y = b2i (decide ((x : Int) = 0) || !decide ((y : Int) = 0)) := by simp [binW, h7, h8, h9, h10, h11, h12, h13, h14, h15, h16, h17, h18, h19, h20]
  rw [hb]
  by_cases h : x = 0
  · simp [h7, h8, h9, h10, h11, h12, h13, h14, h15, h16, h17, h18, h19, h20, h]
    refine vcCall.call (truth297 _) rfl ?_
    simp
  · simp [h7, h8, h9, h10, h11, h12, h13, h14, h15, h16, h17, h18, h19, h20, h]
    refine vcCall.call (truth297 _) rfl ?_
    try simp only [beq_dec, bne_dec]
    by_cases h' : y = 0 <;> simp [h, h']
end Go.Proofs.YtpgcmnabljandaaGreatDoor
end

section
/-
  Walks: operators with two operands, for the reference.
-/
set_option linter.unusedVariables false
set_option linter.unusedSimpArgs false
set_option maxRecDepth 100000
namespace Go.Proofs.YtpgcmnabljandaaGreatDoor
open Go Go.Abs

set_option maxHeartbeats 2000000 in
theorem rbinary288 (op : Int) (x y : Nat) (hx : x < 65536) (hy : y < 65536) : Pure Tryz.prog GG 288 [.int .i64 op, .int .i64 x, .int .i64 y] (.int .i64 (binW op x y)) := by
  refine Pure.vc mixed Tryz.func288 rfl (by kernel_rfl) ?_
  have n1 := nat_and hx hy
  have n2 := nat_or hx hy
  have n3 := nat_xor hx hy
  by_cases h7 : op = 7
  · subst h7
    simp
    refine vcCall.call (radd286 x y) rfl ?_
    simp [binW]
  by_cases h8 : op = 8
  · subst h8
    simp
    refine vcCall.call (rsub339 x y) rfl ?_
    simp [binW]
  by_cases h9 : op = 9
  · subst h9
    simp
    refine vcCall.call (rmul340 x y) rfl ?_
    simp [binW]
  by_cases h10 : op = 10
  · subst h10
    have hb : binW 10 x y = ((x &&& y : Nat) : Int) := by simp [binW]
    rw [hb]
    simp
    refine vcCall.call (rand341 x y hx hy) rfl ?_
    simp
  by_cases h11 : op = 11
  · subst h11
    have hb : binW 11 x y = ((x ||| y : Nat) : Int) := by simp [binW]
    rw [hb]
    simp
    refine vcCall.call (ror342 x y hx hy) rfl ?_
    simp
  by_cases h12 : op = 12
  · subst h12
    have hb : binW 12 x y = ((x ^^^ y : Nat) : Int) := by simp [binW]
    rw [hb]
    simp
    refine vcCall.call (rxor343 x y hx hy) rfl ?_
    simp
  by_cases h13 : op = 13
  · subst h13
    simp
    refine vcCall.call (rshl344 x y) rfl ?_
    simp [binW, shlW]
  by_cases h14 : op = 14
  · subst h14
    simp
    refine vcCall.call (rshr345 x y) rfl ?_
    simp [binW, shrW]
  by_cases h15 : op = 15
  · subst h15
    simp
    refine vcCall.call (rtruth335 _) rfl ?_
    try simp only [beq_dec, bne_dec]
    by_cases h : x = y <;> simp [binW, h]
  by_cases h16 : op = 16
  · subst h16
    simp
    refine vcCall.call (rtruth335 _) rfl ?_
    try simp only [beq_dec, bne_dec]
    by_cases h : x = y <;> simp [binW, h]
  by_cases h17 : op = 17
  · subst h17
    simp
    refine vcCall.call (rtruth335 _) rfl ?_
    by_cases h : x < y <;> simp [binW, h]
  by_cases h18 : op = 18
  · subst h18
    simp
    refine vcCall.call (rtruth335 _) rfl ?_
    by_cases h : x ≤ y <;> simp [binW, h]
  by_cases h19 : op = 19
  · subst h19
    by_cases h : x = 0
    · simp [h]
      refine vcCall.call (rtruth335 _) rfl ?_
      simp [binW, h]
    · simp [h]
      refine vcCall.call (rtruth335 _) rfl ?_
      (try simp only [beq_dec, bne_dec]); by_cases h' : y = 0 <;> simp [binW, h, h']
  by_cases h20 : op = 20
  · subst h20
    by_cases h : x = 0
    · simp [h]
      refine vcCall.call (rtruth335 _) rfl ?_
      (try simp only [beq_dec, bne_dec]); by_cases h' : y = 0 <;> simp [binW, h, h']
    · simp [h]
      refine vcCall.call (rtruth335 _) rfl ?_
      simp [binW, h]
  have hb : binW op x y = b2i (decide ((x : Int) = 0) || !decide ((y : Int) = 0)) := by simp [binW, h7, h8, h9, h10, h11, h12, h13, h14, h15, h16, h17, h18, h19, h20]
  rw [hb]
  by_cases h : x = 0
  · simp [h7, h8, h9, h10, h11, h12, h13, h14, h15, h16, h17, h18, h19, h20, h]
    refine vcCall.call (rtruth335 _) rfl ?_
    simp
  · simp [h7, h8, h9, h10, h11, h12, h13, h14, h15, h16, h17, h18, h19, h20, h]
    refine vcCall.call (rtruth335 _) rfl ?_
    try simp only [beq_dec, bne_dec]
    by_cases h' : y = 0 <;> simp [h, h']
end Go.Proofs.YtpgcmnabljandaaGreatDoor
end
