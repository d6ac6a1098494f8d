/- A part of the proof: texts Walk32 Walk33. -/
import Derived.Test.YtpgcmnabljandaaGreatDoorEv01
import Derived.Test.YtpgcmnabljandaaGreatDoorWk08
import Derived.Test.YtpgcmnabljandaaGreatDoorEv02

section
/-
  Walks: values of names, lists of values.
-/
set_option linter.unusedVariables false
set_option linter.unusedSimpArgs false
set_option maxRecDepth 100000
namespace Go.Proofs.YtpgcmnabljandaaGreatDoor
open Go Go.Abs

/-- What a name's value looks like, with whether there is one. -/
def findR (env : List Signal) (name : Str) : AV := .tup [.int .i64 ((findV env name).getD 0), .bool (findV env name).isSome]
theorem findV_at {env : List Signal} {name : Str} {i : Nat} {s : Signal} (h : env[i]? = some s) (hz : ∀ x ∈ env.take i, x.name ≠ name) (hs : s.name = name) : findV env name = some (wrapW s.value) := by
  have e : env = env.take i ++ s :: env.drop (i + 1) := by
    rw [← drop_cons h, List.take_append_drop]
  unfold findV
  have hn : (env.take i).find? (fun s => s.name == name) = none := by
    rw [List.find?_eq_none]
    intro x hx
    simpa using hz x hx
  rw [e, List.find?_append, hn]
  simp [hs]
theorem findV_none {env : List Signal} {name : Str} (h : ∀ x ∈ env, x.name ≠ name) : findV env name = none := by
  unfold findV
  have hn : env.find? (fun s => s.name == name) = none := by
    rw [List.find?_eq_none]
    intro x hx
    simpa using h x hx
  rw [hn]; rfl
theorem find164 (env : List Signal) (name : Str) (hl : Fits env) : Pure Tryz.prog GG 164 [.agg [.sl 2 (env.map encSignal) .none], .str name] (findR env name) := by
  refine Pure.vc mixed Tryz.func164 rfl (by kernel_rfl) ?_
  simp
  refine vcLoop.intro (fun n e σ => ∃ i tl, i ≤ env.length ∧ n = env.length - i ∧ e 1 = .str name ∧ e 9 = .sl 2 (env.map encSignal) .none ∧ e 10 = .int .i64 env.length ∧ e 11 = .int .i64 i ∧ σ = ⟨tl, []⟩ ∧ ∀ x ∈ env.take i, x.name ≠ name) env.length ⟨0, _, by simp, by simp, by simp, by simp, by simp, by simp, rfl, by simp⟩ ?_
  rintro n e σ ⟨i, tl, hi, rfl, h1, h9, h10, h11, rfl, hz⟩
  cases hv : env[i]? with
  | some s =>
    obtain ⟨hc, hv'⟩ := List.getElem?_eq_some_iff.1 hv
    by_cases hs : s.name = name
    · have x := findV_at hv hz hs
      simp [h1, h9, h10, h11, hc, hv', hs, List.set_append]
      refine vcCall.call (wrap236 s.value) rfl ?_
      simp [findR, x]
    · simp [h1, h9, h10, h11, hc, hv', hs, List.set_append]
      exact ⟨_, by omega, i + 1, by omega, rfl, wr (by omega) (by omega), take_succ_all hv hz hs⟩
  | none =>
    have hc : ¬ i < env.length := by simp at hv; omega
    have ht : env.take i = env := List.take_of_length_le (by omega)
    rw [ht] at hz
    have x := findV_none hz
    simp [h1, h9, h10, h11, hc, findR, x]
theorem rfind283 (env : List Signal) (name : Str) (hl : Fits env) : Pure Tryz.prog GG 283 [.sl 2 (env.map encSignal) .none, .str name] (findR env name) := by
  refine Pure.vc mixed Tryz.func283 rfl (by kernel_rfl) ?_
  simp
  refine vcLoop.intro (fun n e σ => ∃ i, i ≤ env.length ∧ n = env.length - i ∧ e 0 = .sl 2 (env.map encSignal) .none ∧ e 1 = .str name ∧ e 6 = .int .i64 i ∧ σ = ⟨[], []⟩ ∧ ∀ x ∈ env.take i, x.name ≠ name) env.length ⟨0, by simp, by simp, by simp, by simp, by simp, rfl, by simp⟩ ?_
  rintro n e σ ⟨i, hi, rfl, h0, h1, h6, rfl, hz⟩
  cases hv : env[i]? with
  | some s =>
    obtain ⟨hc, hv'⟩ := List.getElem?_eq_some_iff.1 hv
    by_cases hs : s.name = name
    · have x := findV_at hv hz hs
      simp [h0, h1, h6, hc, hv', hs]
      refine vcCall.call (rwrap333 s.value) rfl ?_
      simp [findR, x]
    · simp [h0, h1, h6, hc, hv', hs]
      exact ⟨_, by omega, i + 1, by omega, rfl, wr (by omega) (by omega), take_succ_all hv hz hs⟩
  | none =>
    have hc : ¬ i < env.length := by simp at hv; omega
    have ht : env.take i = env := List.take_of_length_le (by omega)
    rw [ht] at hz
    have x := findV_none hz
    simp [h0, h1, h6, hc, findR, x]

/-- The value of an element, with whether there is one. -/
def atR (env : List Signal) (a : Str) (i : Int) : AV := if 0 ≤ i ∧ i < 8 then findR env (elemS a i.toNat) else .tup [.int .i64 0, .bool false]
theorem at165 (env : List Signal) (a : Str) (i : Int) (hl : Fits env) (ha : a.length ≤ 1000) : Pure Tryz.prog GG 165 [.agg [.sl 2 (env.map encSignal) .none], .str a, .int .i64 i] (atR env a i) := by
  refine Pure.vc mixed Tryz.func165 rfl (by kernel_rfl) ?_
  unfold atR
  by_cases c0 : i < 0
  · rw [if_neg (by omega)]
    simp [c0]
  by_cases c1 : 8 ≤ i
  · rw [if_neg (by omega)]
    simp [c0, c1]
  rw [if_pos (by omega)]
  obtain ⟨n, rfl⟩ := Int.eq_ofNat_of_zero_le (show 0 ≤ i by omega)
  have hn : n < 8 := by omega
  have h1 : a.length + 1 ≤ 4611686018427387904 := by omega
  have h2 : a.length + (1 + 1) ≤ 4611686018427387904 := by omega
  have h3 : a.length + (1 + (1 + 1)) ≤ 4611686018427387904 := by omega
  have h4 : a.length + 1 + 1 ≤ 4611686018427387904 := by omega
  have h5 : a.length + 1 + 1 + 1 ≤ 4611686018427387904 := by omega
  have w1 : IntKind.i64.wrap (48 + (n : Int)) = ((48 + n : Nat) : Int) := by rw [wr (by omega) (by omega)]; omega
  have w2 : IntKind.u8.wrap ((48 + n : Nat) : Int) = ((48 + n : Nat) : Int) := by simp [IntKind.wrap, IntKind.bits, IntKind.signed]; omega
  have he : a ++ [91, UInt8.ofNat (48 + n), 93] = elemS a n := rfl
  have hf := find164 env (elemS a n) hl
  have w3 : IntKind.u8.wrap (48 + (n : Int)) = ((48 + n : Nat) : Int) := by rw [← w2]; congr 1
  have w4 : UInt8.ofNat (((48 + n : Nat) : Int)).toNat = UInt8.ofNat (48 + n) := by rw [Int.toNat_natCast]
  have w5 : UInt8.ofNat (IntKind.u8.wrap (48 + (n : Int))).toNat = UInt8.ofNat (48 + n) := by rw [w3, w4]
  simp [c0, c1, h1, h2, h3, h4, h5, w1, convA, buildSliceA, rowsFill, bytesOf]
  rw [w5, he]
  refine vcCall.call hf (by simp) ?_
  simp [findR]
theorem sumV_succ (env : List Signal) (a : Str) (i : Nat) : sumV env a (i + 1) = wrapW (sumV env a i + atV env a i) := rfl
theorem atR_val {env : List Signal} {a : Str} {i : Int} : ∃ b, atR env a i = .tup [.int .i64 (atV env a i), .bool b] ∧ (i = 0 → b = (findV env (elemS a 0)).isSome) := by
  unfold atR atV
  by_cases h : 0 ≤ i ∧ i < 8
  · rw [if_pos h, if_pos h]
    exact ⟨_, rfl, fun e => by subst e; rfl⟩
  · rw [if_neg h, if_neg h]
    exact ⟨false, rfl, fun e => absurd (by omega) h⟩
theorem sum166 (env : List Signal) (a : Str) (hl : Fits env) (ha : a.length ≤ 1000) : Pure Tryz.prog GG 166 [.agg [.sl 2 (env.map encSignal) .none], .str a] (.int .i64 (sumV env a 8)) := by
  refine Pure.vc mixed Tryz.func166 rfl (by kernel_rfl) ?_
  simp
  refine vcLoop.intro (fun n e σ => ∃ i : Nat, i ≤ 8 ∧ n = 8 - i ∧ e 1 = .str a ∧ e 2 = .ptr 0 0 ∧ e 5 = .int .i64 (sumV env a i) ∧ e 9 = .int .i64 i ∧ σ = ⟨[.cells [.sl 2 (env.map encSignal) .none]], []⟩) 8 ⟨0, by simp [sumV]⟩ ?_
  rintro n e σ ⟨i, hi, rfl, h1, h2, h5, h9, rfl⟩
  by_cases hc : i < 8
  · have hc' : (i : Int) < 8 := by omega
    obtain ⟨b, hb, _⟩ := atR_val (env := env) (a := a) (i := i)
    have hat := at165 env a i hl ha
    rw [hb] at hat
    simp [h1, h2, h5, h9, hc']
    refine vcCall.call hat (by simp) ?_
    simp [h1, h2, h5, h9]
    refine vcCall.call (add237 _ _) rfl ?_
    simp [h1, h2, h5, h9]
    exact ⟨_, by omega, i + 1, by omega, rfl, rfl, wr (by omega) (by omega)⟩
  · have hi' : i = 8 := by omega
    subst hi'
    simp [h1, h2, h5, h9]
theorem rdigit334 : ∀ (i : Nat), i < 8 → Pure Tryz.prog GG 334 [.int .i64 i] (.str [UInt8.ofNat (48 + i)]) := by
  intro i hi
  refine Pure.vc mixed Tryz.func334 rfl (by kernel_rfl) ?_
  have u1 : IntKind.i64.wrap 1 = 1 := wr (by omega) (by omega)
  have u2 : IntKind.i64.wrap 2 = 2 := wr (by omega) (by omega)
  have u3 : IntKind.i64.wrap 3 = 3 := wr (by omega) (by omega)
  have u4 : IntKind.i64.wrap 4 = 4 := wr (by omega) (by omega)
  have u5 : IntKind.i64.wrap 5 = 5 := wr (by omega) (by omega)
  have u6 : IntKind.i64.wrap 6 = 6 := wr (by omega) (by omega)
  have u7 : IntKind.i64.wrap 7 = 7 := wr (by omega) (by omega)
  have u8 : IntKind.i64.wrap 8 = 8 := wr (by omega) (by omega)
  have key : i = 0 ∨ i = 1 ∨ i = 2 ∨ i = 3 ∨ i = 4 ∨ i = 5 ∨ i = 6 ∨ i = 7 := by omega
  rcases key with rfl | rfl | rfl | rfl | rfl | rfl | rfl | rfl <;> simp [sliceA, boundA, u1, u2, u3, u4, u5, u6, u7, u8]
theorem relem284 (a : Str) (i : Nat) (hi : i < 8) (ha : a.length ≤ 1000) : Pure Tryz.prog GG 284 [.str a, .int .i64 i] (.str (elemS a i)) := by
  refine Pure.vc mixed Tryz.func284 rfl (by kernel_rfl) ?_
  have h1 : a.length + 1 ≤ 4611686018427387904 := by omega
  have h2 : a.length + (1 + 1) ≤ 4611686018427387904 := by omega
  have h3 : a.length + (1 + (1 + 1)) ≤ 4611686018427387904 := by omega
  have h4 : a.length + 1 + 1 ≤ 4611686018427387904 := by omega
  have h5 : a.length + 1 + 1 + 1 ≤ 4611686018427387904 := by omega
  simp [h1]
  refine vcCall.call (rdigit334 i hi) rfl ?_
  simp [h2, h3, h4, h5, elemS]
theorem relement285 (env : List Signal) (a : Str) (i : Int) (hl : Fits env) (ha : a.length ≤ 1000) : Pure Tryz.prog GG 285 [.sl 2 (env.map encSignal) .none, .str a, .int .i64 i] (.int .i64 (atV env a i)) := by
  refine Pure.vc mixed Tryz.func285 rfl (by kernel_rfl) ?_
  unfold atV
  by_cases c0 : i < 0
  · rw [if_neg (by omega)]
    simp [c0]
  by_cases c1 : 8 ≤ i
  · rw [if_neg (by omega)]
    simp [c0, c1]
  rw [if_pos (by omega)]
  obtain ⟨n, rfl⟩ := Int.eq_ofNat_of_zero_le (show 0 ≤ i by omega)
  simp [c0, c1]
  refine vcCall.call (relem284 a n (by omega) ha) rfl ?_
  try simp
  refine vcCall.call (rfind283 env (elemS a n) hl) (by simp) ?_
  simp [findR]
end Go.Proofs.YtpgcmnabljandaaGreatDoor
end

section
/-
  Walks: operators over lists; values of expressions.
-/

set_option linter.unusedVariables false
set_option linter.unusedSimpArgs false
set_option maxRecDepth 100000
namespace Go.Proofs.YtpgcmnabljandaaGreatDoor
open Go Go.Abs

theorem opW_1 {op a : Int} (h22 : op ≠ 22) (h23 : op ≠ 23) : opW op [a] = unW op a := by simp [opW, h22, h23]
theorem opW_2 {op a b : Int} (h22 : op ≠ 22) (h23 : op ≠ 23) : opW op [a, b] = binW op a b := by simp [opW, h22, h23]
theorem opW_22 {l : List Int} : opW 22 l = if l.getD 0 0 ≠ 0 then l.getD 1 0 else l.getD 2 0 := by simp [opW]
theorem opW_23 {l : List Int} : opW 23 l = b2i (insideW (l.getD 0 0) l.tail) := by simp [opW]
theorem insideW_cons {a x y : Int} {r : List Int} : insideW a (x :: y :: r) = ((decide (x ≤ a) && decide (a ≤ y)) || insideW a r) := by simp [insideW]
theorem insideW_short {a : Int} {r : List Int} (h : r.length < 2) : insideW a r = false := by
  match r, h with
  | [], _ => rfl
  | [x], _ => rfl
  | x :: y :: r, h => simp at h; omega
theorem all_bad {α : Type} {p : α → Bool} {l : List α} {a : α} (h : a ∈ l) (hp : p a = false) : l.all p = false := by
  rw [Bool.eq_false_iff]
  intro e
  rw [List.all_eq_true.1 e a h] at hp; cases hp
theorem list3 {l : List Int} (h : l.length = 3) : ∃ a b c, l = [a, b, c] := by
  match l, h with
  | [a, b, c], _ => exact ⟨a, b, c, rfl⟩
theorem list1 {l : List Int} (h : l.length = 1) : ∃ a, l = [a] := by
  match l, h with
  | [a], _ => exact ⟨a, rfl⟩
theorem list2 {l : List Int} (h : l.length = 2) : ∃ a b, l = [a, b] := by
  match l, h with
  | [a, b], _ => exact ⟨a, b, rfl⟩

set_option maxHeartbeats 1000000 in
theorem operate167 (op : Int) (l : List Int) (hr : ∀ v ∈ l, 0 ≤ v ∧ v ≤ 65535) (h22 : op = 22 → l.length = 3) (h23 : op = 23 → 3 ≤ l.length ∧ l.length ≤ 33) (ho : op ≠ 22 → op ≠ 23 → l.length = 1 ∨ l.length = 2) :
    Pure Tryz.prog GG 167 [.int .i64 op, .sl 1 (l.map encInt) .none] (.int .i64 (opW op l)) := by
  refine Pure.vc mixed Tryz.func167 rfl (by kernel_rfl) ?_
  by_cases c22 : op = 22
  · obtain ⟨a, b, c, rfl⟩ := list3 (h22 c22)
    subst c22
    by_cases ha : a = 0
    · simp [ha, opW_22]
    · simp [ha, opW_22]
  by_cases c23 : op = 23
  · obtain ⟨h3, h33⟩ := h23 c23
    subst c23
    obtain ⟨a, ga⟩ : ∃ a, l[0]? = some a := ⟨_, List.getElem?_eq_getElem (by omega)⟩
    obtain ⟨g0, ga'⟩ := List.getElem?_eq_some_iff.1 ga
    have hw : opW 23 l = b2i (insideW a (l.drop 1)) := by
      rw [opW_23, List.getD_eq_getElem?_getD, ga]
      simp
    rw [hw]
    generalize hT : insideW a (l.drop 1) = T
    simp
    refine vcLoop.intro (fun n env σ => ∃ i : Nat, 1 ≤ i ∧ i ≤ l.length + 1 ∧ n = l.length + 1 - i ∧ env 1 = .sl 1 (l.map encInt) .none ∧ env 5 = .int .i64 i ∧ σ = ⟨[], []⟩ ∧ insideW a (l.drop i) = T) l.length ⟨1, by simp, by omega, by omega, by simp, by simp, rfl, hT⟩ ?_
    rintro n env σ ⟨i, hi1, hi2, rfl, h1, h5, rfl, hin⟩
    have w1 : IntKind.i64.wrap ((i : Int) + 1) = (i : Int) + 1 := wr (by omega) (by omega)
    have w2 : IntKind.i64.wrap ((i : Int) + 2) = ((i + 2 : Nat) : Int) := by rw [wr (by omega) (by omega)]; omega
    have n1 : ((i : Int) + 1).toNat = i + 1 := by omega
    have p1 : (0 : Int) ≤ (i : Int) + 1 := by omega
    by_cases hc : i + 1 < l.length
    · obtain ⟨x, gx⟩ : ∃ x, l[i]? = some x := ⟨_, List.getElem?_eq_getElem (by omega)⟩
      obtain ⟨y, gy⟩ : ∃ y, l[i + 1]? = some y := ⟨_, List.getElem?_eq_getElem (by omega)⟩
      obtain ⟨q1, gx'⟩ := List.getElem?_eq_some_iff.1 gx
      obtain ⟨q2, gy'⟩ := List.getElem?_eq_some_iff.1 gy
      rw [drop_cons gx, drop_cons gy, insideW_cons] at hin
      have hc' : (i : Int) + 1 < l.length := by omega
      by_cases c1 : x ≤ a
      · by_cases c2 : a ≤ y
        · have hT1 : T = true := by rw [← hin]; simp [c1, c2]
          rw [hT1]
          simp [h1, h5, w1, n1, p1, hc', hc, q1, q2, g0, ga', gx', gy', c1, c2, b2i]
        · have hin : insideW a (l.drop (i + 2)) = T := by rw [← hin]; simp [c1, c2]
          simp [h1, h5, w1, w2, n1, p1, hc', hc, q1, q2, g0, ga', gx', gy', c1, c2]
          exact ⟨_, by omega, i + 2, by omega, by omega, rfl, by omega, hin⟩
      · have hin : insideW a (l.drop (i + 2)) = T := by rw [← hin]; simp [c1]
        simp [h1, h5, w1, w2, n1, p1, hc', hc, q1, q2, g0, ga', gx', gy', c1]
        exact ⟨_, by omega, i + 2, by omega, by omega, rfl, by omega, hin⟩
    · have hc' : ¬ (i : Int) + 1 < l.length := by omega
      have hs : T = false := by rw [← hin]; exact insideW_short (by simp; omega)
      rw [hs]
      simp [h1, h5, w1, hc', b2i]
  · rcases ho c22 c23 with h | h
    · obtain ⟨a, rfl⟩ := list1 h
      rw [opW_1 c22 c23]
      simp [c22, c23]
      refine vcCall.call (single238 op a) rfl ?_
      simp
    · obtain ⟨a, b, rfl⟩ := list2 h
      obtain ⟨a0, a1⟩ := hr a (by simp)
      obtain ⟨b0, b1⟩ := hr b (by simp)
      obtain ⟨x, rfl⟩ := Int.eq_ofNat_of_zero_le a0
      obtain ⟨y, rfl⟩ := Int.eq_ofNat_of_zero_le b0
      rw [opW_2 c22 c23]
      simp [c22, c23]
      refine vcCall.call (double239 op x y (by omega) (by omega)) rfl ?_
      simp

/-- What an appended list of numbers looks like. -/
def outN (s : List Int) : AV := match s with
  | [] => .sl 0 [] .nil
  | a :: r => .sl 1 ((a :: r).map encInt) (.chain 0 (r.length + 1))
def outTN (s : List Int) : List (Option Nat) := match s with
  | [] => []
  | _ :: r => [some (r.length + 1)]
theorem outN_ref (s : List Int) : noRef (plain (outN s)) = true := by cases s <;> simp [outN]
theorem outN_leq (s : List Int) : Leq (plain (outN s)) (.sl 1 (s.map encInt) .none) := by
  cases s with
  | nil => simp [outN, Leq]
  | cons a r => exact Leq.sl rfl
section
variable {P : Program} {G : Nat → AV} {σ : St} {f : FuncId} {Q : AV → St → Prop} {r : AV}
/-- A call that is handed a list of numbers that was appended. -/
theorem vcCall.outN2 {d : Bool} {a : AV} {s : List Int} (ha : noRef a = true) (h : Abs.Pure P G f [a, .sl 1 (s.map encInt) .none] r) (hq : Q r σ) : vcCall P G d f [a, outN s] σ Q := by
  refine vcCall.pure h ?_ ?_ hq
  · simp only [List.map_cons, List.map_nil, noRefs, outN_ref, plain_noRef ha, ha, Bool.and_self]
  · simp only [List.map_cons, List.map_nil, LeqL, and_true, plain_noRef ha]
    exact ⟨Leq.refl _, outN_leq s⟩
theorem vcCall.outN3 {d : Bool} {a b : AV} {s : List Int} (ha : noRef a = true) (hb : noRef b = true) (h : Abs.Pure P G f [a, b, .sl 1 (s.map encInt) .none] r) (hq : Q r σ) : vcCall P G d f [a, b, outN s] σ Q := by
  refine vcCall.pure h ?_ ?_ hq
  · simp only [List.map_cons, List.map_nil, noRefs, outN_ref, plain_noRef ha, plain_noRef hb, ha, hb, Bool.and_self]
  · simp only [List.map_cons, List.map_nil, LeqL, and_true, plain_noRef ha, plain_noRef hb]
    exact ⟨Leq.refl _, Leq.refl _, outN_leq s⟩
end

theorem args_of {e : Ex} (h : NodesOk e) {n : Nat} (hop : e.op ≠ 23) (ha : arityS e.op = n) : e.args.length = n := by
  obtain ⟨_, _, _, _, ho, _⟩ := nodeE_zero h.self
  have := operands_args ho hop
  omega
theorem args_le {e : Ex} (h : NodesOk e) : e.args.length ≤ 33 := by
  obtain ⟨_, _, _, _, ho, _⟩ := nodeE_zero h.self
  by_cases h23 : e.op = 23
  · have := operands_in ho h23; omega
  · have := operands_args ho h23
    unfold arityS at this
    repeat' split at this
    all_goals omega
theorem op_args {e : Ex} (h : NodesOk e) (h1 : e.op ≠ 1) (h2 : e.op ≠ 2) (h3 : e.op ≠ 3) (h24 : e.op ≠ 24) (h22 : e.op ≠ 22) (h23 : e.op ≠ 23) : e.args.length = 1 ∨ e.args.length = 2 := by
  obtain ⟨k1, k2, _, _, ho, _⟩ := nodeE_zero h.self
  have := operands_args ho h23
  unfold arityS at this
  rw [if_neg (by omega)] at this
  repeat' split at this
  all_goals omega
set_option maxHeartbeats 1000000 in
theorem value97 (env : List Signal) (hl : Fits env) : ∀ e, Wen e → NodesOk e → Pure Tryz.prog GG 97 [.agg [.sl 2 (env.map encSignal) .none], .agg (encE e)] (.int .i64 (valV env e)) := by
  refine Ex.ind fun e ih hwe hn => ?_
  refine Pure.vc mixed Tryz.func97 rfl (by kernel_rfl) ?_
  have hfa := hwe.fits
  have hrg : ∀ v ∈ e.args.map (valV env), 0 ≤ v ∧ v ≤ 65535 := by
    intro v hv
    obtain ⟨a, ha, rfl⟩ := List.mem_map.1 hv
    exact valV_range env a (hn.arg ha)
  obtain ⟨k1, k2, k3, k4, k5, k6, k7, k8⟩ := nodeE_zero hn.self
  simp only [encE_eq e]
  simp
  refine vcLoop.intro (fun n ev σ => ∃ i tl, i ≤ e.args.length ∧ n = e.args.length - i ∧ ev 2 = .ptr 0 0 ∧ ev 3 = .ptr 1 0 ∧ ev 5 = outN ((e.args.map (valV env)).take i) ∧ ev 13 = .sl 4 (e.args.map encE) .none ∧ ev 14 = .int .i64 e.args.length ∧ ev 15 = .int .i64 i ∧ σ = ⟨.cells [.sl 2 (env.map encSignal) .none] :: .cells (encE e) :: tl, outTN ((e.args.map (valV env)).take i)⟩) e.args.length ⟨0, [], by simp, by simp, by simp, by simp, by simp [outN], by simp, by simp, by simp, by simp [encE_eq e, outTN]⟩ ?_
  rintro n ev σ ⟨i, tl, hi, rfl, h2, h3, h5, h13, h14, h15, rfl⟩
  cases hv : e.args[i]? with
  | some a =>
    obtain ⟨hc, hv'⟩ := List.getElem?_eq_some_iff.1 hv
    have hm := List.mem_of_getElem? hv
    have ht : (e.args.map (valV env)).take (i + 1) = (e.args.map (valV env)).take i ++ [valV env a] := by
      rw [List.take_add_one, List.getElem?_map, hv]; rfl
    have hlen : ((e.args.map (valV env)).take i).length ≤ e.args.length := by simp; omega
    generalize hR : (e.args.map (valV env)).take i = R at h5 ht hlen ⊢
    have ih := ih a hm (hwe.arg hm) (hn.arg hm)
    simp [h2, h3, h5, h13, h14, h15, hc, hv', encE_eq a, List.set_append]
    rw [← encE_eq a]
    refine vcCall.call ih (by simp) ?_
    cases R with
    | nil =>
      simp only [outN] at h5
      simp [outN, outTN, appendA, buildSliceA, rowsFill, rowsOf, h2, h3, h13, h14, h15]
      exact ⟨_, by omega, i + 1, by omega, rfl, by rw [ht]; simp [outN], wr (by omega) (by omega), by rw [ht]; simp [outTN]⟩
    | cons b r =>
      have hb : r.length ≤ 1073741822 := by have := args_le hn; simp at hlen; omega
      simp only [outN] at h5
      simp [outN, outTN, appendA, buildSliceA, rowsFill, rowsOf, hb, h2, h3, h13, h14, h15]
      exact ⟨_, by omega, i + 1, by omega, rfl, by rw [ht]; simp [outN], wr (by omega) (by omega), by rw [ht]; simp [outTN]⟩
  | none =>
    have hc : ¬ i < e.args.length := by simp at hv; omega
    rw [List.take_of_length_le (by simp; omega)] at h5 ⊢
    rw [valV_eq]
    generalize hR : e.args.map (valV env) = R at h5 hrg ⊢
    have hRl : R.length = e.args.length := by rw [← hR]; simp
    unfold nodeV
    by_cases c1 : e.op = 1
    · simp [h2, h3, h5, h13, h14, h15, hc, encE_eq e, c1]
    by_cases c2 : e.op = 2
    · simp [h2, h3, h5, h13, h14, h15, hc, encE_eq e, c1, c2]
      refine vcCall.call (find164 env e.name hl) (by simp) ?_
      simp [findR]
    by_cases c3 : e.op = 3
    · have hname := name_len (k7 (.inl c3))
      obtain ⟨v, rfl⟩ := list1 (l := R) (by rw [hRl]; exact args_of hn (n := 1) (by omega) (by rw [c3]; decide))
      obtain ⟨b, hb, _⟩ := atR_val (env := env) (a := e.name) (i := v)
      have hat := at165 env e.name v hl (by omega)
      rw [hb] at hat
      simp only [outN] at h5
      simp [h2, h3, h5, h13, h14, h15, hc, encE_eq e, c1, c2, c3]
      refine vcCall.call hat (by simp) ?_
      simp
    by_cases c24 : e.op = 24
    · have hname := name_len (k7 (.inr c24))
      simp [h2, h3, h5, h13, h14, h15, hc, encE_eq e, c1, c2, c3, c24]
      refine vcCall.call (sum166 env e.name hl (by omega)) (by simp) ?_
      simp
    · simp [h2, h3, h5, h13, h14, h15, hc, encE_eq e, c1, c2, c3, c24]
      refine vcCall.outN2 (by simp) (operate167 e.op R hrg (fun c => ?_) (fun c => ?_) (fun c22 c23 => ?_)) ?_
      · rw [hRl]; exact args_of hn (n := 3) (by omega) (by rw [c]; decide)
      · rw [hRl]; have := operands_in k5 c; omega
      · rw [hRl]; exact op_args hn c1 c2 c3 c24 c22 c23
      · simp
end Go.Proofs.YtpgcmnabljandaaGreatDoor
end
