/- A part of the proof. -/
import Derived.Test.YtpjdjolphpfanaaGreatDoorGa14
import Derived.ChangeArms
import Derived.DataReads
set_option linter.unusedVariables false
set_option linter.unusedSimpArgs false
set_option maxRecDepth 100000
set_option linter.defProp false
section
namespace Go.Proofs.YtpjdjolphpfanaaGreatDoor
open Go Go.Abs

theorem keyw_any (s : Str) : keyw.any (fun v => s == v) = keyw.contains s := by
  rw [List.any_beq]
theorem keyw_any' (s : Str) : keyw.any (fun v => v == s) = keyw.contains s := by
  rw [List.any_beq']
theorem iskw241 (s : Str) : Pure Tryz.prog GG 137 [.str s] (.bool (keyw.contains s)) := by
  refine Pure.vc mixed Tryz.func137 rfl (by kernel_rfl) ?_
  simp [GG]
  refine vcCall.call (contains101 GG keyw s (by decide)) (by simp) ?_
  rw [keyw_any]
  simp
theorem isName168 (s : Str) : Pure Tryz.prog GG 97 [.str s] (.bool (nameS s)) := by
  refine Pure.vc mixed Tryz.func97 rfl (by kernel_rfl) ?_
  simp
  refine vcCall.call (word240 GG s) rfl ?_
  cases h1 : wordS s
  · simp [nameS, h1]
  · by_cases h2 : s.length ≤ 16
    · have h2' : (s.length : Int) ≤ 16 := by omega
      simp [h2']
      refine vcCall.call (iskw241 s) rfl ?_
      simp [nameS, h1, h2]
    · have h2' : ¬ (s.length : Int) ≤ 16 := by omega
      simp [nameS, h1, h2, h2']
theorem keywords326 : Pure Tryz.prog GG 188 [] (.sl 1 (keyw.map encStr) .none) := by
  refine Pure.vc mixed Tryz.func188 rfl (by kernel_rfl) ?_
  simp [buildSliceA, rowsFill, keyw]
theorem iskw276 (s : Str) : Pure Tryz.prog GG 151 [.str s] (.bool (keyw.contains s)) := by
  refine Pure.vc mixed Tryz.func151 rfl (by kernel_rfl) ?_
  simp
  refine vcCall.call keywords326 rfl ?_
  refine vcCall.call (has325 GG keyw s (by decide)) (by simp) ?_
  rw [keyw_any']
  simp
theorem isName210 (s : Str) (hs : Fits s) : Pure Tryz.prog GG 115 [.str s] (.bool (nameS s)) := by
  refine Pure.vc mixed Tryz.func115 rfl (by kernel_rfl) ?_
  cases s with
  | nil => simp [nameS, wordS]
  | cons c r =>
    by_cases h16 : (c :: r).length ≤ 16
    · have h16' : ¬ (16 : Int) < (r.length : Int) + 1 := by simp at h16; omega
      simp [h16']
      refine vcCall.call (small275 GG c.toNat) rfl ?_
      cases hl : lowerI (c.toNat : Int)
      · simp [nameS, wordS, hl]
      · simp
        refine vcCall.call (iskw276 (c :: r)) rfl ?_
        cases hk : keyw.contains (c :: r)
        · simp
          refine vcLoop.intro (fun n env σ => ∃ i, i ≤ (c :: r).length ∧ n = (c :: r).length - i ∧ env 0 = .str (c :: r) ∧ env 3 = .int .i64 i ∧ σ = ⟨[], []⟩ ∧ ∀ x ∈ (c :: r).take i, innerB x = true) (c :: r).length ⟨0, by simp⟩ ?_
          rintro n env σ ⟨i, hi, rfl, h0, h3, rfl, hall⟩
          cases hv : (c :: r)[i]? with
          | some v =>
            obtain ⟨hc, hv'⟩ := List.getElem?_eq_some_iff.1 hv
            have htake : (c :: r).take (i + 1) = (c :: r).take i ++ [v] := by rw [List.take_add_one, hv]; rfl
            have hc1 : (i : Int) < r.length + 1 := by simp at hc; omega
            simp [h0, h3, hc1, hv, hv']
            refine vcCall.call (inner277 GG v.toNat) rfl ?_
            cases hin : innerI (v.toNat : Int)
            · have := wordS_bad (List.mem_of_getElem? hv) (show innerB v = false from hin)
              simp [nameS, this]
            · simp [h0, h3]
              refine ⟨_, by simp at hc; omega, i + 1, by simp at hc; omega, rfl, wr (by omega) (by simp at hc hs; omega), ?_⟩
              intro x hx
              rw [htake, List.mem_append] at hx
              rcases hx with hx | hx
              · exact hall x hx
              · rw [List.mem_singleton.1 hx]; exact hin
          | none =>
            have he : i = (c :: r).length := by simp at hv hi; simp; omega
            subst he
            have h1 : wordS (c :: r) = true := by
              simp only [wordS, Bool.and_eq_true]
              exact ⟨hl, List.all_eq_true.2 fun x hx => hall x (by simpa using hx)⟩
            have hn : nameS (c :: r) = true := by simp only [nameS, h1, hk, decide_eq_true h16]; rfl
            simp [h0, h3, hn]
        · have hn : nameS (c :: r) = false := by simp only [nameS, hk, Bool.not_true, Bool.and_false]
          simp [hn]
    · have h16' : (16 : Int) < (r.length : Int) + 1 := by simp at h16; omega
      have : nameS (c :: r) = false := by
        have : decide ((c :: r).length ≤ 16) = false := by simpa using h16
        simp only [nameS, this, Bool.and_false, Bool.false_and]
      simp [h16', this]

theorem indexByte_head {s : Str} : Lib.indexByte s 91 = if s.contains 91 = true then ((headS s).length : Int) else -1 := by
  unfold headS
  induction s with
  | nil => simp [Lib.indexByte]
  | cons c r ih =>
    by_cases hc : c = 91
    · subst hc; simp [Lib.indexByte]
    · have h1 : (c == 91) = false := by simpa using hc
      have h2 : ¬ (91 : UInt8) = c := fun e => hc e.symm
      simp only [Lib.indexByte, h1, Bool.false_eq_true, if_false, ih, List.contains_cons]
      have h3 : ((91 : UInt8) == c) = false := by simpa using h2
      have h4 : (c != 91) = true := by simpa using hc
      rw [h3, Bool.false_or, List.takeWhile_cons, if_pos h4]
      by_cases h5 : r.contains 91 = true
      · rw [if_pos h5, if_pos h5]
        have : ¬ (((r.takeWhile (· != 91)).length : Int) == -1) = true := by simp
        rw [if_neg this]
        simp
      · rw [if_neg h5, if_neg h5]; simp
theorem index317 (G : Nat → AV) (s : Str) : Pure Tryz.prog G 181 [.str s, .str [91]] (.int .i64 (Lib.indexByte s 91)) := by
  refine Pure.vc mixed Tryz.func181 rfl (by kernel_rfl) ?_
  by_cases h : [91] = s
  · subst h
    simp [Lib.indexByte]
  · simp [h]
    refine vcCall.call (indexByte368 G s 91) rfl ?_
    simp
theorem cut262 (G : Nat → AV) (s : Str) (hs : Fits s) (h : s.contains 91 = true) : Pure Tryz.prog G 138 [.str s, .str [91]] (.tup [.str (headS s), .str (tailS s), .bool true]) := by
  refine Pure.vc mixed Tryz.func138 rfl (by kernel_rfl) ?_
  simp
  refine vcCall.call (index317 G s) rfl ?_
  have e := cut_eq h
  have hl : s.length = (headS s).length + 1 + (tailS s).length := by
    have := congrArg List.length e
    rw [List.length_append, List.length_cons] at this
    omega
  have hlt : (headS s).length < s.length := by omega
  have t1 : s.take (headS s).length = headS s := by
    conv => lhs; arg 2; rw [e]
    simp
  have t2 : s.drop ((headS s).length + 1) = tailS s := by
    conv => lhs; arg 2; rw [e]
    simp
  rw [indexByte_head, if_pos h]
  have hw : IntKind.i64.wrap (((headS s).length : Int) + 1) = (headS s).length + 1 := wr (by omega) (by omega)
  have h1 : ((headS s).length : Int) ≤ s.length := by omega
  have h2 : ((headS s).length : Int) + 1 ≤ s.length := by omega
  have h3 : (0 : Int) ≤ (headS s).length + 1 := by omega
  have h4 : (((headS s).length : Int) + 1).toNat = (headS s).length + 1 := by omega
  have h5 : (headS s).length ≤ s.length := by omega
  simp [sliceA, boundA, hw, h1, h2, h3, h4, h5, t1, t2]
theorem cut262n (G : Nat → AV) (s : Str) (hs : Fits s) (h : s.contains 91 = false) : Pure Tryz.prog G 138 [.str s, .str [91]] (.tup [.str s, .str [], .bool false]) := by
  refine Pure.vc mixed Tryz.func138 rfl (by kernel_rfl) ?_
  simp
  refine vcCall.call (index317 G s) rfl ?_
  rw [indexByte_head, if_neg (by rw [h]; decide)]
  simp
theorem cut196 (G : Nat → AV) (s : Str) (hs : Fits s) (h : s.contains 91 = true) : Pure Tryz.prog G 98 [.str s, .str [91]] (.tup [.str (headS s), .str (tailS s), .bool true]) := by
  refine Pure.vc mixed Tryz.func98 rfl (by kernel_rfl) ?_
  simp
  refine vcCall.call (cut262 G s hs h) rfl ?_
  simp
theorem cut196n (G : Nat → AV) (s : Str) (hs : Fits s) (h : s.contains 91 = false) : Pure Tryz.prog G 98 [.str s, .str [91]] (.tup [.str s, .str [], .bool false]) := by
  refine Pure.vc mixed Tryz.func98 rfl (by kernel_rfl) ?_
  simp
  refine vcCall.call (cut262n G s hs h) rfl ?_
  simp

theorem small307 (i : Nat) (h : i < 9) : Pure Tryz.prog GG 275 [.int .i64 i] (.str [UInt8.ofNat (48 + i)]) := by
  refine Pure.vc mixed Tryz.func275 rfl (by kernel_rfl) ?_
  have hw : IntKind.i64.wrap ((i : Int) + 1) = (i : Int) + 1 := wr (by omega) (by omega)
  have h10 : (i : Int) < 10 := by omega
  have h11 : i < 10 := by omega
  have h36 : (i : Int) + 1 ≤ 36 := by omega
  have h37 : (0 : Int) ≤ (i : Int) + 1 := by omega
  have h38 : (i : Int) ≤ (i : Int) + 1 := by omega
  simp [h10, h11, hw, sliceA, boundA, h36, h37, h38]
  have : i = 0 ∨ i = 1 ∨ i = 2 ∨ i = 3 ∨ i = 4 ∨ i = 5 ∨ i = 6 ∨ i = 7 ∨ i = 8 := by omega
  rcases this with rfl | rfl | rfl | rfl | rfl | rfl | rfl | rfl | rfl <;> rfl
theorem itoa9 (i : Nat) (h : i < 9) : Pure Tryz.prog GG 139 [.int .i64 i] (.str [UInt8.ofNat (48 + i)]) := by
  refine Pure.vc mixed Tryz.func139 rfl (by kernel_rfl) ?_
  simp
  refine vcCall.call (r := .str [UInt8.ofNat (48 + i)]) ?_ rfl ?_
  · refine Pure.vc mixed Tryz.func182 rfl (by kernel_rfl) ?_
    simp
    refine vcCall.call (r := .str [UInt8.ofNat (48 + i)]) ?_ rfl ?_
    · refine Pure.vc mixed Tryz.func240 rfl (by kernel_rfl) ?_
      have h1 : (0 : Int) ≤ i := by omega
      have h2 : (i : Int) < 100 := by omega
      have h3 : i < 100 := by omega
      simp [h1, h2, h3]
      exact vcCall.call (small307 i h) rfl (by simp)
    · simp
  · simp
theorem itoa100 (i : Nat) (h : i < 8) : Pure Tryz.prog GG 139 [.int .i64 i] (.str [UInt8.ofNat (48 + i)]) := itoa9 i (by omega)
theorem element181 (a : Str) (i : Nat) (hi : i < 8) (ha : a.length ≤ 1000) : Pure Tryz.prog GG 99 [.str a, .int .i64 i] (.str (elemS a i)) := by
  refine Pure.vc mixed Tryz.func99 rfl (by kernel_rfl) ?_
  have h1 : a.length + 1 ≤ 4611686018427387904 := by omega
  have h2 : a.length + (1 + 1) ≤ 4611686018427387904 := by omega
  have h3 : a.length + (1 + (1 + 1)) ≤ 4611686018427387904 := by omega
  have h4 : a.length + 1 + 1 ≤ 4611686018427387904 := by omega
  have h5 : a.length + 1 + 1 + 1 ≤ 4611686018427387904 := by omega
  simp [h1]
  refine vcCall.call (itoa100 i hi) rfl ?_
  simp [h2, h3, h4, h5, elemS]

theorem name_len {s : Str} (h : nameS s = true) : s.length ≤ 16 := by
  simp only [nameS, Bool.and_eq_true, decide_eq_true_eq] at h
  exact h.1.2
theorem elemB_of {s : Str} {i : Nat} (hi : i < 8) (hn : nameS (headS s) = true) (h : s = elemS (headS s) i) : (elemO s).isSome = true := by
  rw [elemO_eq (a := headS s) (i := i) ⟨hi, hn, h⟩]; rfl
theorem elemB_no {s : Str} (h : ∀ i, i < 8 → s ≠ elemS (headS s) i) : elemO s = none := by
  rw [elemO_none]
  rintro a i hi
  have := hi.has.2.1
  exact h i hi.1 (by rw [this]; exact hi.2.2)
theorem elemB_no' {s : Str} (h : nameS (headS s) = false) : elemO s = none := by
  rw [elemO_none]
  rintro a i hi
  have := hi.has.2.1
  rw [this, hi.2.1] at h; cases h

theorem named123 (s : Str) (hs : Fits s) : Pure Tryz.prog GG 64 [.str s] (.bool (varS s)) := by
  refine Pure.vc mixed Tryz.func64 rfl (by kernel_rfl) ?_
  simp
  refine vcCall.call (isName168 s) rfl ?_
  cases hn : nameS s
  · simp
    by_cases hc : s.contains 91 = true
    · refine vcCall.call (cut196 GG s hs hc) rfl ?_
      simp
      refine vcCall.call (isName168 (headS s)) rfl ?_
      cases hh : nameS (headS s)
      · simp [varS, hn, elemB_no' hh]
      · simp
        refine vcLoop.intro (fun n env σ => ∃ i : Nat, i ≤ 8 ∧ n = 8 - i ∧ env 0 = .str s ∧ env 3 = .str (headS s) ∧ env 22 = .int .i64 i ∧ σ = ⟨[], []⟩ ∧ ∀ j, j < i → s ≠ elemS (headS s) j) 8 ⟨0, by simp⟩ ?_
        rintro n env σ ⟨i, hi, rfl, h0, h3, h22, rfl, hall⟩
        by_cases h8 : i < 8
        · have h8' : (i : Int) < 8 := by omega
          simp [h0, h3, h22, h8']
          refine vcCall.call (element181 (headS s) i h8 (by have := name_len hh; omega)) rfl ?_
          by_cases he : s = elemS (headS s) i
          · have hv : varS s = true := by simp [varS, elemB_of h8 hh he]
            rw [← he]
            simp [h0, hv]
          · simp [h0, h3, h22, he]
            refine ⟨_, by omega, i + 1, by omega, rfl, wr (by omega) (by omega), ?_⟩
            intro j hj e
            rcases Nat.lt_succ_iff_lt_or_eq.1 hj with hj | rfl
            · exact hall j hj e
            · exact he e
        · have h8' : ¬ (i : Int) < 8 := by omega
          have hv : varS s = false := by
            have : elemO s = none := elemB_no fun j hj => hall j (by omega)
            simp [varS, hn, this]
          simp [h0, h3, h22, h8', hv]
    · have hc' : s.contains 91 = false := by simpa using hc
      refine vcCall.call (cut196n GG s hs hc') rfl ?_
      simp [varS, hn, no_elem hc']
  · simp [varS, hn]

theorem format141 : ∀ (i : Nat), i < 8 → Pure Tryz.prog GG 116 [.int .i64 i] (.str [UInt8.ofNat (48 + i)]) := by
  have key : ∀ (i : Nat), i < 8 → IntKind.i64.wrap (-(i : Int)) = -i ∧ (-(i : Int)).tmod 10 = -i ∧ IntKind.i64.wrap (48 + (i : Int)) = 48 + i ∧ IntKind.u8.wrap (48 + (i : Int)) = 48 + i ∧ IntKind.i64.wrap (-((i : Int) / 10)) = 0 ∧ (48 + (i : Int)).toNat = 48 + i := by decide
  intro i hi
  obtain ⟨k1, k2, k3, k4, k5, k6⟩ := key i hi
  refine Pure.vc mixed Tryz.func116 rfl (by kernel_rfl) ?_
  simp
  have below : Pure Tryz.prog GG 153 [.int .i64 i] (.int .i64 (-i)) := by
    refine Pure.vc mixed Tryz.func153 rfl (by kernel_rfl) ?_
    by_cases h0 : i = 0
    · subst h0; simp
    · have : 0 < i := by omega
      simp [this, k1]
  refine vcCall.call below rfl ?_
  refine vcLoop.intro (fun n env σ => n = 1 ∧ env 0 = .int .i64 i ∧ env 3 = .str [] ∧ env 4 = .int .i64 (-i) ∧ σ = ⟨[], []⟩) 1 ⟨rfl, by simp⟩ ?_
  rintro n env σ ⟨rfl, h0, h3, h4, rfl⟩
  simp [h0, h3, h4, k2, k3, k4, k5, k6, buildSliceA, rowsFill, convA, bytesOf]

theorem element221 (a : Str) (i : Nat) (hi : i < 8) (ha : a.length ≤ 1000) : Pure Tryz.prog GG 82 [.str a, .int .i64 i] (.str (elemS a i)) := by
  refine Pure.vc mixed Tryz.func82 rfl (by kernel_rfl) ?_
  have h1 : a.length + 1 ≤ 4611686018427387904 := by omega
  have h2 : a.length + (1 + 1) ≤ 4611686018427387904 := by omega
  have h3 : a.length + (1 + (1 + 1)) ≤ 4611686018427387904 := by omega
  have h4 : a.length + 1 + 1 ≤ 4611686018427387904 := by omega
  have h5 : a.length + 1 + 1 + 1 ≤ 4611686018427387904 := by omega
  simp [h1]
  refine vcCall.call (format141 i hi) rfl ?_
  simp [h2, h3, h4, h5, elemS]

/-- What an element's name is taken apart to. -/
noncomputable def elemR (s : Str) : AV := match elemO s with
  | some (a, i) => .tup [.str a, .int .i64 i, .bool true]
  | none => .tup [.str [], .int .i64 0, .bool false]
theorem elemR_yes {s a : Str} {i : Nat} (h : IsElem s a i) : elemR s = .tup [.str a, .int .i64 i, .bool true] := by simp [elemR, elemO_eq h]
theorem elemR_no {s : Str} (h : elemO s = none) : elemR s = .tup [.str [], .int .i64 0, .bool false] := by simp [elemR, h]
theorem u8_of {c : UInt8} (h1 : 48 ≤ c.toNat) (h2 : c.toNat < 56) : UInt8.ofNat (48 + (c.toNat - 48)) = c := by
  have : 48 + (c.toNat - 48) = c.toNat := by omega
  rw [this]; simp
theorem isElem_of {s t : Str} {c : UInt8} (hn : nameS t = true) (h1 : 48 ≤ c.toNat) (h2 : c.toNat < 56) (h : s = t ++ [91, c, 93]) : IsElem s t (c.toNat - 48) :=
  ⟨by omega, hn, by rw [h, elemS, u8_of h1 h2]⟩
theorem elem_last {s a : Str} {i : Nat} (h : IsElem s a i) : s = a ++ [91, UInt8.ofNat (48 + i), 93] ∧ (UInt8.ofNat (48 + i)).toNat = 48 + i ∧ i < 8 := by
  refine ⟨h.2.2, ?_, h.1⟩
  have := h.1
  simp; omega

theorem element290 (s : Str) (hs : Fits s) : Pure Tryz.prog GG 184 [.str s] (elemR s) := by
  refine Pure.vc mixed Tryz.func184 rfl (by kernel_rfl) ?_
  simp
  cases hc : s.contains 91
  · refine vcCall.call (cut196n GG s hs hc) rfl ?_
    rw [elemR_no (no_elem hc)]
    simp
  · refine vcCall.call (cut196 GG s hs hc) rfl ?_
    simp
    refine vcCall.call (isName168 (headS s)) rfl ?_
    cases hn : nameS (headS s)
    · rw [elemR_no (elemB_no' hn)]
      simp
    · have no : (∀ c, tailS s = [c, 93] → ¬ (48 ≤ c.toNat ∧ c.toNat < 56)) → elemR s = .tup [.str [], .int .i64 0, .bool false] := by
        intro h
        refine elemR_no (elemO_none.2 fun a i hi => ?_)
        obtain ⟨e1, e2, e3⟩ := elem_last hi
        exact h _ hi.has.2.2 ⟨by omega, by omega⟩
      cases ht : tailS s with
      | nil => rw [no (by simp [ht])]; simp
      | cons c r1 =>
        cases r1 with
        | nil => rw [no (by simp [ht])]; simp
        | cons d r2 =>
          cases r2 with
          | cons e r3 =>
            have hl : ¬ ((r3.length : Int) + 1 + 1 + 1 = 2) := by omega
            rw [no (by simp [ht])]
            simp [hl]
          | nil =>
            by_cases hd : d = 93
            · subst hd
              by_cases h1 : 48 ≤ c.toNat
              · have h1' : ¬ (c.toNat : Int) < 48 := by omega
                by_cases h2 : c.toNat < 56
                · have h2' : ¬ (56 : Int) ≤ c.toNat := by omega
                  have e : IsElem s (headS s) (c.toNat - 48) := isElem_of hn h1 h2 (by have := cut_eq hc; rw [ht] at this; exact this)
                  rw [elemR_yes e]
                  have w1 : IntKind.u8.wrap ((c.toNat : Int) - 48) = c.toNat - 48 := by simp [IntKind.wrap, IntKind.bits, IntKind.signed]; omega
                  have w2 : IntKind.i64.wrap ((c.toNat : Int) - 48) = c.toNat - 48 := wr (by omega) (by omega)
                  have w3 : ((c.toNat : Int) - 48) = ((c.toNat - 48 : Nat) : Int) := by omega
                  simp [h1', h2', convA, w1, w2]
                  omega
                · have h2' : (56 : Int) ≤ c.toNat := by omega
                  rw [no (fun c' e => by rw [ht] at e; cases e; omega)]
                  simp [h1', h2']
              · have h1' : (c.toNat : Int) < 48 := by omega
                rw [no (fun c' e => by rw [ht] at e; cases e; omega)]
                simp [h1']
            · have hd' : ¬ (d.toNat : Int) = 93 := by
                intro e
                exact hd (UInt8.toNat_inj.1 (by simp; omega))
              rw [no (fun c' e => by rw [ht] at e; cases e; exact absurd rfl hd)]
              simp [hd']

theorem isVar229 (s : Str) (hs : Fits s) : Pure Tryz.prog GG 142 [.str s] (.bool (varS s)) := by
  refine Pure.vc mixed Tryz.func142 rfl (by kernel_rfl) ?_
  simp
  cases he : elemO s with
  | some p =>
    obtain ⟨a, i⟩ := p
    refine vcCall.call (by have := element290 s hs; rw [elemR_yes (elemO_some.1 he)] at this; exact this) rfl ?_
    simp [varS, he]
  | none =>
    refine vcCall.call (by have := element290 s hs; rw [elemR_no he] at this; exact this) rfl ?_
    simp
    refine vcCall.call (isName168 s) rfl ?_
    simp [varS, he]

theorem last3 {s : Str} (h : 3 ≤ s.length) : ∃ t x y z, s = t ++ [x, y, z] := by
  refine ⟨s.take (s.length - 3), s[s.length - 3]'(by omega), s[s.length - 2]'(by omega), s[s.length - 1]'(by omega), ?_⟩
  have e : s.drop (s.length - 3) = [s[s.length - 3]'(by omega), s[s.length - 2]'(by omega), s[s.length - 1]'(by omega)] := by
    rw [List.drop_eq_getElem_cons (by omega), List.drop_eq_getElem_cons (by omega), List.drop_eq_getElem_cons (by omega), List.drop_eq_nil_of_le (by omega)]
    simp only [List.cons.injEq, and_true, true_and]
    exact ⟨by congr 1; omega, by congr 1; omega⟩
  rw [← e, List.take_append_drop]
theorem elem_short {s : Str} (h : s.length < 4) : elemO s = none := by
  rw [elemO_none]
  intro a i hi
  have := nameS_ne hi.2.1
  have := List.length_pos_iff.2 this
  rw [hi.2.2] at h
  simp at h; omega
set_option maxHeartbeats 2000000 in
theorem split376 (s : Str) (hs : Fits s) : Pure Tryz.prog GG 186 [.str s] (elemR s) := by
  refine Pure.vc mixed Tryz.func186 rfl (by kernel_rfl) ?_
  by_cases h4 : s.length < 4
  · have h4' : (s.length : Int) < 4 := by omega
    rw [elemR_no (elem_short h4)]
    simp [h4']
  · obtain ⟨t, x, y, z, rfl⟩ := last3 (s := s) (by omega)
    have hl : (t ++ [x, y, z]).length = t.length + 3 := by simp
    rw [Fits, hl] at hs
    rw [hl] at h4
    have no : ¬ (x = 91 ∧ z = 93 ∧ 48 ≤ y.toNat ∧ y.toNat < 56 ∧ nameS t = true) → elemR (t ++ [x, y, z]) = .tup [.str [], .int .i64 0, .bool false] := by
      intro h
      refine elemR_no (elemO_none.2 fun a i hi => h ?_)
      obtain ⟨e1, e2, e3⟩ := elem_last hi
      obtain ⟨e4, e5⟩ := List.append_inj' e1 rfl
      cases e5
      subst e4
      exact ⟨rfl, rfl, by omega, by omega, hi.2.1⟩
    have h4' : ¬ (t.length : Int) + 3 < 4 := by omega
    have w1 : IntKind.i64.wrap ((t.length : Int) + 3 - 1) = ((t.length + 2 : Nat) : Int) := by rw [wr (by omega) (by omega)]; omega
    have w2 : IntKind.i64.wrap ((t.length : Int) + 3 - 2) = ((t.length + 1 : Nat) : Int) := by rw [wr (by omega) (by omega)]; omega
    have w3 : IntKind.i64.wrap (t.length : Int) = t.length := wr (by omega) (by omega)
    have w4 : IntKind.i64.wrap ((t.length : Int) + 3 - 3) = t.length := by rw [wr (by omega) (by omega)]; omega
    have g1 : (t ++ [x, y, z])[t.length + 2]? = some z := by simp
    have g2 : (t ++ [x, y, z])[t.length + 1]? = some y := by simp
    have g3 : (t ++ [x, y, z])[t.length]? = some x := by simp
    have g4 : (t ++ [x, y, z]).take t.length = t := by simp
    have n1 : ((t.length : Int) + 2).toNat = t.length + 2 := by omega
    have n2 : ((t.length : Int) + 1).toNat = t.length + 1 := by omega
    have p1 : (0 : Int) ≤ (t.length : Int) + 2 := by omega
    have p2 : (0 : Int) ≤ (t.length : Int) + 1 := by omega
    have hle : t.length ≤ t.length + 3 := by omega
    have hn210 := isName210 t (show t.length < _ by omega)
    have yes : x = 91 → z = 93 → 48 ≤ y.toNat → y.toNat < 56 → nameS t = true → elemR (t ++ [x, y, z]) = .tup [.str t, .int .i64 ((y.toNat : Int) - 48), .bool true] := by
      rintro rfl rfl h1 h2 h3
      rw [elemR_yes (isElem_of h3 h1 h2 rfl)]
      congr 4
      omega
    generalize hS : t ++ [x, y, z] = S at *
    generalize t.length = T at *
    have q1 : S[T + 2]'(by omega) = z := (List.getElem?_eq_some_iff.1 g1).2
    have q2 : S[T + 1]'(by omega) = y := (List.getElem?_eq_some_iff.1 g2).2
    have q3 : S[T]'(by omega) = x := (List.getElem?_eq_some_iff.1 g3).2
    have le3 : (T : Int) ≤ (T : Int) + 3 := by omega
    by_cases hz : z = 93
    · by_cases hx : x = 91
      · subst hx hz
        have wy1 : IntKind.i64.wrap (y.toNat : Int) = y.toNat := by have := y.toNat_lt; exact wr (by omega) (by omega)
        have wy2 : IntKind.i64.wrap ((y.toNat : Int) - 48) = y.toNat - 48 := by have := y.toNat_lt; exact wr (by omega) (by omega)
        by_cases h1 : 48 ≤ y.toNat
        · by_cases h2 : y.toNat < 56
          · have h1' : ¬ (y.toNat : Int) - 48 < 0 := by omega
            have h2' : ¬ (8 : Int) ≤ (y.toNat : Int) - 48 := by omega
            simp [hl, h4', w1, w2, w3, w4, q1, q2, q3, le3, g4, n1, n2, p1, p2, hle, convA, wy1, wy2, h1', h2', sliceA, boundA]
            refine vcCall.call hn210 rfl ?_
            cases hnt : nameS t
            · rw [no (fun h => by rw [hnt] at h; cases h.2.2.2.2)]
              simp
            · rw [yes rfl rfl h1 h2 hnt]
              simp
          · rw [no (fun h => h2 h.2.2.2.1)]
            have h1' : ¬ (y.toNat : Int) - 48 < 0 := by omega
            have h2' : (8 : Int) ≤ (y.toNat : Int) - 48 := by omega
            simp [hl, h4', w1, w2, w3, w4, q1, q2, q3, le3, g4, n1, n2, p1, p2, hle, convA, wy1, wy2, h1', h2', sliceA, boundA]
        · rw [no (fun h => h1 h.2.2.1)]
          have h1' : (y.toNat : Int) - 48 < 0 := by omega
          simp [hl, h4', w1, w2, w3, w4, q1, q2, q3, le3, g4, n1, n2, p1, p2, hle, convA, wy1, wy2, h1', sliceA, boundA]
      · have hx' : ¬ (x.toNat : Int) = 91 := by
          intro e
          exact hx (UInt8.toNat_inj.1 (by simp; omega))
        rw [no (fun h => hx h.1)]
        subst hz
        simp [hl, h4', w1, w2, w3, w4, q1, q2, q3, le3, g4, n1, n2, p1, p2, hx']
    · have hz' : ¬ (z.toNat : Int) = 93 := by
        intro e
        exact hz (UInt8.toNat_inj.1 (by simp; omega))
      rw [no (fun h => hz h.2.1)]
      simp [hl, h4', w1, w2, w3, w4, q1, q2, q3, le3, g4, n1, n2, p1, p2, hz']
theorem isVar347 (s : Str) (hs : Fits s) : Pure Tryz.prog GG 149 [.str s] (.bool (varS s)) := by
  refine Pure.vc mixed Tryz.func149 rfl (by kernel_rfl) ?_
  simp
  cases he : elemO s with
  | some p =>
    obtain ⟨a, i⟩ := p
    refine vcCall.call (by have := split376 s hs; rw [elemR_yes (elemO_some.1 he)] at this; exact this) rfl ?_
    simp [varS, he]
  | none =>
    refine vcCall.call (by have := split376 s hs; rw [elemR_no he] at this; exact this) rfl ?_
    simp
    refine vcCall.call (isName210 s hs) rfl ?_
    simp [varS, he]

theorem named220 (s : Str) (hs : Fits s) : Pure Tryz.prog GG 81 [.str s] (.bool (varS s)) := by
  refine Pure.vc mixed Tryz.func81 rfl (by kernel_rfl) ?_
  simp
  refine vcCall.call (isName210 s hs) rfl ?_
  cases hn : nameS s
  · simp
    refine vcLoop.intro (fun n env σ => ∃ k : Nat, 1 ≤ k ∧ k ≤ s.length + 1 ∧ n = s.length + 1 - k ∧ env 0 = .str s ∧ env 3 = .int .i64 k ∧ σ = ⟨[], []⟩ ∧ ∀ a i, IsElem s a i → ¬ a.length < k) s.length ⟨1, by simp, by simp, by simp, by simp, by simp, rfl, fun a i hi => by have := List.length_pos_iff.2 (nameS_ne hi.2.1); omega⟩ ?_
    rintro n env σ ⟨k, hk1, hk, rfl, h0, h3, rfl, hall⟩
    by_cases hlt : k < s.length
    · have hlt' : (k : Int) < s.length := by omega
      have hle' : (k : Int) ≤ s.length := by omega
      have hle : k ≤ s.length := by omega
      have step : (∀ a i, IsElem s a i → a.length ≠ k) → ∀ a i, IsElem s a i → ¬ a.length < k + 1 := fun h a i hi hl => by
        rcases Nat.lt_succ_iff_lt_or_eq.1 hl with h1 | h1
        · exact hall a i hi h1
        · exact h a i hi h1
      have at91 : ∀ a i, IsElem s a i → a.length = k → s[k] = 91 ∧ s.take k = a := fun a i hi hl => by
        obtain ⟨_, _, rfl⟩ := hi
        subst hl
        simp [elemS]
      have hw : IntKind.i64.wrap ((k : Int) + 1) = ((k + 1 : Nat) : Int) := by rw [wr (by omega) (by omega)]; omega
      by_cases hc : s[k] = 91
      · simp [h0, h3, hlt, hc, sliceA, boundA, hle, hle']
        refine vcCall.call (isName210 (s.take k) (by simp; omega)) rfl ?_
        cases ht : nameS (s.take k)
        · simp [h0, h3, hw]
          refine ⟨_, by omega, k + 1, by omega, by omega, rfl, rfl, fun a i hi => Nat.not_lt.1 (step (fun a i hi hl => ?_) a i hi)⟩
          have := (at91 a i hi hl).2
          rw [this, hi.2.1] at ht; cases ht
        · simp [h0, h3]
          refine vcLoop.intro (fun n env σ => ∃ i : Nat, i ≤ 8 ∧ n = 8 - i ∧ env 0 = .str s ∧ env 3 = .int .i64 k ∧ env 4 = .int .i64 i ∧ σ = ⟨[], []⟩ ∧ ∀ j, j < i → s ≠ elemS (s.take k) j) 8 ⟨0, by simp [h0, h3]⟩ ?_
          rintro n env σ ⟨i, hi, rfl, h0, h3, h4, rfl, hin⟩
          by_cases h8 : i < 8
          · have h8' : (i : Int) < 8 := by omega
            simp [h0, h3, h4, h8', sliceA, boundA, hle, hle']
            refine vcCall.call (element221 (s.take k) i h8 (by have := name_len ht; omega)) rfl ?_
            by_cases he : s = elemS (s.take k) i
            · have hv : varS s = true := by simp [varS, elemO_eq (show IsElem s (s.take k) i from ⟨h8, ht, he⟩)]
              rw [← he]
              simp [h0, hv]
            · simp [h0, h3, h4, he]
              refine ⟨_, by omega, i + 1, by omega, rfl, wr (by omega) (by omega), ?_⟩
              intro j hj e
              rcases Nat.lt_succ_iff_lt_or_eq.1 hj with hj | rfl
              · exact hin j hj e
              · exact he e
          · have h8' : ¬ (i : Int) < 8 := by omega
            simp [h0, h3, h4, h8', hw]
            refine ⟨_, by omega, k + 1, by omega, by omega, rfl, rfl, fun a i hi => Nat.not_lt.1 (step (fun a i' hi' hl => ?_) a i hi)⟩
            have := (at91 a i' hi' hl).2
            exact hin i' (by have := hi'.1; omega) (by rw [this]; exact hi'.2.2)
      · have hc' : ¬ (s[k].toNat : Int) = 91 := by
          intro e
          exact hc (UInt8.toNat_inj.1 (by simp; omega))
        simp [h0, h3, hlt, hc', hw]
        refine ⟨_, by omega, k + 1, by omega, by omega, rfl, rfl, fun a i hi => Nat.not_lt.1 (step (fun a i hi hl => ?_) a i hi)⟩
        exact hc (at91 a i hi hl).1
    · have hlt' : ¬ (k : Int) < s.length := by omega
      have hv : varS s = false := by
        have : elemO s = none := elemO_none.2 fun a i hi => hall a i hi (by rw [hi.2.2] at hlt; simp at hlt; omega)
        simp [varS, hn, this]
      simp [h0, h3, hlt, hv]
  · simp [varS, hn]
section

theorem runW_pre {S : Type} {stp : S → Ex → S × Bool} {s : S} {e : Ex} : runW stp s (pre e) = if (stp s e).2 = true then runW stp (stp s e).1 (preL e.args) else ((stp s e).1, false) := by
  rw [pre_eq, runW]
theorem look {hd : List Blk} {c : Nat} (hc : hd.length = c) {t : List Blk} {k : Nat} : (hd ++ t)[c + k]? = t[k]? := by
  subst hc; rw [List.getElem?_append_right (by omega)]; simp
theorem look1 {tail t : List Blk} {k : Nat} {b : Blk} (h : tail[k]? = some b) : (tail ++ t)[k]? = some b := by
  rw [List.getElem?_append_left (List.getElem?_eq_some_iff.1 h).1, h]

/-- Operands and names that no counter outgrows. -/
def Wen (e : Ex) : Prop := ∀ x ∈ pre e, Fits x.args ∧ Fits x.name
theorem Wen.fits {e : Ex} (h : Wen e) : Fits e.args := (h e (by rw [pre_eq]; simp)).1
theorem Wen.nm {e : Ex} (h : Wen e) : Fits e.name := (h e (by rw [pre_eq]; simp)).2
theorem Wen.arg {e a : Ex} (h : Wen e) (ha : a ∈ e.args) : Wen a := fun x hx => h x (by rw [pre_eq]; exact List.mem_cons_of_mem _ (mem_preL.2 ⟨a, ha, hx⟩))

section
variable {S : Type} {stp : S → Ex → S × Bool} {hd : S → List Blk} {T : S → List (Option Nat)} {c : Nat} {vf : FuncId} {cap : List AV} {m : S → Nat}

/-- What the visits do; 'm': how many there may be. -/
def Visits (stp : S → Ex → S × Bool) (hd : S → List Blk) (T : S → List (Option Nat)) (vf : FuncId) (cap : List AV) (m : S → Nat) : Prop :=
  ∀ s tail e, Wen e → 0 < m s → ACall Tryz.prog GG vf (.agg (encE e) :: cap) ⟨hd s ++ tail, T s⟩ (fun r σ' => r = .bool (stp s e).2 ∧ ∃ t, σ' = ⟨hd (stp s e).1 ++ (tail ++ t), T (stp s e).1⟩)

theorem runW_m (hm : ∀ s e, m s ≤ m (stp s e).1 + 1) : ∀ (s : S) (l : List Ex), m s ≤ m (runW stp s l).1 + l.length
  | s, [] => by simp [runW]
  | s, e :: r => by
    simp only [runW]
    split
    · have := hm s e
      have := runW_m hm (stp s e).1 r
      simp; omega
    · have := hm s e
      simp; omega
theorem down227 (hc : ∀ s, (hd s).length = c) (hm : ∀ s e, m s ≤ m (stp s e).1 + 1) (hv : Visits stp hd T vf cap m) : ∀ e, Wen e → ∀ s tail kb kd, (pre e).length ≤ m s → tail[kb]? = some (.cells [.fn vf [] cap]) → tail[kd]? = some (.cells [.fn 140 [] [.ptr (c + kb) 0, .ptr (c + kd) 0]]) →
    ACall Tryz.prog GG 140 [.agg (encE e), .ptr (c + kb) 0, .ptr (c + kd) 0] ⟨hd s ++ tail, T s⟩ (fun r σ' => r = .bool (runW stp s (pre e)).2 ∧ ∃ t, σ' = ⟨hd (runW stp s (pre e)).1 ++ (tail ++ t), T (runW stp s (pre e)).1⟩) := by
  refine Ex.ind fun e ih hwe s tail kb kd hsz hb hd' => ?_
  rw [pre_eq, List.length_cons] at hsz
  refine ACall.vc mixed Tryz.func140 rfl (by kernel_rfl) ?_
  have lb : ∀ s t, (hd s ++ (tail ++ t))[c + kb]? = some (.cells [.fn vf [] cap]) := fun s t => by rw [look (hc s), look1 hb]
  have ld : ∀ s t, (hd s ++ (tail ++ t))[c + kd]? = some (.cells [.fn 140 [] [.ptr (c + kb) 0, .ptr (c + kd) 0]]) := fun s t => by rw [look (hc s), look1 hd']
  have lx : ∀ s (t : List Blk) (x : Blk) (u : List Blk), (hd s ++ (tail ++ (t ++ x :: u)))[c + (tail.length + t.length)]? = some x := fun s t x u => by
    rw [look (hc s), List.getElem?_append_right (by omega), List.getElem?_append_right (by omega)]
    simp
  have lx0 : ∀ s (x : Blk) (u : List Blk), (hd s ++ (tail ++ (x :: u)))[c + tail.length]? = some x := fun s x u => by
    have := lx s [] x u
    simpa using this
  simp [encE_eq, hc, lb, ld, lx0]
  rw [← encE_eq e]
  refine ACall.imp (hv s (tail ++ [.cells (encE e)]) e hwe (by omega)) ?_
  rintro r σ' ⟨rfl, t, rfl⟩
  have e0 : hd (stp s e).1 ++ (tail ++ [Blk.cells (encE e)] ++ t) = hd (stp s e).1 ++ (tail ++ (Blk.cells (encE e) :: t)) := by simp
  rw [e0]
  cases hst : (stp s e).2
  · simp [runW_pre, hst]
  · have hl := hwe.fits
    simp only [encE_eq e]
    simp [hc, lx0]
    refine vcLoop.intro (fun n env σ => ∃ i s' tl, i ≤ e.args.length ∧ n = e.args.length - i ∧ env 1 = .ptr (c + kb) 0 ∧ env 2 = .ptr (c + kd) 0 ∧ env 12 = .sl 4 (e.args.map encE) .none ∧ env 13 = .int .i64 e.args.length ∧ env 14 = .int .i64 i ∧ σ = ⟨hd s' ++ (tail ++ tl), T s'⟩ ∧ (preL (e.args.drop i)).length ≤ m s' ∧ runW stp s (pre e) = runW stp s' (preL (e.args.drop i))) e.args.length ⟨0, (stp s e).1, _, by simp, by simp, by simp, by simp, by simp, by simp, by simp, rfl, by have := hm s e; simp; omega, by rw [runW_pre, hst]; simp⟩ ?_
    rintro n env σ ⟨i, s', tl, hi, rfl, h1, h2, h12, h13, h14, rfl, hsz', hrun⟩
    cases hv' : e.args[i]? with
    | none =>
      have hcn : ¬ i < e.args.length := by simp at hv'; omega
      have hd0 : e.args.drop i = [] := by simp; omega
      rw [hd0] at hrun
      simp [h1, h2, h12, h13, h14, hcn, hrun, runW]
    | some a =>
      obtain ⟨hcn, hve⟩ := List.getElem?_eq_some_iff.1 hv'
      have hma := List.mem_of_getElem? hv'
      rw [drop_cons hv', preL_cons, runW_append] at hrun
      rw [drop_cons hv', preL_cons, List.length_append] at hsz'
      have hmr := runW_m hm s' (pre a)
      have set1 : ∀ (z x : Blk), (hd s' ++ (tail ++ (tl ++ [z]))).set (c + (tail.length + tl.length)) x = hd s' ++ (tail ++ (tl ++ [x])) := fun z x => by
        rw [List.set_append, if_neg (by rw [hc]; omega), hc, List.set_append, if_neg (by omega), List.set_append, if_neg (by omega)]
        have : c + (tail.length + tl.length) - c - tail.length - tl.length = 0 := by omega
        rw [this]; rfl
      simp [h1, h2, h12, h13, h14, hcn, hve, encE_eq a, hc, lx, set1, lb, ld]
      rw [← encE_eq a]
      refine ACall.imp (ih a hma (hwe.arg hma) s' (tail ++ (tl ++ [.cells (encE a)])) kb kd (by omega) (look1 hb) (look1 hd')) ?_
      rintro r σ' ⟨rfl, t', rfl⟩
      cases hr : (runW stp s' (pre a)).2
      · rw [hr] at hrun
        simp only [Bool.false_eq_true, if_false] at hrun
        simp [hrun, hr]
      · rw [hr] at hrun
        simp only [if_true] at hrun
        simp [h1, h2, h12, h13, h14]
        exact ⟨_, by omega, i + 1, by omega, rfl, wr (by omega) (by omega), _, ⟨⟨_, rfl⟩, rfl⟩, by omega, hrun⟩

theorem walk149 (hc : ∀ s, (hd s).length = c) (hm : ∀ s e, m s ≤ m (stp s e).1 + 1) (hv : Visits stp hd T vf cap m) (e : Ex) (hwe : Wen e) (s : S) (hsz : (pre e).length ≤ m s) (tail : List Blk) :
    ACall Tryz.prog GG 103 [.agg (encE e), .fn vf [] cap] ⟨hd s ++ tail, T s⟩ (fun r σ' => ∃ t, σ' = ⟨hd (runW stp s (pre e)).1 ++ (tail ++ t), T (runW stp s (pre e)).1⟩) := by
  refine ACall.vc mixed Tryz.func103 rfl (by kernel_rfl) ?_
  have set2 : ∀ (x y z w : Blk), (hd s ++ (tail ++ [x, y, z])).set (c + (tail.length + (1 + 1))) w = hd s ++ (tail ++ [x, y, w]) := fun x y z w => by
    rw [List.set_append, if_neg (by rw [hc]; omega), hc, List.set_append, if_neg (by omega)]
    have : c + (tail.length + (1 + 1)) - c - tail.length = 2 := by omega
    rw [this]; rfl
  have l0 : ∀ (x : Blk) (u : List Blk), (hd s ++ (tail ++ (x :: u)))[c + tail.length]? = some x := fun x u => by
    rw [look (hc s), List.getElem?_append_right (by omega)]; simp
  have l2 : ∀ (x y z : Blk) (u : List Blk), (hd s ++ (tail ++ (x :: y :: z :: u)))[c + (tail.length + (1 + 1))]? = some z := fun x y z u => by
    rw [look (hc s), List.getElem?_append_right (by omega)]
    have : tail.length + (1 + 1) - tail.length = 2 := by omega
    rw [this]; rfl
  simp [encE_eq e, hc, set2, l0, l2]
  rw [← encE_eq e]
  have k := down227 hc hm hv e hwe s (tail ++ [.cells (encE e), .cells [.fn vf [] cap], .cells [.fn 140 [] [.ptr (c + (tail.length + 1)) 0, .ptr (c + (tail.length + 1) + 1) 0]]]) (tail.length + 1) (tail.length + 1 + 1) hsz
    (by rw [List.getElem?_append_right (by omega)]; have : tail.length + 1 - tail.length = 1 := by omega
        rw [this]; rfl)
    (by rw [List.getElem?_append_right (by omega)]; have : tail.length + 1 + 1 - tail.length = 2 := by omega
        rw [this]; rfl)
  refine ACall.imp k ?_
  rintro r σ' ⟨_, t, rfl⟩
  exact ⟨_, by rw [List.append_assoc]⟩
end
end
section

theorem list_choose {α : Type} {R : Nat → α → Prop} : ∀ (n : Nat), (∀ i, i < n → ∃ y, R i y) → ∃ l : List α, l.length = n ∧ ∀ i y, l[i]? = some y → R i y
  | 0, _ => ⟨[], rfl, by simp⟩
  | n + 1, h => by
    obtain ⟨l, h1, h2⟩ := list_choose n fun i hi => h i (by omega)
    obtain ⟨y, hy⟩ := h n (by omega)
    refine ⟨l ++ [y], by simp [h1], fun i z hz => ?_⟩
    rw [List.getElem?_append] at hz
    split at hz
    · exact h2 i z hz
    · rename_i hi
      have : i - l.length = 0 := by
        rcases Nat.eq_zero_or_pos (i - l.length) with h0 | h0
        · exact h0
        · rw [List.getElem?_eq_none (by simp; omega)] at hz; cases hz
      rw [this] at hz
      cases hz
      have : i = n := by omega
      subst this
      exact hy

section
variable {H : Type} {enc : TypeId × Value → H} {w : World} {base : Nat} {held : Bool}
/-- All that is known: memory as it stands. -/
abbrev KMw (w : World) : Kn := Go.Abs.K0 (roAll w)

theorem VRels.get {K : Kn} : ∀ {l : List AV} {vs : List Value}, VRels K l vs → vs.length = l.length ∧ ∀ (j : Nat) (a : AV), l[j]? = some a → ∃ v, vs[j]? = some v ∧ VRel K a v
  | [], _, h => by simp only [VRels] at h; subst h; simp
  | a :: r, _, h => by
    simp only [VRels] at h
    obtain ⟨v, vr, rfl, h1, h2⟩ := h
    obtain ⟨k1, k2⟩ := VRels.get h2
    refine ⟨by simp [k1], fun j b hj => ?_⟩
    cases j with
    | zero => simp at hj; subst hj; exact ⟨v, rfl, h1⟩
    | succ j => simp at hj; exact k2 j b hj

theorem rd_sliceX {α : Type} {t e sz : Nat} {en : α → List AV} {good : α → Prop} {X : DataW H → Prop} {n : Nat} (ht : Tryz.prog.underlying t = some (.slice e)) (hsz : Tryz.prog.cellsOf e = sz) (hpos : 0 < sz)
    (hat : ∀ y, (en y).all AV.atom = true ∧ (en y).length = sz)
    (hel : ∀ cs x, DataW.trod enc Tryz.prog w base (fun _ => true) held n e cs = some x → X x.1 → ∃ y, VRels (KMw w) (en y) cs ∧ good y)
    {cs : List Value} {x : DataW H × List MemPlace} (h : DataW.trod enc Tryz.prog w base (fun _ => true) held (n + 1) t cs = some x) (hX : ∀ E S, x.1 = .slice E S → ∀ d ∈ E, X d) :
    ∃ (l : List α) (v : Value), cs = [v] ∧ VRel (KMw w) (.sl sz (l.map en) .none) v ∧ Fits l ∧ (∀ y ∈ l, good y) ∧ ∀ N, (∀ E S, x.1 = .slice E S → E.length ≤ N) → l.length ≤ N := by
  rcases DataW.trod_slice ht h with ⟨rfl, rfl⟩ | ⟨a, len, cap, elems, rest, m, hm, rfl, rfl, hb, hl, hc, hlen, hel', hsp, _⟩
  · exact ⟨[], _, rfl, by simp only [VRel]; exact .inl ⟨⟨none, rfl, .inl rfl⟩, rfl, trivial⟩, by simp, by simp, by simp⟩
  · have hnm : n = m := by omega
    subst hnm
    rw [hsz] at hel' hsp
    have one : ∀ i, i < len → ∃ y, ∃ cs', w.cells? base (a.add (i * sz)) sz = some cs' ∧ VRels (KMw w) (en y) cs' ∧ good y := by
      intro i hi
      have := hel' i hi
      rw [List.getElem?_eq_getElem (by omega)] at this
      obtain ⟨cs', h1, h2⟩ := Option.bind_eq_some_iff.1 this
      obtain ⟨y, h3, h4⟩ := hel cs' _ h2 (hX _ _ rfl _ (List.mem_map_of_mem (List.getElem_mem _)))
      exact ⟨y, cs', h1, h3, h4⟩
    by_cases h0 : cap = 0
    · have hl0 : len = 0 := by omega
      subst h0 hl0
      exact ⟨[], _, rfl, by simp only [VRel]; exact .inl ⟨⟨some a, rfl, .inr trivial⟩, rfl, trivial⟩, by simp, by simp, by simp⟩
    · have spot : a.spot = none := by
        have rd : ∃ cs', w.cells? base (a.add 0) sz = some cs' := by
          by_cases hl0 : 0 < len
          · obtain ⟨_, cs', h1, _⟩ := one 0 hl0
            rw [Nat.zero_mul] at h1
            exact ⟨cs', h1⟩
          · obtain ⟨hr1, hr2⟩ := hsp rfl
            have := hr2 0 (by omega)
            rw [List.getElem?_eq_getElem (by omega), show len + 0 = 0 by omega, Nat.zero_mul] at this
            obtain ⟨cs', h1, _⟩ := Option.bind_eq_some_iff.1 this
            exact ⟨cs', h1⟩
        obtain ⟨cs', h1⟩ := rd
        obtain ⟨_, hlen', hc'⟩ := World.cells?_some h1
        have := hc' 0 hpos
        rw [List.getElem?_eq_getElem (by omega)] at this
        cases hs : a.spot with
        | none => rfl
        | some s =>
          simp only [Addr.add, if_true] at this
          unfold World.cell? at this
          rw [hs] at this
          split at this <;> simp at this
      obtain ⟨b, o, s⟩ := a
      simp only at spot
      subst spot
      obtain ⟨l, hl1, hl2⟩ := list_choose len one
      refine ⟨l, _, rfl, ?_, by rw [Fits, hl1]; simp only [maxLen] at hc; omega, fun y hy => ?_, fun N hN => ?_⟩
      · simp only [VRel]
        refine .inr ⟨b, o, cap, by simp [hl1], by simpa [hl1] using hl, RowsAt.intro b sz _ o fun i r e => ?_, trivial⟩
        rw [List.getElem?_map, Option.map_eq_some_iff] at e
        obtain ⟨y, hy, rfl⟩ := e
        obtain ⟨cs', h1, h2, _⟩ := hl2 i y hy
        obtain ⟨h3, h4⟩ := hat y
        obtain ⟨_, hlen', hc'⟩ := World.cells?_some h1
        obtain ⟨g1, g2⟩ := VRels.get h2
        refine ⟨h4, h3, CellsAt.intro b _ _ fun j z hz => ?_⟩
        obtain ⟨v, hv1, hv2⟩ := g2 j z hz
        have hjl : j < sz := by rw [← hlen']; exact (List.getElem?_eq_some_iff.1 hv1).1
        refine ⟨v, ?_, hv2⟩
        have := hc' j hjl
        rw [hv1] at this
        show w.cell? ⟨b, o + i * sz + j, none⟩ = some v
        rw [← this]
        congr 1
        simp only [Addr.add]
        by_cases hi0 : i * sz = 0
        · rw [if_pos hi0]
          by_cases hj0 : j = 0
          · rw [if_pos hj0, hi0, hj0]; simp
          · rw [if_neg hj0, hi0]; simp
        · rw [if_neg hi0]
          by_cases hj0 : j = 0
          · rw [if_pos hj0, hj0]; simp
          · rw [if_neg hj0]
      · obtain ⟨i, hi⟩ := List.getElem?_of_mem hy
        obtain ⟨_, _, _, hg⟩ := hl2 i y hi
        exact hg
      · have := hN _ _ rfl
        simp only [List.length_map] at this
        omega
theorem rd_slice {α : Type} {t e sz : Nat} {en : α → List AV} {good : α → Prop} {n : Nat} (ht : Tryz.prog.underlying t = some (.slice e)) (hsz : Tryz.prog.cellsOf e = sz) (hpos : 0 < sz)
    (hat : ∀ y, (en y).all AV.atom = true ∧ (en y).length = sz)
    (hel : ∀ cs x, DataW.trod enc Tryz.prog w base (fun _ => true) held n e cs = some x → ∃ y, VRels (KMw w) (en y) cs ∧ good y)
    {cs : List Value} {x : DataW H × List MemPlace} (h : DataW.trod enc Tryz.prog w base (fun _ => true) held (n + 1) t cs = some x) :
    ∃ (l : List α) (v : Value), cs = [v] ∧ VRel (KMw w) (.sl sz (l.map en) .none) v ∧ Fits l ∧ ∀ y ∈ l, good y := by
  obtain ⟨l, v, h1, h2, h3, h4, _⟩ := rd_sliceX (X := fun _ => True) ht hsz hpos hat (fun cs x h _ => hel cs x h) h (fun _ _ _ _ _ => trivial)
  exact ⟨l, v, h1, h2, h3, h4⟩
end
end

/-- At most so many levels, and nodes with at most 40 operands. -/
def shortS : Ex → Nat → Bool
  | _, 0 => false
  | e, k + 1 => decide (e.args.length ≤ 40) && e.args.all fun a => shortS a k
theorem hgtL_le {n : Nat} : ∀ {l : List Ex}, (∀ a ∈ l, hgt a ≤ n) → hgtL l ≤ n
  | [], _ => by simp
  | a :: r, h => by
    have h1 := h a (by simp)
    have h2 := hgtL_le (l := r) fun x hx => h x (by simp [hx])
    simp; omega
theorem short_hgt : ∀ {k : Nat} {e : Ex}, shortS e k = true → hgt e ≤ k
  | 0, e, h => by simp [shortS] at h
  | k + 1, e, h => by
    simp only [shortS, Bool.and_eq_true, List.all_eq_true] at h
    have := hgtL_le (l := e.args) fun a ha => short_hgt (h.2 a ha)
    rw [hgt_eq]; omega
def nodesN : Nat → Nat
  | 0 => 0
  | k + 1 => 1 + 40 * nodesN k
theorem preL_le {n : Nat} : ∀ {l : List Ex}, (∀ a ∈ l, (pre a).length ≤ n) → (preL l).length ≤ l.length * n
  | [], _ => by simp
  | a :: r, h => by
    have h1 := h a (by simp)
    have h2 := preL_le (l := r) fun x hx => h x (by simp [hx])
    simp only [preL_cons, List.length_append, List.length_cons, Nat.add_mul, Nat.one_mul]
    omega
theorem short_nodes : ∀ {k : Nat} {e : Ex}, shortS e k = true → (pre e).length ≤ nodesN k
  | 0, e, h => by simp [shortS] at h
  | k + 1, e, h => by
    simp only [shortS, Bool.and_eq_true, List.all_eq_true, decide_eq_true_eq] at h
    have h1 := preL_le (l := e.args) fun a ha => short_nodes (h.2 a ha)
    have h2 : e.args.length * nodesN k ≤ 40 * nodesN k := Nat.mul_le_mul_right _ h.1
    rw [pre_eq]
    simp only [List.length_cons, nodesN]
    omega
theorem short8 {e : Ex} (h : shortS e 8 = true) : hgt e ≤ 8 ∧ (pre e).length ≤ 200000000000 := by
  have h1 := short_nodes h
  have h2 : nodesN 8 = 168041025641 := by decide
  exact ⟨short_hgt h, by omega⟩

/-! ### Histories -/
/-- A value that may stand at a place of a list of values that were used. -/
def okN (w : Int) (l : List Int) (n : Int) : Bool := decide (0 ≤ n) && decide (n < 2 ^ w.toNat) && !(l.any (n == ·))
def okL (w : Int) (l : List Int) : Bool := (List.range l.length).all fun k => okN w (l.take k) (l.getD k 0)
def okV (v : Var) (l : List Int) : Bool := (v.mode == 2 || l.isEmpty) && okL v.width l
def fitsS (vs : List Var) (c : List (List Int)) : Bool := decide (c.length = vs.length) && (vs.zip c).all fun x => okV x.1 x.2
/-- The values that are left: those of a width that a list does not have. -/
def restS (w : Int) (l : List Int) : List Int := ((List.range (2 ^ w.toNat)).map fun n : Nat => (n : Int)).filter fun n => !(l.any (n == ·))
def leftS (w : Int) (l : List Int) : List Int := if restS w l = [] then restS w [] else restS w l

/-- What the reference takes. -/
def restR (w : Int) (l : List Int) : List Int := ((List.range (2 ^ w.toNat)).map fun n : Nat => (n : Int)).filter fun n => decide (l.length = 2 ^ w.toNat) || !(l.any (n == ·))

/-- Different numbers below n are at most n; and fewer where one is not there. -/
theorem pigeon : ∀ (n : Nat) (l : List Int), l.Pairwise (· ≠ ·) → (∀ x ∈ l, 0 ≤ x ∧ x < n) → l.length ≤ n ∧ ∀ m : Nat, m < n → (m : Int) ∉ l → l.length < n
  | 0, l, _, h => by
    cases l with
    | nil => exact ⟨Nat.le_refl _, fun m hm => absurd hm (Nat.not_lt_zero _)⟩
    | cons a r => have := h a (by simp); omega
  | n + 1, l, hp, h => by
    have hsub : (l.filter fun x => x != (n : Int)).Pairwise (· ≠ ·) := hp.sublist List.filter_sublist
    have hlt : ∀ x ∈ l.filter (fun x => x != (n : Int)), 0 ≤ x ∧ x < n := by
      intro x hx
      obtain ⟨h1, h2⟩ := List.mem_filter.1 hx
      have := h x h1
      have h3 : x ≠ n := by simpa using h2
      omega
    obtain ⟨i1, i2⟩ := pigeon n _ hsub hlt
    have cnt : ∀ (l : List Int), l.Pairwise (· ≠ ·) → l.length ≤ (l.filter fun x => x != (n : Int)).length + 1 ∧ ((n : Int) ∉ l → l.length = (l.filter fun x => x != (n : Int)).length) := by
      intro l
      induction l with
      | nil => intro _; simp
      | cons a r ih =>
        intro hp
        obtain ⟨p1, p2⟩ := List.pairwise_cons.1 hp
        obtain ⟨j1, j2⟩ := ih p2
        by_cases ha : a = n
        · have hn : (n : Int) ∉ r := fun hm => p1 _ hm ha
          have := j2 hn
          subst ha
          simp only [List.filter_cons, bne_self_eq_false, Bool.false_eq_true, if_false, List.length_cons]
          exact ⟨by omega, fun h => absurd (List.mem_cons_self) h⟩
        · have hb : (a != (n : Int)) = true := by simpa using ha
          simp only [List.filter_cons, hb, if_true, List.length_cons]
          refine ⟨by omega, fun hn => ?_⟩
          have := j2 fun hm => hn (List.mem_cons_of_mem _ hm)
          omega
    obtain ⟨c1, c2⟩ := cnt l hp
    refine ⟨by omega, fun m hm hml => ?_⟩
    by_cases hmn : m = n
    · subst hmn
      have := c2 hml
      omega
    · have := i2 m (by omega) fun hx => hml (List.mem_filter.1 hx).1
      omega

theorem okL_spec {w : Int} {l : List Int} (h : okL w l = true) : l.Pairwise (· ≠ ·) ∧ ∀ x ∈ l, 0 ≤ x ∧ x < (2 ^ w.toNat : Nat) := by
  simp only [okL, List.all_eq_true, List.mem_range] at h
  have hget : ∀ k (hk : k < l.length), okN w (l.take k) l[k] = true := fun k hk => by
    have := h k hk
    rwa [List.getD_eq_getElem?_getD, List.getElem?_eq_getElem hk] at this
  constructor
  · rw [List.pairwise_iff_getElem]
    intro i j hi hj hij e
    have := hget j hj
    simp only [okN, Bool.and_eq_true, Bool.not_eq_true', List.any_eq_false] at this
    refine this.2 l[i] ?_ (by simp [e])
    rw [List.mem_take_iff_getElem]
    exact ⟨i, by omega, rfl⟩
  · intro x hx
    obtain ⟨k, hk, rfl⟩ := List.mem_iff_getElem.1 hx
    have := hget k hk
    simp only [okN, Bool.and_eq_true, decide_eq_true_eq] at this
    refine ⟨this.1.1, ?_⟩
    have h2 := this.1.2
    simpa using h2

theorem sub_len : ∀ (R l : List Int), R.Pairwise (· ≠ ·) → (∀ x ∈ R, x ∈ l) → R.length ≤ l.length
  | [], l, _, _ => Nat.zero_le _
  | a :: r, l, hp, h => by
    obtain ⟨p1, p2⟩ := List.pairwise_cons.1 hp
    have ha := h a (by simp)
    have hr : ∀ x ∈ r, x ∈ l.erase a := fun x hx => (List.mem_erase_of_ne fun e => p1 x hx e.symm).2 (h x (by simp [hx]))
    have := sub_len r (l.erase a) p2 hr
    rw [List.length_erase_of_mem ha] at this
    have h0 : 0 < l.length := List.length_pos_of_mem ha
    simp only [List.length_cons]
    omega
theorem left_rest {w : Int} {l : List Int} (h : okL w l = true) : leftS w l = restR w l := by
  obtain ⟨hp, hr⟩ := okL_spec h
  obtain ⟨p1, p2⟩ := pigeon _ l hp hr
  unfold leftS
  by_cases hl : l.length = 2 ^ w.toNat
  · have he : restS w l = [] := by
      unfold restS
      rw [List.filter_eq_nil_iff]
      intro x hx
      obtain ⟨m, hm, rfl⟩ := List.mem_map.1 hx
      have hm' := List.mem_range.1 hm
      by_cases hmem : (m : Int) ∈ l
      · simp only [Bool.not_eq_true', Bool.not_eq_false, List.any_eq_true]
        exact ⟨_, hmem, by simp⟩
      · have := p2 m hm' hmem; omega
    rw [if_pos he]
    unfold restS restR
    simp [hl]
  · have hne : restS w l ≠ [] := by
      intro e
      unfold restS at e
      rw [List.filter_eq_nil_iff] at e
      have : ∀ m : Nat, m < 2 ^ w.toNat → (m : Int) ∈ l := by
        intro m hm
        have := e m (List.mem_map.2 ⟨m, List.mem_range.2 hm, rfl⟩)
        simp only [Bool.not_eq_true', Bool.not_eq_false, List.any_eq_true] at this
        obtain ⟨x, hx, hxe⟩ := this
        rw [show (m : Int) = x by simpa using hxe]; exact hx
      have hq := sub_len ((List.range (2 ^ w.toNat)).map fun n : Nat => (n : Int)) l ?_ ?_
      · simp only [List.length_map, List.length_range] at hq; omega
      · rw [List.pairwise_map]
        exact List.Pairwise.imp (fun {a b} (h : a < b) => by omega) List.pairwise_lt_range
      · intro x hx
        obtain ⟨m, hm, rfl⟩ := List.mem_map.1 hx
        exact this m (List.mem_range.1 hm)
    rw [if_neg hne]
    unfold restS restR
    simp [hl]

theorem take_succ_all' {α : Type} {p : α → Prop} {l : List α} {i : Nat} {v : α} (h : l[i]? = some v) (hz : ∀ a ∈ l.take i, p a) (hv : p v) : ∀ a ∈ l.take (i + 1), p a := by
  intro a ha
  rw [List.take_add_one, h] at ha
  rcases List.mem_append.1 ha with ha | ha
  · exact hz a ha
  · simp at ha; rw [ha]; exact hv

theorem all_no {α : Type} {p : α → Bool} {l : List α} {a : α} (h : a ∈ l) (hp : p a = false) : l.all p = false := by
  rw [Bool.eq_false_iff]
  intro e
  rw [List.all_eq_true.1 e a h] at hp; cases hp

/-! ### Few nodes -/
theorem nodes_lo : ∀ (e : Ex) (d : Nat), d + hgt e ≤ 30 → (1 ≤ nodesS e d ∧ ((pre e).length ≤ 100 → ((pre e).length : Int) ≤ nodesS e d) ∧ (100 ≤ (pre e).length → 100 ≤ nodesS e d)) ∧ nodesS e d ≤ 100 * hgt e := by
  refine Ex.ind fun e ih d hd => ?_
  rw [hgt_eq] at hd ⊢
  have gen : ∀ (l : List Ex) (n : Int), (∀ a ∈ l, a ∈ e.args) → 1 ≤ n → n ≤ 100 * (hgtL e.args + 1 : Nat) →
      (1 ≤ nodesL l d n ∧ n ≤ nodesL l d n ∧ (n + (preL l).length ≤ 100 → n + (preL l).length ≤ nodesL l d n) ∧ (100 ≤ n + (preL l).length → 100 ≤ nodesL l d n)) ∧ nodesL l d n ≤ 100 * (hgtL e.args + 1 : Nat) := by
    intro l
    induction l with
    | nil => intro n _ h1 h2; simp; omega
    | cons a r ihr =>
      intro n hsub h1 h2
      have ham := hsub a (by simp)
      have hga := hgtL_mem ham
      have hga1 : 1 ≤ hgt a := by rw [hgt_eq]; omega
      rw [nodesL_cons]
      by_cases c1 : n < 100
      · have c2 : (d : Int) < 30 := by omega
        rw [if_pos ⟨c1, c2⟩]
        have hw : IntKind.i64.wrap ((d : Int) + 1) = ((d + 1 : Nat) : Int) := by rw [wr (by omega) (by omega)]; omega
        rw [hw]
        have k := ih a ham (d + 1) (by omega)
        have hub : nodesS a ((d + 1 : Nat) : Int) ≤ 100 * hgt a := k.2
        have hw2 : IntKind.i64.wrap (n + nodesS a ((d + 1 : Nat) : Int)) = n + nodesS a ((d + 1 : Nat) : Int) := wr (by omega) (by omega)
        rw [hw2]
        have kr := ihr (n + nodesS a ((d + 1 : Nat) : Int)) (fun x hx => hsub x (by simp [hx])) (by omega) (by omega)
        simp only [preL_cons, List.length_append]
        obtain ⟨⟨k1, k2, k3⟩, k4⟩ := k
        obtain ⟨⟨r1, r2, r3, r4⟩, r5⟩ := kr
        refine ⟨⟨r1, by omega, fun h => ?_, fun h => ?_⟩, r5⟩
        · have a1 := k2 (by omega)
          by_cases hb : n + nodesS a ((d + 1 : Nat) : Int) + (preL r).length ≤ 100
          · have := r3 hb; omega
          · have := r4 (by omega); omega
        · by_cases ha : (pre a).length ≤ 100
          · have a1 := k2 ha
            exact r4 (by omega)
          · have a1 := k3 (by omega)
            exact r4 (by omega)
      · rw [if_neg (fun h => c1 h.1)]
        refine ⟨⟨h1, Int.le_refl _, fun h => ?_, fun _ => by omega⟩, h2⟩
        simp only [preL_cons, List.length_append] at h ⊢
        omega
  have g := gen e.args 1 (fun _ h => h) (by omega) (by omega)
  rw [← nodesS_eq] at g
  have hl : (pre e).length = (preL e.args).length + 1 := by rw [pre_eq, List.length_cons]
  rw [hl]
  refine ⟨⟨g.1.1, fun h => ?_, fun h => ?_⟩, g.2⟩
  · have := g.1.2.2.1 (by omega); omega
  · exact g.1.2.2.2 (by omega)
theorem brief_few {e : Ex} (h : briefS e 0 = true) : (pre e).length ≤ 60 := by
  have hh := brief_hgt e 0 h
  rw [briefS_eq] at h
  split at h
  · cases h
  · rename_i hn
    have h60 : ¬ 60 < nodesS e 0 := fun h => hn (.inr ⟨rfl, h⟩)
    have k := nodes_lo e 0 (by omega)
    obtain ⟨⟨_, k2, k3⟩, _⟩ := k
    apply Classical.byContradiction
    intro hgt60
    by_cases h100 : (pre e).length ≤ 100
    · have := k2 h100
      simp only [Int.natCast_zero] at this h60
      omega
    · have := k3 (by omega)
      simp only [Int.natCast_zero] at this h60
      omega
end Go.Proofs.YtpjdjolphpfanaaGreatDoor
end
