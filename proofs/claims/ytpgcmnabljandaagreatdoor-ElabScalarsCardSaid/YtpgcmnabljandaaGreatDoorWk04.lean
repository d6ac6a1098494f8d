/- A part of the proof: texts AbsShelf Walk2c Walk3 Walk4. -/
import Derived.Test.YtpgcmnabljandaaGreatDoorAb14
import Derived.Shelf.Lay
import Derived.Shelf.Strings.Search1
import Derived.WalkKit
import Derived.Test.YtpgcmnabljandaaGreatDoorWk02
import Derived.Test.YtpgcmnabljandaaGreatDoorWk03

section
/-
  stringslite.IndexByte, which calls a function without a body.
-/
set_option linter.unusedVariables false
set_option maxRecDepth 100000
namespace Go.Proofs.YtpgcmnabljandaaGreatDoor
open Go Go.Abs Go.RowKit
theorem calls368 (s : ByteArray) (c : Int) (w : World) :
    Calls Tryz.prog 368 #[.string s, .int .u8 c] w fun e w' => e = .returned (.int .i64 (Lib.indexByte s.data.toList c.toNat.toUInt8)) ∧ w' = w := by
  have t3 := Tryz.underlying3; have t5 := Tryz.underlying5; have t9 := Tryz.underlying9
  have a3 : ∀ w, (isAgg 3).run Tryz.prog w = .ok false w := run_isAgg_plain t3 rfl; have a5 : ∀ w, (isAgg 5).run Tryz.prog w = .ok false w := run_isAgg_plain t5 rfl; have a9 : ∀ w, (isAgg 9).run Tryz.prog w = .ok false w := run_isAgg_plain t9 rfl
  go_enter Tryz.func368, Tryz.ntmps368
  go_wp2
  rw [run_callFunc_extern Tryz.func382 (by kernel_rfl) (by kernel_rfl) (by kernel_rfl) (e := Extern.BytealgIndexByte.indexByte) (by kernel_rfl), Lib.run_indexByteString]
  simp only [Result.andThen]
  rw [Oper.upon_value]
  go_wp2
  go_ret
  exact ⟨rfl, rfl⟩
theorem indexByte368 (G : Nat → AV) (s : Str) (c : Int) : Pure Tryz.prog G 368 [.str s, .int .u8 c] (.int .i64 (Lib.indexByte s c.toNat.toUInt8)) := by
  refine ⟨by kernel_rfl, fun w0 ro vs hg hro hvs => ?_⟩
  simp only [VRels, VRel] at hvs
  obtain ⟨v, vr, e1, rfl, v2, vr2, rfl, rfl, rfl⟩ := hvs
  have : vs = #[.string ⟨s.toArray⟩, .int .u8 c] := by rw [← Array.toArray_toList (xs := vs), e1]
  subst this
  refine (calls368 _ _ _).mono ?_
  rintro e w' ⟨rfl, rfl⟩
  exact ⟨_, ro, rfl, .refl _ _, fun _ _ _ h => h, hro, fun _ _ _ h _ => h, by simp [VRel]⟩
end Go.Proofs.YtpgcmnabljandaaGreatDoor
end

section
/-
  Walks: keywords, names, cutting at a bracket.
-/
set_option linter.unusedVariables false
set_option linter.unusedSimpArgs false
set_option maxRecDepth 100000
namespace Go.Proofs.YtpgcmnabljandaaGreatDoor
open Go Go.Abs

theorem keyw_any (s : Str) : keyw.any (fun v => s == v) = keyw.contains s := by
  rw [List.any_beq]
theorem keyw_any' (s : Str) : keyw.any (fun v => v == s) = keyw.contains s := by
  rw [List.any_beq']
theorem iskw241 (s : Str) : Pure Tryz.prog GG 241 [.str s] (.bool (keyw.contains s)) := by
  refine Pure.vc mixed Tryz.func241 rfl (by kernel_rfl) ?_
  simp [GG]
  refine vcCall.call (contains101 GG keyw s (by decide)) (by simp) ?_
  rw [keyw_any]
  simp
theorem isName168 (s : Str) : Pure Tryz.prog GG 168 [.str s] (.bool (nameS s)) := by
  refine Pure.vc mixed Tryz.func168 rfl (by kernel_rfl) ?_
  simp
  refine vcCall.call (word240 GG s) rfl ?_
  cases h1 : wordS s
  · simp [nameS, h1]
  · by_cases h2 : s.length ≤ 16
    · have h2' : (s.length : Int) ≤ 16 := by omega
      simp [h2']
      refine vcCall.call (iskw241 s) rfl ?_
      simp [nameS, h1, h2]
    · have h2' : ¬ (s.length : Int) ≤ 16 := by omega
      simp [nameS, h1, h2, h2']
theorem keywords326 : Pure Tryz.prog GG 326 [] (.sl 1 (keyw.map encStr) .none) := by
  refine Pure.vc mixed Tryz.func326 rfl (by kernel_rfl) ?_
  simp [buildSliceA, rowsFill, keyw]
theorem iskw276 (s : Str) : Pure Tryz.prog GG 276 [.str s] (.bool (keyw.contains s)) := by
  refine Pure.vc mixed Tryz.func276 rfl (by kernel_rfl) ?_
  simp
  refine vcCall.call keywords326 rfl ?_
  refine vcCall.call (has325 GG keyw s (by decide)) (by simp) ?_
  rw [keyw_any']
  simp
theorem isName210 (s : Str) (hs : Fits s) : Pure Tryz.prog GG 210 [.str s] (.bool (nameS s)) := by
  refine Pure.vc mixed Tryz.func210 rfl (by kernel_rfl) ?_
  cases s with
  | nil => simp [nameS, wordS]
  | cons c r =>
    by_cases h16 : (c :: r).length ≤ 16
    · have h16' : ¬ (16 : Int) < (r.length : Int) + 1 := by simp at h16; omega
      simp [h16']
      refine vcCall.call (small275 GG c.toNat) rfl ?_
      cases hl : lowerI (c.toNat : Int)
      · simp [nameS, wordS, hl]
      · simp
        refine vcCall.call (iskw276 (c :: r)) rfl ?_
        cases hk : keyw.contains (c :: r)
        · simp
          refine vcLoop.intro (fun n env σ => ∃ i, i ≤ (c :: r).length ∧ n = (c :: r).length - i ∧ env 0 = .str (c :: r) ∧ env 3 = .int .i64 i ∧ σ = ⟨[], []⟩ ∧ ∀ x ∈ (c :: r).take i, innerB x = true) (c :: r).length ⟨0, by simp⟩ ?_
          rintro n env σ ⟨i, hi, rfl, h0, h3, rfl, hall⟩
          cases hv : (c :: r)[i]? with
          | some v =>
            obtain ⟨hc, hv'⟩ := List.getElem?_eq_some_iff.1 hv
            have htake : (c :: r).take (i + 1) = (c :: r).take i ++ [v] := by rw [List.take_add_one, hv]; rfl
            have hc1 : (i : Int) < r.length + 1 := by simp at hc; omega
            simp [h0, h3, hc1, hv, hv']
            refine vcCall.call (inner277 GG v.toNat) rfl ?_
            cases hin : innerI (v.toNat : Int)
            · have := wordS_bad (List.mem_of_getElem? hv) (show innerB v = false from hin)
              simp [nameS, this]
            · simp [h0, h3]
              refine ⟨_, by simp at hc; omega, i + 1, by simp at hc; omega, rfl, wr (by omega) (by simp at hc hs; omega), ?_⟩
              intro x hx
              rw [htake, List.mem_append] at hx
              rcases hx with hx | hx
              · exact hall x hx
              · rw [List.mem_singleton.1 hx]; exact hin
          | none =>
            have he : i = (c :: r).length := by simp at hv hi; simp; omega
            subst he
            have h1 : wordS (c :: r) = true := by
              simp only [wordS, Bool.and_eq_true]
              exact ⟨hl, List.all_eq_true.2 fun x hx => hall x (by simpa using hx)⟩
            have hn : nameS (c :: r) = true := by simp only [nameS, h1, hk, decide_eq_true h16]; rfl
            simp [h0, h3, hn]
        · have hn : nameS (c :: r) = false := by simp only [nameS, hk, Bool.not_true, Bool.and_false]
          simp [hn]
    · have h16' : (16 : Int) < (r.length : Int) + 1 := by simp at h16; omega
      have : nameS (c :: r) = false := by
        have : decide ((c :: r).length ≤ 16) = false := by simpa using h16
        simp only [nameS, this, Bool.and_false, Bool.false_and]
      simp [h16', this]

theorem indexByte_head {s : Str} : Lib.indexByte s 91 = if s.contains 91 = true then ((headS s).length : Int) else -1 := by
  unfold headS
  induction s with
  | nil => simp [Lib.indexByte]
  | cons c r ih =>
    by_cases hc : c = 91
    · subst hc; simp [Lib.indexByte]
    · have h1 : (c == 91) = false := by simpa using hc
      have h2 : ¬ (91 : UInt8) = c := fun e => hc e.symm
      simp only [Lib.indexByte, h1, Bool.false_eq_true, if_false, ih, List.contains_cons]
      have h3 : ((91 : UInt8) == c) = false := by simpa using h2
      have h4 : (c != 91) = true := by simpa using hc
      rw [h3, Bool.false_or, List.takeWhile_cons, if_pos h4]
      by_cases h5 : r.contains 91 = true
      · rw [if_pos h5, if_pos h5]
        have : ¬ (((r.takeWhile (· != 91)).length : Int) == -1) = true := by simp
        rw [if_neg this]
        simp
      · rw [if_neg h5, if_neg h5]; simp
theorem index317 (G : Nat → AV) (s : Str) : Pure Tryz.prog G 317 [.str s, .str [91]] (.int .i64 (Lib.indexByte s 91)) := by
  refine Pure.vc mixed Tryz.func317 rfl (by kernel_rfl) ?_
  by_cases h : [91] = s
  · subst h
    simp [Lib.indexByte]
  · simp [h]
    refine vcCall.call (indexByte368 G s 91) rfl ?_
    simp
theorem cut262 (G : Nat → AV) (s : Str) (hs : Fits s) (h : s.contains 91 = true) : Pure Tryz.prog G 262 [.str s, .str [91]] (.tup [.str (headS s), .str (tailS s), .bool true]) := by
  refine Pure.vc mixed Tryz.func262 rfl (by kernel_rfl) ?_
  simp
  refine vcCall.call (index317 G s) rfl ?_
  have e := cut_eq h
  have hl : s.length = (headS s).length + 1 + (tailS s).length := by
    have := congrArg List.length e
    rw [List.length_append, List.length_cons] at this
    omega
  have hlt : (headS s).length < s.length := by omega
  have t1 : s.take (headS s).length = headS s := by
    conv => lhs; arg 2; rw [e]
    simp
  have t2 : s.drop ((headS s).length + 1) = tailS s := by
    conv => lhs; arg 2; rw [e]
    simp
  rw [indexByte_head, if_pos h]
  have hw : IntKind.i64.wrap (((headS s).length : Int) + 1) = (headS s).length + 1 := wr (by omega) (by omega)
  have h1 : ((headS s).length : Int) ≤ s.length := by omega
  have h2 : ((headS s).length : Int) + 1 ≤ s.length := by omega
  have h3 : (0 : Int) ≤ (headS s).length + 1 := by omega
  have h4 : (((headS s).length : Int) + 1).toNat = (headS s).length + 1 := by omega
  have h5 : (headS s).length ≤ s.length := by omega
  simp [sliceA, boundA, hw, h1, h2, h3, h4, h5, t1, t2]
theorem cut262n (G : Nat → AV) (s : Str) (hs : Fits s) (h : s.contains 91 = false) : Pure Tryz.prog G 262 [.str s, .str [91]] (.tup [.str s, .str [], .bool false]) := by
  refine Pure.vc mixed Tryz.func262 rfl (by kernel_rfl) ?_
  simp
  refine vcCall.call (index317 G s) rfl ?_
  rw [indexByte_head, if_neg (by rw [h]; decide)]
  simp
theorem cut196 (G : Nat → AV) (s : Str) (hs : Fits s) (h : s.contains 91 = true) : Pure Tryz.prog G 196 [.str s, .str [91]] (.tup [.str (headS s), .str (tailS s), .bool true]) := by
  refine Pure.vc mixed Tryz.func196 rfl (by kernel_rfl) ?_
  simp
  refine vcCall.call (cut262 G s hs h) rfl ?_
  simp
theorem cut196n (G : Nat → AV) (s : Str) (hs : Fits s) (h : s.contains 91 = false) : Pure Tryz.prog G 196 [.str s, .str [91]] (.tup [.str s, .str [], .bool false]) := by
  refine Pure.vc mixed Tryz.func196 rfl (by kernel_rfl) ?_
  simp
  refine vcCall.call (cut262n G s hs h) rfl ?_
  simp
end Go.Proofs.YtpgcmnabljandaaGreatDoor
end

section
/-
  Walks: elements' names.
-/
set_option linter.unusedVariables false
set_option linter.unusedSimpArgs false
set_option maxRecDepth 100000
namespace Go.Proofs.YtpgcmnabljandaaGreatDoor
open Go Go.Abs

theorem itoa100 : ∀ (i : Nat), i < 8 → Pure Tryz.prog GG 100 [.int .i64 i] (.str [UInt8.ofNat (48 + i)])
  | 0, _ => Pure.closed' C00_ok 10 8 (by kernel_rfl)
  | 1, _ => Pure.closed' C00_ok 10 8 (by kernel_rfl)
  | 2, _ => Pure.closed' C00_ok 10 8 (by kernel_rfl)
  | 3, _ => Pure.closed' C00_ok 10 8 (by kernel_rfl)
  | 4, _ => Pure.closed' C00_ok 10 8 (by kernel_rfl)
  | 5, _ => Pure.closed' C00_ok 10 8 (by kernel_rfl)
  | 6, _ => Pure.closed' C00_ok 10 8 (by kernel_rfl)
  | 7, _ => Pure.closed' C00_ok 10 8 (by kernel_rfl)
theorem element181 (a : Str) (i : Nat) (hi : i < 8) (ha : a.length ≤ 1000) : Pure Tryz.prog GG 181 [.str a, .int .i64 i] (.str (elemS a i)) := by
  refine Pure.vc mixed Tryz.func181 rfl (by kernel_rfl) ?_
  have h1 : a.length + 1 ≤ 4611686018427387904 := by omega
  have h2 : a.length + (1 + 1) ≤ 4611686018427387904 := by omega
  have h3 : a.length + (1 + (1 + 1)) ≤ 4611686018427387904 := by omega
  have h4 : a.length + 1 + 1 ≤ 4611686018427387904 := by omega
  have h5 : a.length + 1 + 1 + 1 ≤ 4611686018427387904 := by omega
  simp [h1]
  refine vcCall.call (itoa100 i hi) rfl ?_
  simp [h2, h3, h4, h5, elemS]

theorem name_len {s : Str} (h : nameS s = true) : s.length ≤ 16 := by
  simp only [nameS, Bool.and_eq_true, decide_eq_true_eq] at h
  exact h.1.2
theorem elemB_of {s : Str} {i : Nat} (hi : i < 8) (hn : nameS (headS s) = true) (h : s = elemS (headS s) i) : (elemO s).isSome = true := by
  rw [elemO_eq (a := headS s) (i := i) ⟨hi, hn, h⟩]; rfl
theorem elemB_no {s : Str} (h : ∀ i, i < 8 → s ≠ elemS (headS s) i) : elemO s = none := by
  rw [elemO_none]
  rintro a i hi
  have := hi.has.2.1
  exact h i hi.1 (by rw [this]; exact hi.2.2)
theorem elemB_no' {s : Str} (h : nameS (headS s) = false) : elemO s = none := by
  rw [elemO_none]
  rintro a i hi
  have := hi.has.2.1
  rw [this, hi.2.1] at h; cases h

theorem named123 (s : Str) (hs : Fits s) : Pure Tryz.prog GG 123 [.str s] (.bool (varS s)) := by
  refine Pure.vc mixed Tryz.func123 rfl (by kernel_rfl) ?_
  simp
  refine vcCall.call (isName168 s) rfl ?_
  cases hn : nameS s
  · simp
    by_cases hc : s.contains 91 = true
    · refine vcCall.call (cut196 GG s hs hc) rfl ?_
      simp
      refine vcCall.call (isName168 (headS s)) rfl ?_
      cases hh : nameS (headS s)
      · simp [varS, hn, elemB_no' hh]
      · simp
        refine vcLoop.intro (fun n env σ => ∃ i : Nat, i ≤ 8 ∧ n = 8 - i ∧ env 0 = .str s ∧ env 3 = .str (headS s) ∧ env 22 = .int .i64 i ∧ σ = ⟨[], []⟩ ∧ ∀ j, j < i → s ≠ elemS (headS s) j) 8 ⟨0, by simp⟩ ?_
        rintro n env σ ⟨i, hi, rfl, h0, h3, h22, rfl, hall⟩
        by_cases h8 : i < 8
        · have h8' : (i : Int) < 8 := by omega
          simp [h0, h3, h22, h8']
          refine vcCall.call (element181 (headS s) i h8 (by have := name_len hh; omega)) rfl ?_
          by_cases he : s = elemS (headS s) i
          · have hv : varS s = true := by simp [varS, elemB_of h8 hh he]
            rw [← he]
            simp [h0, hv]
          · simp [h0, h3, h22, he]
            refine ⟨_, by omega, i + 1, by omega, rfl, wr (by omega) (by omega), ?_⟩
            intro j hj e
            rcases Nat.lt_succ_iff_lt_or_eq.1 hj with hj | rfl
            · exact hall j hj e
            · exact he e
        · have h8' : ¬ (i : Int) < 8 := by omega
          have hv : varS s = false := by
            have : elemO s = none := elemB_no fun j hj => hall j (by omega)
            simp [varS, hn, this]
          simp [h0, h3, h22, h8', hv]
    · have hc' : s.contains 91 = false := by simpa using hc
      refine vcCall.call (cut196n GG s hs hc') rfl ?_
      simp [varS, hn, no_elem hc']
  · simp [varS, hn]
end Go.Proofs.YtpgcmnabljandaaGreatDoor
end

section
/-
  Walks: elements' names, the other ways.
-/
set_option linter.unusedVariables false
set_option linter.unusedSimpArgs false
set_option maxRecDepth 100000
namespace Go.Proofs.YtpgcmnabljandaaGreatDoor
open Go Go.Abs

theorem format141 : ∀ (i : Nat), i < 8 → Pure Tryz.prog GG 141 [.int .i64 i] (.str [UInt8.ofNat (48 + i)]) := by
  have key : ∀ (i : Nat), i < 8 → IntKind.i64.wrap (-(i : Int)) = -i ∧ (-(i : Int)).tmod 10 = -i ∧ IntKind.i64.wrap (48 + (i : Int)) = 48 + i ∧ IntKind.u8.wrap (48 + (i : Int)) = 48 + i ∧ IntKind.i64.wrap (-((i : Int) / 10)) = 0 ∧ (48 + (i : Int)).toNat = 48 + i := by decide
  intro i hi
  obtain ⟨k1, k2, k3, k4, k5, k6⟩ := key i hi
  refine Pure.vc mixed Tryz.func141 rfl (by kernel_rfl) ?_
  simp
  have below : Pure Tryz.prog GG 213 [.int .i64 i] (.int .i64 (-i)) := by
    refine Pure.vc mixed Tryz.func213 rfl (by kernel_rfl) ?_
    by_cases h0 : i = 0
    · subst h0; simp
    · have : 0 < i := by omega
      simp [this, k1]
  refine vcCall.call below rfl ?_
  refine vcLoop.intro (fun n env σ => n = 1 ∧ env 0 = .int .i64 i ∧ env 3 = .str [] ∧ env 4 = .int .i64 (-i) ∧ σ = ⟨[], []⟩) 1 ⟨rfl, by simp⟩ ?_
  rintro n env σ ⟨rfl, h0, h3, h4, rfl⟩
  simp [h0, h3, h4, k2, k3, k4, k5, k6, buildSliceA, rowsFill, convA, bytesOf]

theorem element221 (a : Str) (i : Nat) (hi : i < 8) (ha : a.length ≤ 1000) : Pure Tryz.prog GG 221 [.str a, .int .i64 i] (.str (elemS a i)) := by
  refine Pure.vc mixed Tryz.func221 rfl (by kernel_rfl) ?_
  have h1 : a.length + 1 ≤ 4611686018427387904 := by omega
  have h2 : a.length + (1 + 1) ≤ 4611686018427387904 := by omega
  have h3 : a.length + (1 + (1 + 1)) ≤ 4611686018427387904 := by omega
  have h4 : a.length + 1 + 1 ≤ 4611686018427387904 := by omega
  have h5 : a.length + 1 + 1 + 1 ≤ 4611686018427387904 := by omega
  simp [h1]
  refine vcCall.call (format141 i hi) rfl ?_
  simp [h2, h3, h4, h5, elemS]
end Go.Proofs.YtpgcmnabljandaaGreatDoor
end
