/- A part of the proof: texts Walk36 Walk37 Walk38. -/
import Derived.Test.YtpgcmnabljandaaGreatDoorEv04
import Derived.Test.YtpgcmnabljandaaGreatDoorWk19
import Derived.Test.YtpgcmnabljandaaGreatDoorFx01

section
/-
  Walks: the signals of an assignment; assignments; what holds.
-/
set_option linter.unusedVariables false
set_option linter.unusedSimpArgs false
set_option maxRecDepth 100000
namespace Go.Proofs.YtpgcmnabljandaaGreatDoor
open Go Go.Abs

/-- What an appended list looks like. -/
def outL {α : Type} (sz : Nat) (en : α → List AV) (s : List α) : AV := match s with
  | [] => .sl 0 [] .nil
  | a :: r => .sl sz ((a :: r).map en) (.chain 0 (r.length + 1))
def outTL {α : Type} (s : List α) : List (Option Nat) := match s with
  | [] => []
  | _ :: r => [some (r.length + 1)]
theorem outL_end {α : Type} {sz : Nat} {en : α → List AV} (s : List α) (H : List Blk) (hn : ∀ x, noRefs (en x) = true) : noRef (fin H (outL sz en s)) = true ∧ Leq (fin H (outL sz en s)) (.sl sz (s.map en) .none) := by
  cases s with
  | nil => simp [outL, Leq]
  | cons a r =>
    have h := noRefss_map hn (a :: r)
    refine ⟨?_, Leq.sl rfl⟩
    simpa [outL] using h
def envL (l : List Var) (a : List Int) : List Signal := (l.zip a).map fun q => ⟨q.1.name, q.2⟩
theorem envS_eq (l : List Var) (a : List Int) : envS l a = if a.length = l.length then envL l a else [] := rfl
theorem envL_get {l : List Var} {a : List Int} {i : Nat} {v : Var} {x : Int} (h : l[i]? = some v) (h' : a[i]? = some x) : (envL l a)[i]? = some ⟨v.name, x⟩ := by
  unfold envL
  rw [List.getElem?_map, (List.getElem?_zip_eq_some (z := (v, x))).2 ⟨h, h'⟩]; rfl
theorem envL_len {l : List Var} {a : List Int} (h : a.length = l.length) : (envL l a).length = l.length := by simp [envL, h]
theorem envS_len {l : List Var} {a : List Int} : (envS l a).length ≤ l.length := by
  rw [envS_eq]
  split
  · rename_i h; rw [envL_len h]; exact Nat.le_refl _
  · simp
set_option maxHeartbeats 1000000 in
theorem env16 (p : Problem) (a : List Int) (hl : p.vars.length ≤ 20) (ha : Fits a) : Pure Tryz.prog GG 16 [.agg (encP p), .sl 1 (a.map encInt) .none] (.sl 2 ((envS p.vars a).map encSignal) .none) := by
  refine Pure.vc mixed Tryz.func16 rfl (by kernel_rfl) ?_
  by_cases hlen : a.length = p.vars.length
  · rw [envS_eq, if_pos hlen]
    have hE := envL_len hlen
    simp [hlen]
    refine vcLoop.intro (fun n ev σ => ∃ i tl, i ≤ p.vars.length ∧ n = p.vars.length - i ∧ ev 1 = .sl 1 (a.map encInt) .none ∧ ev 5 = outL 2 encSignal ((envL p.vars a).take i) ∧ ev 15 = .sl 4 (p.vars.map encVar) .none ∧ ev 16 = .int .i64 p.vars.length ∧ ev 17 = .int .i64 i ∧ σ = ⟨tl, outTL ((envL p.vars a).take i)⟩) p.vars.length ⟨0, _, by simp, by simp, by simp, by simp [outL], by simp, by simp, by simp, by simp [outTL]; rfl⟩ ?_
    rintro n ev σ ⟨i, tl, hi, rfl, h1, h5, h15, h16, h17, rfl⟩
    cases hv : p.vars[i]? with
    | some v =>
      obtain ⟨hc, hv'⟩ := List.getElem?_eq_some_iff.1 hv
      have hca : i < a.length := by omega
      obtain ⟨x, hx⟩ : ∃ x, a[i]? = some x := ⟨_, List.getElem?_eq_getElem hca⟩
      have hx' := (List.getElem?_eq_some_iff.1 hx).2
      have ht : (envL p.vars a).take (i + 1) = (envL p.vars a).take i ++ [⟨v.name, x⟩] := by
        rw [List.take_add_one, envL_get hv hx]; rfl
      have hRl : ((envL p.vars a).take i).length ≤ 20 := by simp; omega
      generalize hR : (envL p.vars a).take i = R at h5 ht hRl ⊢
      cases R with
      | nil =>
        simp only [outL] at h5
        simp [h1, h5, h15, h16, h17, hc, hca, hv', hx', List.set_append, outTL, buildA, fillA, stPlace, appendA, buildSliceA, rowsFill, rowsOf, putAt]
        exact ⟨_, by omega, i + 1, by omega, rfl, by rw [ht]; simp [outL], wr (by omega) (by omega), by rw [ht]; simp⟩
      | cons b r =>
        have hb : r.length ≤ 1073741822 := by simp at hRl; omega
        simp only [outL] at h5
        simp [h1, h5, h15, h16, h17, hc, hca, hv', hx', List.set_append, outTL, buildA, fillA, stPlace, appendA, buildSliceA, rowsFill, rowsOf, putAt, hb]
        exact ⟨_, by omega, i + 1, by omega, rfl, by rw [ht]; simp [outL], wr (by omega) (by omega), by rw [ht]; simp⟩
    | none =>
      have hc : ¬ i < p.vars.length := by simp at hv; omega
      rw [List.take_of_length_le (by omega)] at h5 ⊢
      have he := outL_end (sz := 2) (en := encSignal) (envL p.vars a) tl (fun x => by simp)
      simp [h1, h5, h15, h16, h17, hc]
      exact he
  · rw [envS_eq, if_neg hlen]
    have hlen' : ¬ (a.length : Int) = p.vars.length := by omega
    simp [hlen, hlen', Leq]
set_option maxHeartbeats 1000000 in
theorem renv31 (p : Problem) (a : List Int) (hl : p.vars.length ≤ 20) (ha : Fits a) : Pure Tryz.prog GG 31 [.agg (encP p), .sl 1 (a.map encInt) .none] (.sl 2 ((envS p.vars a).map encSignal) .none) := by
  refine Pure.vc mixed Tryz.func31 rfl (by kernel_rfl) ?_
  by_cases hlen : a.length = p.vars.length
  · rw [envS_eq, if_pos hlen]
    have hE := envL_len hlen
    simp [hlen]
    refine vcLoop.intro (fun n ev σ => ∃ i, i ≤ p.vars.length ∧ n = p.vars.length - i ∧ ev 1 = .sl 1 (a.map encInt) .none ∧ ev 2 = .ptr 0 0 ∧ ev 5 = outL 2 encSignal ((envL p.vars a).take i) ∧ ev 6 = .int .i64 i ∧ σ = ⟨[.cells (encP p)], outTL ((envL p.vars a).take i)⟩) p.vars.length ⟨0, by simp, by simp, by simp, by simp, by simp [outL], by simp, by simp [outTL]⟩ ?_
    rintro n ev σ ⟨i, hi, rfl, h1, h2, h5, h6, rfl⟩
    cases hv : p.vars[i]? with
    | some v =>
      obtain ⟨hc, hv'⟩ := List.getElem?_eq_some_iff.1 hv
      have hca : i < a.length := by omega
      obtain ⟨x, hx⟩ : ∃ x, a[i]? = some x := ⟨_, List.getElem?_eq_getElem hca⟩
      have hx' := (List.getElem?_eq_some_iff.1 hx).2
      have ht : (envL p.vars a).take (i + 1) = (envL p.vars a).take i ++ [⟨v.name, x⟩] := by
        rw [List.take_add_one, envL_get hv hx]; rfl
      have hRl : ((envL p.vars a).take i).length ≤ 20 := by simp; omega
      generalize hR : (envL p.vars a).take i = R at h5 ht hRl ⊢
      cases R with
      | nil =>
        simp only [outL] at h5
        simp [h1, h5, h2, h6, hc, hca, hv', hx', List.set_append, outTL, buildA, fillA, stPlace, appendA, buildSliceA, rowsFill, rowsOf, putAt]
        exact ⟨_, by omega, i + 1, by omega, rfl, by rw [ht]; simp [outL], wr (by omega) (by omega), by rw [ht]; simp⟩
      | cons b r =>
        have hb : r.length ≤ 1073741822 := by simp at hRl; omega
        simp only [outL] at h5
        simp [h1, h5, h2, h6, hc, hca, hv', hx', List.set_append, outTL, buildA, fillA, stPlace, appendA, buildSliceA, rowsFill, rowsOf, putAt, hb]
        exact ⟨_, by omega, i + 1, by omega, rfl, by rw [ht]; simp [outL], wr (by omega) (by omega), by rw [ht]; simp⟩
    | none =>
      have hc : ¬ i < p.vars.length := by simp at hv; omega
      have hca : ¬ i < a.length := by omega
      rw [List.take_of_length_le (by omega)] at h5 ⊢
      have he := outL_end (sz := 2) (en := encSignal) (envL p.vars a) [.cells (encP p)] (fun x => by simp)
      simp [h1, h5, h2, h6, hc, hca]
      exact he
  · rw [envS_eq, if_neg hlen]
    have hlen' : ¬ (a.length : Int) = p.vars.length := by omega
    simp [hlen, hlen', Leq]
theorem eq107 (a b : Signal) : eqAgg (Dof Tryz.prog) 107 (encSignal a) (encSignal b) = some (decide (a.name = b.name) && decide (a.value = b.value)) := by
  have hr : List.range 2 = [0, 1] := rfl
  have e1 : (a.name == b.name) = decide (a.name = b.name) := by
    by_cases h : a.name = b.name
    · rw [h]; simp
    · rw [decide_eq_false h]; exact beq_eq_false_iff_ne.2 h
  simp [eqAgg, flatT, plainT, plainTD, fitsAll, cellsEq, plainEq, hr, e1, beq_dec]
theorem same30 (A : List Signal) (hl : Fits A) : Pure Tryz.prog GG 30 [.sl 2 (A.map encSignal) .none, .sl 2 (A.map encSignal) .none] (.bool true) := by
  refine Pure.vc mixed Tryz.func30 rfl (by kernel_rfl) ?_
  simp
  refine vcLoop.intro (fun n ev σ => ∃ i, i ≤ A.length ∧ n = A.length - i ∧ ev 0 = .sl 2 (A.map encSignal) .none ∧ ev 1 = .sl 2 (A.map encSignal) .none ∧ ev 5 = .int .i64 i ∧ σ = ⟨[], []⟩) A.length ⟨0, by simp⟩ ?_
  rintro n ev σ ⟨i, hi, rfl, h0, h1, h5, rfl⟩
  by_cases hc : i < A.length
  · have he := eq107 A[i] A[i]
    simp only [encSignal] at he
    simp [h0, h1, h5, hc, he]
    exact ⟨_, by omega, i + 1, by omega, rfl, wr (by omega) (by omega)⟩
  · simp [h0, h1, h5, hc]
end Go.Proofs.YtpgcmnabljandaaGreatDoor
end

section
/-
  Walks: assignments; what holds; the law of Env and Holds.
-/

set_option linter.unusedVariables false
set_option linter.unusedSimpArgs false
set_option maxRecDepth 100000
namespace Go.Proofs.YtpgcmnabljandaaGreatDoor
open Go Go.Abs

theorem zip_get {l : List Var} {a : List Int} {i : Nat} {v : Var} {x : Int} (h : l[i]? = some v) (h' : a[i]? = some x) : (l.zip a)[i]? = some (v, x) := (List.getElem?_zip_eq_some (z := (v, x))).2 ⟨h, h'⟩
theorem assignsS_no {l : List Var} {a : List Int} (h : ¬ a.length = l.length) : assignsS l a = false := by simp [assignsS, h]
theorem assignsS_bad {l : List Var} {a : List Int} {i : Nat} {v : Var} {x : Int} (h : l[i]? = some v) (h' : a[i]? = some x) (hb : assign1 (v, x) = false) : assignsS l a = false := by
  unfold assignsS
  rw [all_bad (List.mem_of_getElem? (zip_get h h')) hb, Bool.and_false]
theorem assignsS_good {l : List Var} {a : List Int} {i : Nat} (hlen : a.length = l.length) (hi : l.length ≤ i) (hz : ∀ q ∈ (l.zip a).take i, assign1 q = true) : assignsS l a = true := by
  unfold assignsS
  rw [decide_eq_true hlen, Bool.true_and]
  exact all_take (by simp; omega) hz
theorem varE_range {v : Var} (h : varE v = 0) : 1 ≤ v.width ∧ v.width ≤ 8 := (varE_zero h).2

set_option maxHeartbeats 4000000 in
theorem assigns71 (p : Problem) (a : List Int) (hl : p.vars.length ≤ 20) (ha : Fits a) (hv : ∀ v ∈ p.vars, varE v = 0) : Pure Tryz.prog GG 71 [.agg (encP p), .sl 1 (a.map encInt) .none] (.bool (assignsS p.vars a)) := by
  refine Pure.vc mixed Tryz.func71 rfl (by kernel_rfl) ?_
  by_cases hlen : a.length = p.vars.length
  · generalize hr : assignsS p.vars a = r
    simp [hlen]
    refine vcLoop.intro (fun n ev σ => ∃ i tl, i ≤ p.vars.length ∧ n = p.vars.length - i ∧ ev 1 = .sl 1 (a.map encInt) .none ∧ ev 14 = .sl 4 (p.vars.map encVar) .none ∧ ev 15 = .int .i64 p.vars.length ∧ ev 16 = .int .i64 i ∧ σ = ⟨tl, []⟩ ∧ ∀ q ∈ (p.vars.zip a).take i, assign1 q = true) p.vars.length ⟨0, _, by simp, by simp, by simp, by simp, by simp, by simp, rfl, by simp⟩ ?_
    rintro n ev σ ⟨i, tl, hi, rfl, h1, h14, h15, h16, rfl, hz⟩
    cases hvi : p.vars[i]? with
    | some v =>
      obtain ⟨hc, hv'⟩ := List.getElem?_eq_some_iff.1 hvi
      have hca : i < a.length := by omega
      obtain ⟨x, hx⟩ : ∃ x, a[i]? = some x := ⟨_, List.getElem?_eq_getElem hca⟩
      have hx' := (List.getElem?_eq_some_iff.1 hx).2
      obtain ⟨w1, w8⟩ := varE_range (hv v (List.mem_of_getElem? hvi))
      have hs : IntKind.i64.wrap (2 ^ min v.width.toNat IntKind.i64.bits) = 2 ^ v.width.toNat := shl1 w1 w8
      have hw0 : ¬ v.width < 0 := by omega
      have bad : assign1 (v, x) = false → r = false := fun hb => by rw [← hr]; exact assignsS_bad hvi hx hb
      have good : assign1 (v, x) = true → ∀ q ∈ (p.vars.zip a).take (i + 1), assign1 q = true := fun hg => take_succ_all (p := fun q => assign1 q = true) (zip_get hvi hx) hz hg
      by_cases c1 : x < 0
      · rw [bad (by simp only [assign1]; rw [decide_eq_false (by omega : ¬ 0 ≤ x)]; rfl)]
        simp [h1, h14, h15, h16, hc, hca, hv', hx', List.set_append, c1]
      by_cases c2 : (2 : Int) ^ v.width.toNat ≤ x
      · rw [bad (by simp only [assign1]; rw [decide_eq_false (by omega : ¬ x < 2 ^ v.width.toNat)]; simp)]
        simp [h1, h14, h15, h16, hc, hca, hv', hx', List.set_append, c1, hs, hw0, c2]
      by_cases c3 : v.mode = 0
      · by_cases c4 : x = v.value
        · have g := good (by simp only [assign1]; rw [decide_eq_true (by omega : 0 ≤ x), decide_eq_true (by omega : x < 2 ^ v.width.toNat), decide_eq_true c4]; simp)
          subst c4
          simp [h1, h14, h15, h16, hc, hca, hv', hx', List.set_append, c1, hs, hw0, c2, c3]
          exact ⟨_, by omega, i + 1, by omega, rfl, wr (by omega) (by omega), by simpa using g⟩
        · rw [bad (by simp only [assign1]; rw [decide_eq_true c3, decide_eq_false c4]; simp)]
          simp [h1, h14, h15, h16, hc, hca, hv', hx', List.set_append, c1, hs, hw0, c2, c3, c4]
      · have g := good (by simp only [assign1]; rw [decide_eq_true (by omega : 0 ≤ x), decide_eq_true (by omega : x < 2 ^ v.width.toNat), decide_eq_false c3]; simp)
        simp [h1, h14, h15, h16, hc, hca, hv', hx', List.set_append, c1, hs, hw0, c2, c3]
        exact ⟨_, by omega, i + 1, by omega, rfl, wr (by omega) (by omega), by simpa using g⟩
    | none =>
      have hle : p.vars.length ≤ i := by simpa using hvi
      have hc : ¬ i < p.vars.length := by omega
      rw [assignsS_good hlen hle hz] at hr
      subst hr
      simp [h1, h14, h15, h16, hc]
  · rw [assignsS_no hlen]
    have hlen' : ¬ (a.length : Int) = p.vars.length := by omega
    simp [hlen, hlen']

set_option maxHeartbeats 4000000 in
theorem rassigns85 (p : Problem) (a : List Int) (h : VP p) (ha : Fits a) : Pure Tryz.prog GG 85 [.agg (encP p), .sl 1 (a.map encInt) .none] (.bool (decide (validP p = 0) && assignsS p.vars a)) := by
  refine Pure.vc mixed Tryz.func85 rfl (by kernel_rfl) ?_
  have hva := valid23 p h
  have hl := h.vars20
  simp only [encP] at hva
  generalize hr : (decide (validP p = 0) && assignsS p.vars a) = r
  simp
  refine vcCall.call hva (by simp) ?_
  by_cases h0 : validP p = 0
  · have hv := validP_vars h0
    rw [decide_eq_true h0, Bool.true_and] at hr
    by_cases hlen : a.length = p.vars.length
    · simp [h0, hlen]
      refine vcLoop.intro (fun n ev σ => ∃ i tl, i ≤ p.vars.length ∧ n = p.vars.length - i ∧ ev 1 = .sl 1 (a.map encInt) .none ∧ ev 2 = .ptr 0 0 ∧ ev 5 = .int .i64 i ∧ σ = ⟨.cells (encP p) :: tl, []⟩ ∧ ∀ q ∈ (p.vars.zip a).take i, assign1 q = true) p.vars.length ⟨0, [], by simp, by simp, by simp, by simp, by simp, by simp, by simp⟩ ?_
      rintro n ev σ ⟨i, tl, hi, rfl, h1, h2, h5, rfl, hz⟩
      cases hvi : p.vars[i]? with
      | some v =>
        obtain ⟨hc, hv'⟩ := List.getElem?_eq_some_iff.1 hvi
        have hca : i < a.length := by omega
        obtain ⟨x, hx⟩ : ∃ x, a[i]? = some x := ⟨_, List.getElem?_eq_getElem hca⟩
        have hx' := (List.getElem?_eq_some_iff.1 hx).2
        obtain ⟨w1, w8⟩ := varE_range (hv v (List.mem_of_getElem? hvi))
        have hs : IntKind.i64.wrap (2 ^ min v.width.toNat IntKind.i64.bits) = 2 ^ v.width.toNat := shl1 w1 w8
        have hw0 : ¬ v.width < 0 := by omega
        have bad : assign1 (v, x) = false → r = false := fun hb => by rw [← hr]; exact assignsS_bad hvi hx hb
        have good : assign1 (v, x) = true → ∀ q ∈ (p.vars.zip a).take (i + 1), assign1 q = true := fun hg => take_succ_all (p := fun q => assign1 q = true) (zip_get hvi hx) hz hg
        by_cases c4 : v.mode = 0 ∧ ¬ x = v.value
        · rw [bad (by simp only [assign1]; rw [decide_eq_true c4.1, decide_eq_false c4.2]; simp)]
          simp [h1, h2, h5, hc, hca, hv', hx', List.set_append, c4.1, c4.2]
        by_cases c1 : x < 0
        · rw [bad (by simp only [assign1]; rw [decide_eq_false (by omega : ¬ 0 ≤ x)]; rfl)]
          by_cases c3 : v.mode = 0
          · have c5 : x = v.value := Classical.byContradiction fun hn => c4 ⟨c3, hn⟩
            subst c5
            simp [h1, h2, h5, hc, hca, hv', hx', List.set_append, c1, c3]
          · simp [h1, h2, h5, hc, hca, hv', hx', List.set_append, c1, c3]
        by_cases c2 : (2 : Int) ^ v.width.toNat ≤ x
        · rw [bad (by simp only [assign1]; rw [decide_eq_false (by omega : ¬ x < 2 ^ v.width.toNat)]; simp)]
          by_cases c3 : v.mode = 0
          · have c5 : x = v.value := Classical.byContradiction fun hn => c4 ⟨c3, hn⟩
            subst c5
            simp [h1, h2, h5, hc, hca, hv', hx', List.set_append, c1, c3, hs, hw0, c2]
          · simp [h1, h2, h5, hc, hca, hv', hx', List.set_append, c1, c3, hs, hw0, c2]
        by_cases c3 : v.mode = 0
        · have c5 : x = v.value := Classical.byContradiction fun hn => c4 ⟨c3, hn⟩
          have g := good (by simp only [assign1]; rw [decide_eq_true (by omega : 0 ≤ x), decide_eq_true (by omega : x < 2 ^ v.width.toNat), decide_eq_true c5]; simp)
          subst c5
          simp [h1, h2, h5, hc, hca, hv', hx', List.set_append, c1, hs, hw0, c2, c3]
          exact ⟨_, by omega, i + 1, by omega, rfl, wr (by omega) (by omega), by simpa using g⟩
        · have g := good (by simp only [assign1]; rw [decide_eq_true (by omega : 0 ≤ x), decide_eq_true (by omega : x < 2 ^ v.width.toNat), decide_eq_false c3]; simp)
          simp [h1, h2, h5, hc, hca, hv', hx', List.set_append, c1, hs, hw0, c2, c3]
          exact ⟨_, by omega, i + 1, by omega, rfl, wr (by omega) (by omega), by simpa using g⟩
      | none =>
        have hle : p.vars.length ≤ i := by simpa using hvi
        have hc : ¬ i < p.vars.length := by omega
        have hca : ¬ i < a.length := by omega
        rw [assignsS_good hlen hle hz] at hr
        subst hr
        simp [h1, h2, h5, hc, hca]
    · rw [assignsS_no hlen] at hr
      subst hr
      have hlen' : ¬ (a.length : Int) = p.vars.length := by omega
      simp [h0, hlen, hlen']
  · rw [decide_eq_false h0, Bool.false_and] at hr
    subst hr
    simp [h0]

theorem holdsS_eq (p : Problem) (a : List Int) (e : Ex) : holdsS p a e = (decide (validP p = 0) && assignsS p.vars a && decide (evalE (envS p.vars a) e = 0) && !decide (evalV (envS p.vars a) e = 0)) := rfl
theorem holds19 (p : Problem) (a : List Int) (e : Ex) (h : VP p) (ha : Fits a) (hwe : Wen e) (hh : hgt e ≤ 1000) (hsz : (pre e).length ≤ 100000) : Pure Tryz.prog GG 19 [.agg (encP p), .sl 1 (a.map encInt) .none, .agg (encE e)] (.bool (holdsS p a e)) := by
  refine Pure.vc mixed Tryz.func19 rfl (by kernel_rfl) ?_
  have hva := valid14' p h
  have hen := env16 p a h.vars20 ha
  have hev := eval37 (envS p.vars a) (by have := envS_len (l := p.vars) (a := a); have := h.vars20; omega) e hwe (by omega) hsz
  have hr := holdsS_eq p a e
  generalize holdsS p a e = r at hr ⊢
  simp only [encP] at hva hen
  simp only [encE_eq e]
  simp
  refine vcCall.call hva (by simp) ?_
  by_cases h0 : validP p = 0
  · have has := assigns71 p a h.vars20 ha (validP_vars h0)
    simp only [encP] at has
    simp [h0]
    refine vcCall.call has (by simp) ?_
    rw [decide_eq_true h0, Bool.true_and] at hr
    cases hc : assignsS p.vars a
    · rw [hc] at hr
      subst hr
      simp
    · rw [hc, Bool.true_and] at hr
      simp
      refine vcCall.call hen (by simp) ?_
      try simp [encE_eq e]
      try rw [← encE_eq e]
      refine vcCall.call hev (by simp) ?_
      by_cases h1 : evalE (envS p.vars a) e = 0
      · by_cases h2 : evalV (envS p.vars a) e = 0
        · rw [decide_eq_true h1, decide_eq_true h2] at hr
          subst hr
          simp [h1, h2]
        · rw [decide_eq_true h1, decide_eq_false h2] at hr
          subst hr
          simp [h1, h2]
      · rw [decide_eq_false h1] at hr
        simp at hr
        subst hr
        simp [h1]
  · rw [decide_eq_false h0] at hr
    simp at hr
    subst hr
    simp [h0]
theorem rholds32 (p : Problem) (a : List Int) (e : Ex) (h : VP p) (ha : Fits a) (hwe : Wen e) (hh : hgt e ≤ 1000) (hsz : (pre e).length ≤ 100000) : Pure Tryz.prog GG 32 [.agg (encP p), .sl 1 (a.map encInt) .none, .agg (encE e)] (.bool (holdsS p a e)) := by
  refine Pure.vc mixed Tryz.func32 rfl (by kernel_rfl) ?_
  have has := rassigns85 p a h ha
  have hen := renv31 p a h.vars20 ha
  have hev := reval86 (envS p.vars a) (by have := envS_len (l := p.vars) (a := a); have := h.vars20; omega) e hwe (by omega) hsz
  have hr := holdsS_eq p a e
  generalize holdsS p a e = r at hr ⊢
  simp only [encP] at has hen
  generalize (decide (validP p = 0) && assignsS p.vars a) = c at has hr
  simp only [encE_eq e]
  simp
  refine vcCall.call has (by simp) ?_
  cases c
  · simp at hr
    subst hr
    simp
  · rw [Bool.true_and] at hr
    simp
    refine vcCall.call hen (by simp) ?_
    try simp [encE_eq e]
    try rw [← encE_eq e]
    refine vcCall.call hev (by simp) ?_
    by_cases h1 : evalE (envS p.vars a) e = 0
    · by_cases h2 : evalV (envS p.vars a) e = 0
      · rw [decide_eq_true h1, decide_eq_true h2] at hr
        subst hr
        simp [h1, h2]
      · rw [decide_eq_true h1, decide_eq_false h2] at hr
        subst hr
        simp [h1, h2]
    · rw [decide_eq_false h1] at hr
      simp at hr
      subst hr
      simp [h1]
end Go.Proofs.YtpgcmnabljandaaGreatDoor
end

section
/-
  The law of Env and Holds: the walk of its function.
-/
set_option linter.unusedVariables false
set_option linter.unusedSimpArgs false
set_option maxRecDepth 100000
namespace Go.Proofs.YtpgcmnabljandaaGreatDoor
open Go Go.Abs

theorem envs6 (p : Problem) (a : List Int) (e : Ex) (h : VH p) (ha : Fits a) (hwe : Wen e) : Pure Tryz.prog GG 6 [.agg (encP p), .sl 1 (a.map encInt) .none, .agg (encE e)] (.bool true) := by
  refine Pure.vc mixed Tryz.func6 rfl (by kernel_rfl) ?_
  have hsm := small22 p h.exprs
  have hbr := brief29 e hwe 0 (by omega)
  simp only [encE_eq e]
  cases hs : smallS p
  · rw [hs] at hsm
    simp only [encP] at hsm
    simp
    refine vcCall.call hsm (by simp) ?_
    try simp
    refine vcCall.call works11 rfl ?_
    simp
  · rw [hs] at hsm
    have hp := h.small hs
    simp only [encP] at hsm
    simp
    refine vcCall.call hsm (by simp) ?_
    by_cases h40 : 40 < a.length
    · have h40' : (40 : Int) < a.length := by omega
      simp [h40']
      refine vcCall.call works11 rfl ?_
      simp
    · have h40' : ¬ (40 : Int) < a.length := by omega
      simp [h40', encE_eq e]
      rw [← encE_eq e]
      refine vcCall.call hbr (by simp) ?_
      cases hb : briefS e 0
      · simp
        refine vcCall.call works11 rfl ?_
        simp
      · have hh := brief_hgt e 0 hb
        have hf := brief_few hb
        have a1 := env16 p a hp.vars20 ha
        have a2 := renv31 p a hp.vars20 ha
        have hl := envS_len (l := p.vars) (a := a)
        have hv20 := hp.vars20
        have a3 := same30 (envS p.vars a) (by omega)
        have a4 := holds19 p a e hp ha hwe (by omega) (by omega)
        have a5 := rholds32 p a e hp ha hwe (by omega) (by omega)
        generalize holdsS p a e = r at a4 a5
        generalize envS p.vars a = E at a1 a2 a3
        simp only [encP] at a1 a2 a4 a5
        simp
        refine vcCall.call a1 (by simp) ?_
        try simp
        refine vcCall.call a2 (by simp) ?_
        try simp
        refine vcCall.call a3 (by simp) ?_
        try simp [encE_eq e]
        try rw [← encE_eq e]
        refine vcCall.call a4 (by simp) ?_
        try simp [encE_eq e]
        try rw [← encE_eq e]
        refine vcCall.call a5 (by simp) ?_
        simp [plainTD]
        refine vcCall.call works11 rfl ?_
        simp
end Go.Proofs.YtpgcmnabljandaaGreatDoor
end
