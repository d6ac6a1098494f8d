/- A part of the proof: texts Walk8 Walk9 Walk10. -/
import Derived.Test.YtpgcmnabljandaaGreatDoorWk08
import Derived.Test.YtpgcmnabljandaaGreatDoorWk06

section
/-
  Walks: the variables of a problem, as the reference checks them.
-/
set_option linter.unusedVariables false
set_option linter.unusedSimpArgs false
set_option maxRecDepth 100000
namespace Go.Proofs.YtpgcmnabljandaaGreatDoor
open Go Go.Abs

set_option maxHeartbeats 8000000 in
theorem gap146 (l : List Var) (hl : Fits l) (hs : ∀ v ∈ l, Fits v.name) (hv : ∀ v ∈ l, varS v.name = true) : Pure Tryz.prog GG 146 [.sl 4 (l.map encVar) .none] (.bool (l.any fun v => gapS l v.name)) := by
  refine Pure.vc mixed Tryz.func146 rfl (by kernel_rfl) ?_
  simp
  refine vcLoop.intro (fun n env σ => ∃ i, i ≤ l.length ∧ n = l.length - i ∧ env 0 = .sl 4 (l.map encVar) .none ∧ env 3 = .int .i64 i ∧ σ = ⟨[], []⟩ ∧ ∀ v ∈ l.take i, gapS l v.name = false) l.length ⟨0, by simp⟩ ?_
  rintro n env σ ⟨i, hi, rfl, h0, h3, rfl, hall⟩
  cases hv1 : l[i]? with
  | none =>
    have hc : ¬ i < l.length := by simp at hv1; omega
    have ht : l.take i = l := List.take_of_length_le (by omega)
    rw [ht] at hall
    have e : (l.any fun v => gapS l v.name) = false := by
      rw [Bool.eq_false_iff]
      intro e
      obtain ⟨v, h1, h2⟩ := List.any_eq_true.1 e
      rw [hall v h1] at h2; cases h2
    rw [e]
    simp only [List.any_eq_false] at e
    simp [h0, h3, hc]
    try exact hall
  | some v =>
    obtain ⟨hc, hv'⟩ := List.getElem?_eq_some_iff.1 hv1
    have hm := List.mem_of_getElem? hv1
    have hfit := hs v hm
    have yes : gapS l v.name = true → (l.any fun v => gapS l v.name) = true := fun h => List.any_eq_true.2 ⟨v, hm, h⟩
    have next : gapS l v.name = false → ∀ a ∈ l.take (i + 1), gapS l a.name = false := fun h => take_succ_all hv1 hall h
    have hiw : IntKind.i64.wrap ((i : Int) + 1) = ((i + 1 : Nat) : Int) := by rw [wr (by omega) (by omega)]; omega
    simp [h0, h3, hc]
    -- the places of a bracket
    refine vcLoop.intro (fun n env σ => ∃ k : Nat, 1 ≤ k ∧ k ≤ v.name.length + 1 ∧ n = v.name.length + 1 - k ∧ env 0 = .sl 4 (l.map encVar) .none ∧ env 3 = .int .i64 i ∧ env 4 = .int .i64 k ∧ σ = ⟨[], []⟩ ∧ (∀ a j, IsElem v.name a j → a.length < k → gapS l v.name = false)) v.name.length ⟨1, by simp, by simp, by simp, by simp [h0], by simp [h3], by simp, rfl, fun a j hj h => by have := List.length_pos_iff.2 (nameS_ne hj.2.1); omega⟩ ?_
    clear h0 h3
    rintro n env σ ⟨k, hk1, hk, rfl, h0, h3, h4, rfl, hel⟩
    by_cases hlt : k < v.name.length
    · have hlt' : (k : Int) < v.name.length := by omega
      have hle' : (k : Int) ≤ v.name.length := by omega
      have hle : k ≤ v.name.length := by omega
      have step : (∀ a j, IsElem v.name a j → a.length = k → gapS l v.name = false) → ∀ a j, IsElem v.name a j → a.length < k + 1 → gapS l v.name = false := fun h a j hj hl => by
        rcases Nat.lt_succ_iff_lt_or_eq.1 hl with h1 | h1
        · exact hel a j hj h1
        · exact h a j hj h1
      have at91 : ∀ a j, IsElem v.name a j → a.length = k → v.name[k] = 91 ∧ v.name.take k = a := fun a j hj hl => by
        have e := hj.2.2
        subst hl
        constructor
        · simp [e, elemS]
        · conv => lhs; rw [e]
          simp [elemS]
      have hw : IntKind.i64.wrap ((k : Int) + 1) = ((k + 1 : Nat) : Int) := by rw [wr (by omega) (by omega)]; omega
      by_cases hb : v.name[k] = 91
      · -- a bracket: every name that holds one is an element's
        have hnm : nameS v.name = false := by
          cases e : nameS v.name
          · rfl
          · exact absurd (nameS_no91 e 91 (by rw [← hb]; exact List.getElem_mem hlt)) (by simp)
        obtain ⟨a, j, hj⟩ : ∃ a j, IsElem v.name a j := by
          have := hv v hm
          simp only [varS, hnm, Bool.false_or, Option.isSome_iff_exists] at this
          obtain ⟨p, hp⟩ := this
          exact ⟨p.1, p.2, elemO_some.1 hp⟩
        have hak : a.length = k := by
          have e := hj.2.2
          apply Classical.byContradiction
          intro hne
          rcases Nat.lt_or_gt_of_ne hne with h | h
          · have hl4 : v.name.length = a.length + 3 := by rw [e]; simp
            have hjl := hj.1
            have d : v.name[k] = [91, UInt8.ofNat (48 + j), 93][k - a.length]'(by simp; omega) := by
              simp only [e, elemS]
              rw [List.getElem_append_right (by omega)]
            rw [hb] at d
            have : k - a.length = 1 ∨ k - a.length = 2 := by omega
            rcases this with h1 | h1
            · simp only [h1, List.getElem_cons_succ, List.getElem_cons_zero] at d
              have := congrArg UInt8.toNat d
              simp at this; omega
            · simp only [h1, List.getElem_cons_succ, List.getElem_cons_zero] at d
              cases d
          · have d : v.name[k] = a[k]'h := by
              simp only [e, elemS]
              rw [List.getElem_append_left h]
            exact nameS_no91 hj.2.1 _ (List.getElem_mem h) (d.symm.trans hb)
        have hta := (at91 a j hj hak).2
        have hal : a.length ≤ 1000 := by have := name_len hj.2.1; omega
        simp [h0, h3, h4, hc, hv', hlt, hb]
        refine vcLoop.intro (fun n env σ => ∃ m : Nat, 1 ≤ m ∧ m ≤ 8 ∧ n = 8 - m ∧ env 0 = .sl 4 (l.map encVar) .none ∧ env 3 = .int .i64 i ∧ env 4 = .int .i64 k ∧ env 5 = .int .i64 m ∧ σ = ⟨[], []⟩ ∧ (1 ≤ j → j < m → gapS l v.name = false)) 7 ⟨1, by simp, by simp, by simp, by simp [h0], by simp [h3], by simp [h4], by simp, rfl, by omega⟩ ?_
        clear h0 h3 h4
        rintro n env σ ⟨m, hm1, hm8, rfl, h0, h3, h4, h5, rfl, hin⟩
        by_cases h8 : m < 8
        · have h8' : (m : Int) < 8 := by omega
          have hmw : IntKind.i64.wrap ((m : Int) + 1) = ((m + 1 : Nat) : Int) := by rw [wr (by omega) (by omega)]; omega
          simp [h0, h3, h4, h5, h8', hc, hv', sliceA, boundA, hle, hle', hta]
          refine vcCall.call (element221 a m h8 hal) rfl ?_
          by_cases he : m = j
          · subst he
            rw [← hj.2.2]
            obtain ⟨q, rfl⟩ : ∃ q, m = q + 1 := ⟨m - 1, by omega⟩
            have hwq : IntKind.i64.wrap (((q + 1 : Nat) : Int) - 1) = q := by rw [wr (by omega) (by omega)]; omega
            have hwq1 : IntKind.i64.wrap (q : Int) = q := wr (by omega) (by omega)
            have hwq2 : IntKind.i64.wrap ((q : Int) + 1 - 1) = q := by rw [wr (by omega) (by omega)]; omega
            simp [h0, h3, h4, h5, hc, hv', sliceA, boundA, hle, hle', hta, hwq, hwq1, hwq2]
            refine vcCall.call (element221 a q (by omega) hal) rfl ?_
            refine vcCall.call (find139 GG l (elemS a q) hl) (by simp) ?_
            have hg := gapS_succ (l := l) hj
            cases hh : hasV l (elemS a q)
            · rw [hh] at hg
              have hf : findI (fun v => v.name == elemS a q) l 0 < 0 := by
                have := findI_neg (fun v : Var => v.name == elemS a q) l
                simp only [hasV] at hh
                rw [hh] at this
                simpa using this
              rw [yes hg]
              simp [hf]
            · rw [hh] at hg
              have hf : ¬ findI (fun v => v.name == elemS a q) l 0 < 0 := by
                have := findI_neg (fun v : Var => v.name == elemS a q) l
                simp only [hasV] at hh
                rw [hh] at this
                simpa using this
              simp [hf, h0, h3, h4, h5, hmw]
              exact ⟨_, by omega, q + 2, by omega, by omega, rfl, by rw [wr (by omega) (by omega)]; omega, fun _ => by simpa using hg⟩
          · have hne : ¬ v.name = elemS a m := by
              intro e
              exact he (elemS_inj h8 hj.1 (e.symm.trans hj.2.2)).2
            simp [h0, h3, h4, h5, hne, hmw]
            exact ⟨_, by omega, m + 1, by omega, by omega, rfl, rfl, fun h1 h2 => hin h1 (by omega)⟩
        · have h8' : ¬ (m : Int) < 8 := by omega
          have hg : gapS l v.name = false := by
            rcases Nat.eq_zero_or_pos j with h | h
            · subst h; exact gapS_zero hj
            · exact hin h (by have := hj.1; omega)
          simp [h0, h3, h4, h5, h8', hw]
          exact ⟨_, by omega, k + 1, by omega, by omega, rfl, rfl, step fun _ _ _ _ => hg⟩
      · have hb' : ¬ (v.name[k].toNat : Int) = 91 := by
          intro e
          exact hb (UInt8.toNat_inj.1 (by simp; omega))
        simp [h0, h3, h4, hc, hv', hlt, hb', hw]
        exact ⟨_, by omega, k + 1, by omega, by omega, rfl, rfl, step fun a j hj hl => absurd (at91 a j hj hl).1 hb⟩
    · have hlt' : ¬ (k : Int) < v.name.length := by omega
      have hg : gapS l v.name = false := by
        cases he : elemO v.name with
        | none => exact gapS_none he
        | some p =>
          have hj := elemO_some.1 (show elemO v.name = some (p.1, p.2) from he)
          refine hel p.1 p.2 hj ?_
          have : v.name.length = p.1.length + 3 := by rw [hj.2.2]; simp
          omega
      simp [h0, h3, h4, hc, hv', hlt, hiw]
      exact ⟨_, by omega, i + 1, by omega, rfl, rfl, next hg⟩
end Go.Proofs.YtpgcmnabljandaaGreatDoor
end

section
/-
  Walks: the variables of a problem, as the reference checks them.
-/
set_option linter.unusedVariables false
set_option linter.unusedSimpArgs false
set_option maxRecDepth 100000
namespace Go.Proofs.YtpgcmnabljandaaGreatDoor
open Go Go.Abs
set_option maxHeartbeats 8000000 in
theorem variables79 (l : List Var) (hl : Fits l) (hs : ∀ v ∈ l, Fits v.name) : Pure Tryz.prog GG 79 [.sl 4 (l.map encVar) .none] (.int .i64 (varsS l)) := by
  refine Pure.vc mixed Tryz.func79 rfl (by kernel_rfl) ?_
  by_cases h16 : 16 < l.length
  · have e : varsS l = 2 := by simp [varsS, h16]
    have h16' : (16 : Int) < l.length := by omega
    rw [e]
    simp [h16']
  · have h16' : ¬ (16 : Int) < l.length := by omega
    simp [h16']
    refine vcLoop.intro (fun n env σ => ∃ i, i ≤ l.length ∧ n = l.length - i ∧ env 0 = .sl 4 (l.map encVar) .none ∧ env 3 = .int .i64 (bitsV (l.take i)) ∧ env 4 = .int .i64 i ∧ σ = ⟨[], []⟩ ∧ ∀ v ∈ l.take i, varE v = 0) l.length ⟨0, by simp [bitsV]⟩ ?_
    rintro n env σ ⟨i, hi, rfl, h0, h3, h4, rfl, hz⟩
    cases hv : l[i]? with
    | some v =>
      obtain ⟨hc, hv'⟩ := List.getElem?_eq_some_iff.1 hv
      have hm := List.mem_of_getElem? hv
      have hw : ∀ v ∈ l.take i, 1 ≤ v.width ∧ v.width ≤ 8 := fun v hv => (varE_zero (hz v hv)).2
      have hb := bitsV_bound hw
      have hbl : (l.take i).length ≤ 16 := by simp; omega
      have hbt := bitsV_take hv
      simp [h0, h3, h4, hc, hv']
      refine vcCall.call (variable145 v (hs v hm)) (by simp) ?_
      by_cases he : varE v = 0
      · have hw2 := (varE_zero he).2
        by_cases m0 : v.mode = 0
        · simp [he, m0, h0, h3, h4, hc, hv']
          refine ⟨_, by omega, i + 1, by omega, rfl, ?_, wr (by omega) (by omega), take_succ_all hv hz he⟩
          rw [hbt]; simp [m0]
        · have hwr : IntKind.i64.wrap (bitsV (l.take i) + v.width) = bitsV (l.take (i + 1)) := by
            rw [hbt, if_pos m0]
            exact wr (by omega) (by omega)
          simp [he, m0, h0, h3, h4, hc, hv', hwr]
          exact ⟨_, by omega, i + 1, by omega, rfl, rfl, wr (by omega) (by omega), take_succ_all hv hz he⟩
      · have e : varsS l = varE v := by
          have := firstE_of hv hz he
          simp [varsS, h16, this, he]
        rw [e]
        simp [he]
    | none =>
      have hc : ¬ i < l.length := by simp at hv; omega
      have ht : l.take i = l := List.take_of_length_le (by omega)
      rw [ht] at hz h3
      have hz0 := firstE_zero.2 hz
      have hw : ∀ v ∈ l, varS v.name = true ∧ 1 ≤ v.width ∧ v.width ≤ 8 := fun v hv => varE_zero (hz v hv)
      simp [h0, h3, h4, hc]
      refine vcLoop.intro (fun n env σ => ∃ i, i ≤ l.length ∧ n = l.length - i ∧ env 0 = .sl 4 (l.map encVar) .none ∧ env 3 = .int .i64 (bitsV l) ∧ env 6 = .int .i64 i ∧ σ = ⟨[], []⟩ ∧ ∀ j, j < i → dupAt l j = false) l.length ⟨0, by simp [h0, h3]⟩ ?_
      clear h0 h3 h4
      rintro n env σ ⟨i, hi, rfl, h0, h3, h6, rfl, hd⟩
      cases hv : l[i]? with
      | some v =>
        obtain ⟨hc, hv'⟩ := List.getElem?_eq_some_iff.1 hv
        have next : dupAt l i = false → ∀ j, j < i + 1 → dupAt l j = false := fun h j hj => by
          rcases Nat.lt_succ_iff_lt_or_eq.1 hj with hj | rfl
          · exact hd j hj
          · exact h
        have hle : i ≤ l.length := by omega
        have hle' : (i : Int) ≤ l.length := by omega
        have hda : dupAt l i = (l.take i).any (fun x => x.name == v.name) := by simp [dupAt, hv, hasV]
        simp [h0, h3, h6, hc, hv', sliceA, boundA, thirdA, sliceTok, hle, hle']
        rw [← List.map_take]
        refine vcCall.less (find139 GG (l.take i) v.name (by simp; omega)) ?_ ?_ ?_
        · simp only [noRefs, noRef, nrVar, Bool.and_true]
        · simp only [LeqL, Leq.refl, and_true]
          try exact Leq.sl (by rw [List.map_take])
        have hge := findI_dec (fun x : Var => x.name == v.name) (l.take i)
        rw [← hda] at hge
        cases hdi : dupAt l i
        · rw [hdi] at hge
          have hf : ¬ 0 ≤ findI (fun x : Var => x.name == v.name) (l.take i) 0 := of_decide_eq_false hge
          simp [hf, h0, h3, h6]
          exact ⟨_, by omega, i + 1, by omega, rfl, wr (by omega) (by omega), next hdi⟩
        · rw [hdi] at hge
          have hf : 0 ≤ findI (fun x : Var => x.name == v.name) (l.take i) 0 := of_decide_eq_true hge
          have e : varsS l = 8 := by simp [varsS, h16, hz0, dupS_of hc hdi]
          rw [e]
          simp [hf]
      | none =>
        have hc : ¬ i < l.length := by simp at hv; omega
        have hnd := dupS_no (l := l) fun j hj => hd j (by omega)
        simp [h0, h3, h6, hc]
        refine vcCall.call (gap146 l hl hs fun v hv => (hw v hv).1) (by simp) ?_
        cases hg : l.any fun v => gapS l v.name
        · by_cases hb : 20 < bitsV l
          · have e : varsS l = 2 := by simp only [varsS, h16, hz0, hnd, hg, hb]; rfl
            rw [e]
            simp [hb, h3]
          · have e : varsS l = 0 := by simp only [varsS, h16, hz0, hnd, hg, hb]; rfl
            rw [e]
            simp [hb, h3]
        · have e : varsS l = 10 := by simp only [varsS, h16, hz0, hnd, hg]; rfl
          rw [e]
          simp
end Go.Proofs.YtpgcmnabljandaaGreatDoor
end

section
/-
  Walks: a function is called for every node of an expression.
-/
set_option linter.unusedVariables false
set_option linter.unusedSimpArgs false
set_option maxRecDepth 100000
namespace Go.Proofs.YtpgcmnabljandaaGreatDoor
open Go Go.Abs

theorem runW_pre {S : Type} {stp : S → Ex → S × Bool} {s : S} {e : Ex} : runW stp s (pre e) = if (stp s e).2 = true then runW stp (stp s e).1 (preL e.args) else ((stp s e).1, false) := by
  rw [pre_eq, runW]
theorem look {hd : List Blk} {c : Nat} (hc : hd.length = c) {t : List Blk} {k : Nat} : (hd ++ t)[c + k]? = t[k]? := by
  subst hc; rw [List.getElem?_append_right (by omega)]; simp
theorem look1 {tail t : List Blk} {k : Nat} {b : Blk} (h : tail[k]? = some b) : (tail ++ t)[k]? = some b := by
  rw [List.getElem?_append_left (List.getElem?_eq_some_iff.1 h).1, h]

/-- Operands and names that no counter outgrows. -/
def Wen (e : Ex) : Prop := ∀ x ∈ pre e, Fits x.args ∧ Fits x.name
theorem Wen.fits {e : Ex} (h : Wen e) : Fits e.args := (h e (by rw [pre_eq]; simp)).1
theorem Wen.nm {e : Ex} (h : Wen e) : Fits e.name := (h e (by rw [pre_eq]; simp)).2
theorem Wen.arg {e a : Ex} (h : Wen e) (ha : a ∈ e.args) : Wen a := fun x hx => h x (by rw [pre_eq]; exact List.mem_cons_of_mem _ (mem_preL.2 ⟨a, ha, hx⟩))

section
variable {S : Type} {stp : S → Ex → S × Bool} {hd : S → List Blk} {T : S → List (Option Nat)} {c : Nat} {vf : FuncId} {cap : List AV} {m : S → Nat}

/-- What the visits do; 'm': how many there may be. -/
def Visits (stp : S → Ex → S × Bool) (hd : S → List Blk) (T : S → List (Option Nat)) (vf : FuncId) (cap : List AV) (m : S → Nat) : Prop :=
  ∀ s tail e, Wen e → 0 < m s → ACall Tryz.prog GG vf (.agg (encE e) :: cap) ⟨hd s ++ tail, T s⟩ (fun r σ' => r = .bool (stp s e).2 ∧ ∃ t, σ' = ⟨hd (stp s e).1 ++ (tail ++ t), T (stp s e).1⟩)

theorem runW_m (hm : ∀ s e, m s ≤ m (stp s e).1 + 1) : ∀ (s : S) (l : List Ex), m s ≤ m (runW stp s l).1 + l.length
  | s, [] => by simp [runW]
  | s, e :: r => by
    simp only [runW]
    split
    · have := hm s e
      have := runW_m hm (stp s e).1 r
      simp; omega
    · have := hm s e
      simp; omega
theorem down227 (hc : ∀ s, (hd s).length = c) (hm : ∀ s e, m s ≤ m (stp s e).1 + 1) (hv : Visits stp hd T vf cap m) : ∀ e, Wen e → ∀ s tail kb kd, (pre e).length ≤ m s → tail[kb]? = some (.cells [.fn vf [] cap]) → tail[kd]? = some (.cells [.fn 227 [] [.ptr (c + kb) 0, .ptr (c + kd) 0]]) →
    ACall Tryz.prog GG 227 [.agg (encE e), .ptr (c + kb) 0, .ptr (c + kd) 0] ⟨hd s ++ tail, T s⟩ (fun r σ' => r = .bool (runW stp s (pre e)).2 ∧ ∃ t, σ' = ⟨hd (runW stp s (pre e)).1 ++ (tail ++ t), T (runW stp s (pre e)).1⟩) := by
  refine Ex.ind fun e ih hwe s tail kb kd hsz hb hd' => ?_
  rw [pre_eq, List.length_cons] at hsz
  refine ACall.vc mixed Tryz.func227 rfl (by kernel_rfl) ?_
  have lb : ∀ s t, (hd s ++ (tail ++ t))[c + kb]? = some (.cells [.fn vf [] cap]) := fun s t => by rw [look (hc s), look1 hb]
  have ld : ∀ s t, (hd s ++ (tail ++ t))[c + kd]? = some (.cells [.fn 227 [] [.ptr (c + kb) 0, .ptr (c + kd) 0]]) := fun s t => by rw [look (hc s), look1 hd']
  have lx : ∀ s (t : List Blk) (x : Blk) (u : List Blk), (hd s ++ (tail ++ (t ++ x :: u)))[c + (tail.length + t.length)]? = some x := fun s t x u => by
    rw [look (hc s), List.getElem?_append_right (by omega), List.getElem?_append_right (by omega)]
    simp
  have lx0 : ∀ s (x : Blk) (u : List Blk), (hd s ++ (tail ++ (x :: u)))[c + tail.length]? = some x := fun s x u => by
    have := lx s [] x u
    simpa using this
  simp [encE_eq, hc, lb, ld, lx0]
  rw [← encE_eq e]
  refine ACall.imp (hv s (tail ++ [.cells (encE e)]) e hwe (by omega)) ?_
  rintro r σ' ⟨rfl, t, rfl⟩
  have e0 : hd (stp s e).1 ++ (tail ++ [Blk.cells (encE e)] ++ t) = hd (stp s e).1 ++ (tail ++ (Blk.cells (encE e) :: t)) := by simp
  rw [e0]
  cases hst : (stp s e).2
  · simp [runW_pre, hst]
  · have hl := hwe.fits
    simp only [encE_eq e]
    simp [hc, lx0]
    refine vcLoop.intro (fun n env σ => ∃ i s' tl, i ≤ e.args.length ∧ n = e.args.length - i ∧ env 1 = .ptr (c + kb) 0 ∧ env 2 = .ptr (c + kd) 0 ∧ env 12 = .sl 4 (e.args.map encE) .none ∧ env 13 = .int .i64 e.args.length ∧ env 14 = .int .i64 i ∧ σ = ⟨hd s' ++ (tail ++ tl), T s'⟩ ∧ (preL (e.args.drop i)).length ≤ m s' ∧ runW stp s (pre e) = runW stp s' (preL (e.args.drop i))) e.args.length ⟨0, (stp s e).1, _, by simp, by simp, by simp, by simp, by simp, by simp, by simp, rfl, by have := hm s e; simp; omega, by rw [runW_pre, hst]; simp⟩ ?_
    rintro n env σ ⟨i, s', tl, hi, rfl, h1, h2, h12, h13, h14, rfl, hsz', hrun⟩
    cases hv' : e.args[i]? with
    | none =>
      have hcn : ¬ i < e.args.length := by simp at hv'; omega
      have hd0 : e.args.drop i = [] := by simp; omega
      rw [hd0] at hrun
      simp [h1, h2, h12, h13, h14, hcn, hrun, runW]
    | some a =>
      obtain ⟨hcn, hve⟩ := List.getElem?_eq_some_iff.1 hv'
      have hma := List.mem_of_getElem? hv'
      rw [drop_cons hv', preL_cons, runW_append] at hrun
      rw [drop_cons hv', preL_cons, List.length_append] at hsz'
      have hmr := runW_m hm s' (pre a)
      have set1 : ∀ (z x : Blk), (hd s' ++ (tail ++ (tl ++ [z]))).set (c + (tail.length + tl.length)) x = hd s' ++ (tail ++ (tl ++ [x])) := fun z x => by
        rw [List.set_append, if_neg (by rw [hc]; omega), hc, List.set_append, if_neg (by omega), List.set_append, if_neg (by omega)]
        have : c + (tail.length + tl.length) - c - tail.length - tl.length = 0 := by omega
        rw [this]; rfl
      simp [h1, h2, h12, h13, h14, hcn, hve, encE_eq a, hc, lx, set1, lb, ld]
      rw [← encE_eq a]
      refine ACall.imp (ih a hma (hwe.arg hma) s' (tail ++ (tl ++ [.cells (encE a)])) kb kd (by omega) (look1 hb) (look1 hd')) ?_
      rintro r σ' ⟨rfl, t', rfl⟩
      cases hr : (runW stp s' (pre a)).2
      · rw [hr] at hrun
        simp only [Bool.false_eq_true, if_false] at hrun
        simp [hrun, hr]
      · rw [hr] at hrun
        simp only [if_true] at hrun
        simp [h1, h2, h12, h13, h14]
        exact ⟨_, by omega, i + 1, by omega, rfl, wr (by omega) (by omega), _, ⟨⟨_, rfl⟩, rfl⟩, by omega, hrun⟩

theorem walk149 (hc : ∀ s, (hd s).length = c) (hm : ∀ s e, m s ≤ m (stp s e).1 + 1) (hv : Visits stp hd T vf cap m) (e : Ex) (hwe : Wen e) (s : S) (hsz : (pre e).length ≤ m s) (tail : List Blk) :
    ACall Tryz.prog GG 149 [.agg (encE e), .fn vf [] cap] ⟨hd s ++ tail, T s⟩ (fun r σ' => ∃ t, σ' = ⟨hd (runW stp s (pre e)).1 ++ (tail ++ t), T (runW stp s (pre e)).1⟩) := by
  refine ACall.vc mixed Tryz.func149 rfl (by kernel_rfl) ?_
  have set2 : ∀ (x y z w : Blk), (hd s ++ (tail ++ [x, y, z])).set (c + (tail.length + (1 + 1))) w = hd s ++ (tail ++ [x, y, w]) := fun x y z w => by
    rw [List.set_append, if_neg (by rw [hc]; omega), hc, List.set_append, if_neg (by omega)]
    have : c + (tail.length + (1 + 1)) - c - tail.length = 2 := by omega
    rw [this]; rfl
  have l0 : ∀ (x : Blk) (u : List Blk), (hd s ++ (tail ++ (x :: u)))[c + tail.length]? = some x := fun x u => by
    rw [look (hc s), List.getElem?_append_right (by omega)]; simp
  have l2 : ∀ (x y z : Blk) (u : List Blk), (hd s ++ (tail ++ (x :: y :: z :: u)))[c + (tail.length + (1 + 1))]? = some z := fun x y z u => by
    rw [look (hc s), List.getElem?_append_right (by omega)]
    have : tail.length + (1 + 1) - tail.length = 2 := by omega
    rw [this]; rfl
  simp [encE_eq e, hc, set2, l0, l2]
  rw [← encE_eq e]
  have k := down227 hc hm hv e hwe s (tail ++ [.cells (encE e), .cells [.fn vf [] cap], .cells [.fn 227 [] [.ptr (c + (tail.length + 1)) 0, .ptr (c + (tail.length + 1) + 1) 0]]]) (tail.length + 1) (tail.length + 1 + 1) hsz
    (by rw [List.getElem?_append_right (by omega)]; have : tail.length + 1 - tail.length = 1 := by omega
        rw [this]; rfl)
    (by rw [List.getElem?_append_right (by omega)]; have : tail.length + 1 + 1 - tail.length = 2 := by omega
        rw [this]; rfl)
  refine ACall.imp k ?_
  rintro r σ' ⟨_, t, rfl⟩
  exact ⟨_, by rw [List.append_assoc]⟩
end
end Go.Proofs.YtpgcmnabljandaaGreatDoor
end
