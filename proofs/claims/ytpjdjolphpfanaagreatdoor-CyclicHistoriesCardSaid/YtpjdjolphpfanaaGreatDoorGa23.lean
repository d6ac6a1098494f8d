/- A part of the proof. -/
import Derived.Test.YtpjdjolphpfanaaGreatDoorGa15
import Derived.Test.YtpjdjolphpfanaaGreatDoorGa22
set_option linter.unusedVariables false
set_option linter.unusedSimpArgs false
set_option maxRecDepth 100000
set_option linter.defProp false
section
namespace Go.Proofs.YtpjdjolphpfanaaGreatDoor
open Go Go.Abs

theorem findI_neg {α : Type} (p : α → Bool) (l : List α) : decide (findI p l 0 < 0) = !l.any p := by
  have h := findI_ge (p := p) (l := l) (i := 0) (by omega)
  cases hb : l.any p
  · rw [hb] at h
    have : ¬ 0 ≤ findI p l 0 := fun e => by have := h.1 e; cases this
    simp; omega
  · rw [hb] at h
    have := h.2 rfl
    simp; omega
theorem gapS_none {l : List Var} {name : Str} (h : elemO name = none) : gapS l name = false := by simp [gapS, h]
theorem gapS_zero {l : List Var} {name a : Str} (h : IsElem name a 0) : gapS l name = false := by simp [gapS, elemO_eq h]
theorem gapS_succ {l : List Var} {name a : Str} {i : Nat} (h : IsElem name a (i + 1)) : gapS l name = !hasV l (elemS a i) := by simp [gapS, elemO_eq h]

theorem gap126 (l : List Var) (name : Str) (hl : Fits l) (hs : Fits name) (hv : varS name = true) : Pure Tryz.prog GG 68 [.sl 4 (l.map encVar) .none, .str name] (.bool (gapS l name)) := by
  refine Pure.vc mixed Tryz.func68 rfl (by kernel_rfl) ?_
  simp
  cases hc : name.contains 91
  · refine vcCall.call (cut196n GG name hs hc) rfl ?_
    rw [gapS_none (no_elem hc)]
    simp
  · refine vcCall.call (cut196 GG name hs hc) rfl ?_
    simp
    have hn : nameS name = false := by
      cases e : nameS name
      · rfl
      · exact absurd (nameS_no91 e 91 (by simpa using hc)) (by simp)
    obtain ⟨a, i, hi⟩ : ∃ a i, IsElem name a i := by
      simp only [varS, hn, Bool.false_or, Option.isSome_iff_exists] at hv
      obtain ⟨p, hp⟩ := hv
      exact ⟨p.1, p.2, elemO_some.1 hp⟩
    have hh := hi.has.2.1
    have hal : a.length ≤ 1000 := by have := name_len hi.2.1; omega
    rw [hh]
    refine vcLoop.intro (fun n env σ => ∃ j : Nat, 1 ≤ j ∧ j ≤ 8 ∧ n = 8 - j ∧ env 0 = .sl 4 (l.map encVar) .none ∧ env 1 = .str name ∧ env 5 = .str a ∧ env 8 = .int .i64 j ∧ σ = ⟨[], []⟩ ∧ (i = 0 ∨ j ≤ i)) 7 ⟨1, by simp, by simp, by simp, by simp, by simp, by simp, by simp, rfl, by omega⟩ ?_
    rintro n env σ ⟨j, hj1, hj8, rfl, h0, h1, h5, h8, rfl, hj⟩
    by_cases hlt : j < 8
    · have hlt' : (j : Int) < 8 := by omega
      simp [h0, h1, h5, h8, hlt']
      refine vcCall.call (element181 a j hlt hal) rfl ?_
      by_cases he : j = i
      · subst he
        rw [← hi.2.2]
        obtain ⟨k, rfl⟩ : ∃ k, j = k + 1 := ⟨j - 1, by omega⟩
        have hw : IntKind.i64.wrap (((k + 1 : Nat) : Int) - 1) = k := by rw [wr (by omega) (by omega)]; omega
        have hw' : IntKind.i64.wrap (k : Int) = k := wr (by omega) (by omega)
        have hw2 : IntKind.i64.wrap ((k : Int) + 1 - 1) = k := by rw [wr (by omega) (by omega)]; omega
        simp [h0, h1, h5, h8, hw, hw', hw2]
        refine vcCall.call (element181 a k (by omega) hal) rfl ?_
        refine vcCall.call (index GG l (elemS a k) hl) (by simp) ?_
        rw [gapS_succ hi]
        simp [findI_neg, hasV]
      · have hne : ¬ name = elemS a j := by
          intro e
          exact he (elemS_inj hlt hi.1 (e.symm.trans hi.2.2)).2
        simp [h0, h1, h5, h8, hne]
        refine ⟨_, by omega, j + 1, by omega, by omega, rfl, wr (by omega) (by omega), by omega⟩
    · have hlt' : ¬ (j : Int) < 8 := by omega
      have hi0 : i = 0 := by have := hi.1; omega
      subst hi0
      rw [gapS_zero hi]
      simp [h0, h1, h5, h8, hlt']

theorem vars125 (l : List Var) (v : Var) (hl : Fits l) (hs : Fits v.name) (hv : varS v.name = true) : Pure Tryz.prog GG 67 [.agg (encVar v), .rptr [.sl 4 (l.map encVar) .none]] (.bool (gapS l v.name)) := by
  refine Pure.vc mixed Tryz.func67 rfl (by kernel_rfl) ?_
  simp
  refine vcCall.call (gap126 l v.name hl hs hv) (by simp) ?_
  simp

theorem shl1 {w : Int} (h1 : 1 ≤ w) (h2 : w ≤ 8) : IntKind.i64.wrap (2 ^ (min w.toNat 64)) = 2 ^ w.toNat := by
  obtain ⟨k, rfl⟩ := Int.eq_ofNat_of_zero_le (show 0 ≤ w by omega)
  have : k = 1 ∨ k = 2 ∨ k = 3 ∨ k = 4 ∨ k = 5 ∨ k = 6 ∨ k = 7 ∨ k = 8 := by omega
  rcases this with rfl | rfl | rfl | rfl | rfl | rfl | rfl | rfl <;> decide

set_option maxHeartbeats 4000000 in
theorem variable145 (v : Var) (hs : Fits v.name) : Pure Tryz.prog GG 50 [.agg (encVar v)] (.int .i64 (varE v)) := by
  refine Pure.vc mixed Tryz.func50 rfl (by kernel_rfl) ?_
  simp
  refine vcCall.call (named220 v.name hs) rfl ?_
  cases hn : varS v.name
  · simp [varE, hn]
  · by_cases c1 : v.width < 1
    · have e : varE v = 1 := by simp [varE, hn, c1]
      simp [e, c1]
    · by_cases c2 : 8 < v.width
      · have e : varE v = 1 := by simp [varE, hn, c2]
        simp [e, c1, c2]
      · by_cases c3 : v.mode < 0
        · have e : varE v = 1 := by simp [varE, hn, c3]
          simp [e, c1, c2, c3]
        · by_cases c4 : 2 < v.mode
          · have e : varE v = 1 := by simp [varE, hn, c4]
            simp [e, c1, c2, c3, c4]
          · by_cases c5 : v.value < 0
            · have e : varE v = 1 := by simp [varE, hn, c5]
              simp [e, c1, c2, c3, c4, c5]
            · have c6 : ¬ v.width < 0 := by omega
              have hsh := shl1 (w := v.width) (by omega) (by omega)
              by_cases m0 : v.mode = 0
              · by_cases c7 : (2 : Int) ^ v.width.toNat ≤ v.value
                · have e : varE v = 1 := by simp [varE, hn, c7]
                  simp [e, c1, c2, c3, c4, c5, c6, m0, hsh, c7, IntKind.bits]
                · have e : varE v = 0 := by simp [varE, hn, c1, c2, c3, c4, c5, c7, m0]
                  simp [e, c1, c2, c3, c4, c5, c6, m0, hsh, c7, IntKind.bits]
              · by_cases c8 : v.value = 0
                · have c9 : ¬ (2 : Int) ^ v.width.toNat ≤ 0 := by
                    have : (0 : Int) < 2 ^ v.width.toNat := Int.pow_pos (by omega)
                    omega
                  have e : varE v = 0 := by simp [varE, hn, c1, c2, c3, c4, c8, c9]
                  simp [e, c1, c2, c3, c4, c5, c6, m0, hsh, c8, c9, IntKind.bits]
                · have e : varE v = 1 := by simp [varE, hn, m0, c8]
                  simp [e, c1, c2, c3, c4, c5, c6, m0, hsh, c8, IntKind.bits]

theorem bitsV_take {l : List Var} {i : Nat} {v : Var} (h : l[i]? = some v) : bitsV (l.take (i + 1)) = bitsV (l.take i) + (if v.mode ≠ 0 then v.width else 0) := by
  rw [List.take_add_one, h]
  have : ∀ (m n : List Var), bitsV (m ++ n) = bitsV m + bitsV n := by
    intro m n
    induction m with
    | nil => simp [bitsV]
    | cons a r ih => simp only [List.cons_append, bitsV, ih]; omega
  rw [this]
  simp [bitsV]
theorem varE_zero {v : Var} (h : varE v = 0) : varS v.name = true ∧ 1 ≤ v.width ∧ v.width ≤ 8 := by
  unfold varE at h
  split at h
  · cases h
  · rename_i hn
    split at h
    · cases h
    · rename_i hc
      refine ⟨by simpa using hn, ?_, ?_⟩
      · apply Classical.byContradiction; intro e; exact hc (.inl (by omega))
      · apply Classical.byContradiction; intro e; exact hc (.inr (.inl (by omega)))
theorem bitsV_bound {l : List Var} (h : ∀ v ∈ l, 1 ≤ v.width ∧ v.width ≤ 8) : 0 ≤ bitsV l ∧ bitsV l ≤ 8 * l.length := by
  induction l with
  | nil => simp [bitsV]
  | cons a r ih =>
    have h1 := h a (by simp)
    have h2 := ih fun v hv => h v (by simp [hv])
    simp only [bitsV, List.length_cons]
    split <;> omega
theorem findI_first {l : List Var} {i : Nat} {v : Var} (h : l[i]? = some v) : (findI (fun x => x.name == v.name) l 0 = i) ↔ dupAt l i = false := by
  have gen : ∀ (l : List Var) (i : Nat) (k : Int), l[i]? = some v → ((findI (fun x => x.name == v.name) l k = k + i) ↔ (l.take i).any (fun x => x.name == v.name) = false) := by
    intro l
    induction l with
    | nil => intro i k h; simp at h
    | cons a r ih =>
      intro i k h
      cases i with
      | zero =>
        simp only [List.getElem?_cons_zero, Option.some.injEq] at h
        subst h
        simp [findI]
      | succ i =>
        simp only [List.getElem?_cons_succ] at h
        simp only [findI, List.take_succ_cons, List.any_cons]
        by_cases hn : a.name = v.name
        · simp [hn]
          omega
        · have hb : (a.name == v.name) = false := by simpa using hn
          simp only [hb, Bool.false_eq_true, if_false, Bool.false_or]
          rw [← ih i (k + 1) h]
          constructor <;> intro e <;> omega
  have := gen l i 0 h
  simp only [Int.zero_add] at this
  rw [this]
  simp [dupAt, h, hasV]
theorem dupS_of {l : List Var} {i : Nat} (hi : i < l.length) (h : dupAt l i = true) : dupS l = true := by
  unfold dupS
  exact List.any_eq_true.2 ⟨i, List.mem_range.2 hi, h⟩
theorem dupS_no {l : List Var} (h : ∀ i, i < l.length → dupAt l i = false) : dupS l = false := by
  unfold dupS
  rw [Bool.eq_false_iff]
  intro e
  obtain ⟨i, h1, h2⟩ := List.any_eq_true.1 e
  rw [h i (List.mem_range.1 h1)] at h2; cases h2
theorem firstE_of {α : Type} {f : α → Int} {l : List α} {i : Nat} {v : α} (h : l[i]? = some v) (hz : ∀ a ∈ l.take i, f a = 0) (hv : f v ≠ 0) : firstE f l = f v := by
  obtain ⟨hc, hv'⟩ := List.getElem?_eq_some_iff.1 h
  have : l = l.take i ++ v :: l.drop (i + 1) := by
    conv => lhs; rw [← List.take_append_drop i l, drop_cons h]
  rw [this, firstE_append, firstE_zero.2 hz]
  simp [firstE, hv]
theorem take_succ_all {α : Type} {p : α → Prop} {l : List α} {i : Nat} {v : α} (h : l[i]? = some v) (hz : ∀ a ∈ l.take i, p a) (hv : p v) : ∀ a ∈ l.take (i + 1), p a := by
  intro a ha
  rw [List.take_add_one, h] at ha
  rcases List.mem_append.1 ha with ha | ha
  · exact hz a ha
  · simp at ha; rw [ha]; exact hv

/-- The state of a function that boxes its list, with what its rounds have left. -/
def stB (c : AV) (tail : List Blk) : St := ⟨.cells [c] :: tail, []⟩

set_option maxHeartbeats 8000000 in
theorem vars62 (l : List Var) (hl : Fits l) (hs : ∀ v ∈ l, Fits v.name) : Pure Tryz.prog GG 40 [.sl 4 (l.map encVar) .none] (.int .i64 (varsS l)) := by
  refine Pure.vc mixed Tryz.func40 rfl (by kernel_rfl) ?_
  by_cases h16 : 16 < l.length
  · have e : varsS l = 2 := by simp [varsS, h16]
    have h16' : (16 : Int) < l.length := by omega
    rw [e]
    simp [h16']
  · have h16' : ¬ (16 : Int) < l.length := by omega
    simp [h16']
    refine vcLoop.intro (fun n env σ => ∃ i tail, i ≤ l.length ∧ n = l.length - i ∧ env 1 = .ptr 0 0 ∧ env 11 = .sl 4 (l.map encVar) .none ∧ env 12 = .int .i64 l.length ∧ env 13 = .int .i64 i ∧ σ = ⟨.cells [.sl 4 (l.map encVar) .none] :: tail, []⟩ ∧ ∀ v ∈ l.take i, varE v = 0) l.length ⟨0, [], by simp⟩ ?_
    rintro n env σ ⟨i, tail, hi, rfl, h1, h11, h12, h13, rfl, hz⟩
    cases hv : l[i]? with
    | some v =>
      obtain ⟨hc, hv'⟩ := List.getElem?_eq_some_iff.1 hv
      have hm := List.mem_of_getElem? hv
      have bad : varE v ≠ 0 → varsS l = varE v := by
        intro hne
        have := firstE_of hv hz hne
        simp [varsS, h16, this, hne]
      simp [h1, h11, h12, h13, hc, hv', List.set_append]
      refine vcCall.call (named123 v.name (hs v hm)) rfl ?_
      have next : varE v = 0 → ∀ a ∈ l.take (i + 1), varE a = 0 := fun h => take_succ_all hv hz h
      cases hn : varS v.name
      · have e : varE v = 7 := by simp [varE, hn]
        simp [bad (by rw [e]; decide), e]
      · by_cases c1 : v.width < 1
        · have e : varE v = 1 := by simp [varE, hn, c1]
          simp [List.set_append, c1, bad (by rw [e]; decide), e]
        · by_cases c2 : 8 < v.width
          · have e : varE v = 1 := by simp [varE, hn, c2]
            simp [List.set_append, c1, c2, bad (by rw [e]; decide), e]
          · by_cases c3 : v.mode < 0
            · have e : varE v = 1 := by simp [varE, hn, c3]
              simp [List.set_append, c1, c2, c3, bad (by rw [e]; decide), e]
            · by_cases c4 : 2 < v.mode
              · have e : varE v = 1 := by simp [varE, hn, c4]
                simp [List.set_append, c1, c2, c3, c4, bad (by rw [e]; decide), e]
              · by_cases c5 : v.value < 0
                · have e : varE v = 1 := by simp [varE, hn, c5]
                  simp [List.set_append, c1, c2, c3, c4, c5, bad (by rw [e]; decide), e]
                · have c6 : ¬ v.width < 0 := by omega
                  have hsh := shl1 (w := v.width) (by omega) (by omega)
                  by_cases c7 : (2 : Int) ^ v.width.toNat ≤ v.value
                  · have e : varE v = 1 := by simp [varE, hn, c7]
                    simp [List.set_append, c1, c2, c3, c4, c5, c6, hsh, c7, IntKind.bits, bad (by rw [e]; decide), e]
                  · by_cases m0 : v.mode = 0
                    · have e : varE v = 0 := by simp [varE, hn, c1, c2, c3, c4, c5, c7, m0]
                      simp [List.set_append, c1, c2, c3, c4, c5, c6, hsh, c7, IntKind.bits, m0, h1, h11, h12, h13]
                      exact ⟨_, by omega, i + 1, by omega, rfl, wr (by omega) (by omega), next e⟩
                    · by_cases c8 : v.value = 0
                      · have hp : (0 : Int) < 2 ^ v.width.toNat := Int.pow_pos (by omega)
                        have c9 : ¬ (2 : Int) ^ v.width.toNat ≤ 0 := by omega
                        have e : varE v = 0 := by simp [varE, hn, c1, c2, c3, c4, c5, c8, hp]
                        simp [List.set_append, c1, c2, c3, c4, c5, c6, hsh, c7, IntKind.bits, m0, c8, c9, h1, h11, h12, h13]
                        exact ⟨_, by omega, i + 1, by omega, rfl, wr (by omega) (by omega), next e⟩
                      · have e : varE v = 1 := by simp [varE, hn, m0, c8]
                        simp [List.set_append, c1, c2, c3, c4, c5, c6, hsh, c7, IntKind.bits, m0, c8, bad (by rw [e]; decide), e]
    | none =>
      have hc : ¬ i < l.length := by simp at hv; omega
      have ht : l.take i = l := List.take_of_length_le (by omega)
      rw [ht] at hz
      have hz0 := firstE_zero.2 hz
      simp [h1, h11, h12, h13, hc]
      have hw : ∀ v ∈ l, varS v.name = true ∧ 1 ≤ v.width ∧ v.width ≤ 8 := fun v hv => varE_zero (hz v hv)
      refine vcLoop.intro (fun n env σ => ∃ i tail, i ≤ l.length ∧ n = l.length - i ∧ env 1 = .ptr 0 0 ∧ env 5 = .int .i64 (bitsV (l.take i)) ∧ env 63 = .sl 4 (l.map encVar) .none ∧ env 64 = .int .i64 l.length ∧ env 65 = .int .i64 i ∧ σ = ⟨.cells [.sl 4 (l.map encVar) .none] :: tail, []⟩ ∧ ∀ j, j < i → dupAt l j = false) l.length ⟨0, tail, by simp [h1, bitsV]⟩ ?_
      clear h1 h11 h12 h13
      rintro n env σ ⟨i, tail, hi, rfl, h1, h5, h63, h64, h65, rfl, hd⟩
      cases hv : l[i]? with
      | some v =>
        obtain ⟨hc, hv'⟩ := List.getElem?_eq_some_iff.1 hv
        have hm := List.mem_of_getElem? hv
        have hfi := findI_first hv
        have hb := bitsV_bound (l := l.take i) fun v hv => (hw v (List.mem_of_mem_take hv)).2
        have hbl : (l.take i).length ≤ 16 := by simp; omega
        have next : dupAt l i = false → ∀ j, j < i + 1 → dupAt l j = false := fun h j hj => by
          rcases Nat.lt_succ_iff_lt_or_eq.1 hj with hj | rfl
          · exact hd j hj
          · exact h
        simp [h1, h5, h63, h64, h65, hc, hv', List.set_append]
        refine vcCall.call (index GG l v.name hl) (by simp) ?_
        cases hdi : dupAt l i
        · rw [hfi.2 hdi]
          have hbt := bitsV_take hv
          by_cases m0 : v.mode = 0
          · simp [List.set_append, m0, h1, h5, h63, h64, h65]
            refine ⟨_, by omega, i + 1, by omega, rfl, ?_, wr (by omega) (by omega), next hdi⟩
            rw [hbt]; simp [m0]
          · have hw2 := hw v hm
            have hwr : IntKind.i64.wrap (bitsV (l.take i) + v.width) = bitsV (l.take (i + 1)) := by
              rw [hbt, if_pos m0]
              exact wr (by omega) (by omega)
            simp [List.set_append, m0, h1, h5, h63, h64, h65, hwr]
            refine ⟨_, by omega, i + 1, by omega, rfl, rfl, wr (by omega) (by omega), next hdi⟩
        · have hne : ¬ findI (fun x => x.name == v.name) l 0 = i := by
            intro e
            have := hfi.1 e
            rw [hdi] at this; cases this
          have e : varsS l = 8 := by simp [varsS, h16, hz0, dupS_of hc hdi]
          rw [e]
          simp [List.set_append, hne]
      | none =>
        have hc : ¬ i < l.length := by simp at hv; omega
        have ht : l.take i = l := List.take_of_length_le (by omega)
        rw [ht] at h5
        have hnd := dupS_no (l := l) fun j hj => hd j (by omega)
        simp [h1, h5, h63, h64, h65, hc]
        refine vcCall.lent (containsFuncVar GG l (fun v => gapS l v.name) 67 [] [.rptr [.sl 4 (l.map encVar) .none]] hl rfl (by simp) fun v hv => vars125 l v hl (hs v hv) (hw v hv).1) rfl ?_ ?_
        · simp [frz]
        · cases hg : l.any fun v => gapS l v.name
          · by_cases hb : 20 < bitsV l
            · have e : varsS l = 2 := by simp [varsS, h16, hz0, hnd, hg, hb]
              rw [e]
              simp [hb, h5]
            · have e : varsS l = 0 := by simp only [varsS, h16, hz0, hnd, hg, hb]; rfl
              rw [e]
              simp [hb, h5]
          · have e : varsS l = 10 := by simp only [varsS, h16, hz0, hnd, hg]; rfl
            rw [e]
            simp

set_option maxHeartbeats 8000000 in
theorem gap146 (l : List Var) (hl : Fits l) (hs : ∀ v ∈ l, Fits v.name) (hv : ∀ v ∈ l, varS v.name = true) : Pure Tryz.prog GG 52 [.sl 4 (l.map encVar) .none] (.bool (l.any fun v => gapS l v.name)) := by
  refine Pure.vc mixed Tryz.func52 rfl (by kernel_rfl) ?_
  simp
  refine vcLoop.intro (fun n env σ => ∃ i, i ≤ l.length ∧ n = l.length - i ∧ env 0 = .sl 4 (l.map encVar) .none ∧ env 3 = .int .i64 i ∧ σ = ⟨[], []⟩ ∧ ∀ v ∈ l.take i, gapS l v.name = false) l.length ⟨0, by simp⟩ ?_
  rintro n env σ ⟨i, hi, rfl, h0, h3, rfl, hall⟩
  cases hv1 : l[i]? with
  | none =>
    have hc : ¬ i < l.length := by simp at hv1; omega
    have ht : l.take i = l := List.take_of_length_le (by omega)
    rw [ht] at hall
    have e : (l.any fun v => gapS l v.name) = false := by
      rw [Bool.eq_false_iff]
      intro e
      obtain ⟨v, h1, h2⟩ := List.any_eq_true.1 e
      rw [hall v h1] at h2; cases h2
    rw [e]
    simp only [List.any_eq_false] at e
    simp [h0, h3, hc]
    try exact hall
  | some v =>
    obtain ⟨hc, hv'⟩ := List.getElem?_eq_some_iff.1 hv1
    have hm := List.mem_of_getElem? hv1
    have hfit := hs v hm
    have yes : gapS l v.name = true → (l.any fun v => gapS l v.name) = true := fun h => List.any_eq_true.2 ⟨v, hm, h⟩
    have next : gapS l v.name = false → ∀ a ∈ l.take (i + 1), gapS l a.name = false := fun h => take_succ_all hv1 hall h
    have hiw : IntKind.i64.wrap ((i : Int) + 1) = ((i + 1 : Nat) : Int) := by rw [wr (by omega) (by omega)]; omega
    simp [h0, h3, hc]
    -- the places of a bracket
    refine vcLoop.intro (fun n env σ => ∃ k : Nat, 1 ≤ k ∧ k ≤ v.name.length + 1 ∧ n = v.name.length + 1 - k ∧ env 0 = .sl 4 (l.map encVar) .none ∧ env 3 = .int .i64 i ∧ env 4 = .int .i64 k ∧ σ = ⟨[], []⟩ ∧ (∀ a j, IsElem v.name a j → a.length < k → gapS l v.name = false)) v.name.length ⟨1, by simp, by simp, by simp, by simp [h0], by simp [h3], by simp, rfl, fun a j hj h => by have := List.length_pos_iff.2 (nameS_ne hj.2.1); omega⟩ ?_
    clear h0 h3
    rintro n env σ ⟨k, hk1, hk, rfl, h0, h3, h4, rfl, hel⟩
    by_cases hlt : k < v.name.length
    · have hlt' : (k : Int) < v.name.length := by omega
      have hle' : (k : Int) ≤ v.name.length := by omega
      have hle : k ≤ v.name.length := by omega
      have step : (∀ a j, IsElem v.name a j → a.length = k → gapS l v.name = false) → ∀ a j, IsElem v.name a j → a.length < k + 1 → gapS l v.name = false := fun h a j hj hl => by
        rcases Nat.lt_succ_iff_lt_or_eq.1 hl with h1 | h1
        · exact hel a j hj h1
        · exact h a j hj h1
      have at91 : ∀ a j, IsElem v.name a j → a.length = k → v.name[k] = 91 ∧ v.name.take k = a := fun a j hj hl => by
        have e := hj.2.2
        subst hl
        constructor
        · simp [e, elemS]
        · conv => lhs; rw [e]
          simp [elemS]
      have hw : IntKind.i64.wrap ((k : Int) + 1) = ((k + 1 : Nat) : Int) := by rw [wr (by omega) (by omega)]; omega
      by_cases hb : v.name[k] = 91
      · -- a bracket: every name that holds one is an element's
        have hnm : nameS v.name = false := by
          cases e : nameS v.name
          · rfl
          · exact absurd (nameS_no91 e 91 (by rw [← hb]; exact List.getElem_mem hlt)) (by simp)
        obtain ⟨a, j, hj⟩ : ∃ a j, IsElem v.name a j := by
          have := hv v hm
          simp only [varS, hnm, Bool.false_or, Option.isSome_iff_exists] at this
          obtain ⟨p, hp⟩ := this
          exact ⟨p.1, p.2, elemO_some.1 hp⟩
        have hak : a.length = k := by
          have e := hj.2.2
          apply Classical.byContradiction
          intro hne
          rcases Nat.lt_or_gt_of_ne hne with h | h
          · have hl4 : v.name.length = a.length + 3 := by rw [e]; simp
            have hjl := hj.1
            have d : v.name[k] = [91, UInt8.ofNat (48 + j), 93][k - a.length]'(by simp; omega) := by
              simp only [e, elemS]
              rw [List.getElem_append_right (by omega)]
            rw [hb] at d
            have : k - a.length = 1 ∨ k - a.length = 2 := by omega
            rcases this with h1 | h1
            · simp only [h1, List.getElem_cons_succ, List.getElem_cons_zero] at d
              have := congrArg UInt8.toNat d
              simp at this; omega
            · simp only [h1, List.getElem_cons_succ, List.getElem_cons_zero] at d
              cases d
          · have d : v.name[k] = a[k]'h := by
              simp only [e, elemS]
              rw [List.getElem_append_left h]
            exact nameS_no91 hj.2.1 _ (List.getElem_mem h) (d.symm.trans hb)
        have hta := (at91 a j hj hak).2
        have hal : a.length ≤ 1000 := by have := name_len hj.2.1; omega
        simp [h0, h3, h4, hc, hv', hlt, hb]
        refine vcLoop.intro (fun n env σ => ∃ m : Nat, 1 ≤ m ∧ m ≤ 8 ∧ n = 8 - m ∧ env 0 = .sl 4 (l.map encVar) .none ∧ env 3 = .int .i64 i ∧ env 4 = .int .i64 k ∧ env 5 = .int .i64 m ∧ σ = ⟨[], []⟩ ∧ (1 ≤ j → j < m → gapS l v.name = false)) 7 ⟨1, by simp, by simp, by simp, by simp [h0], by simp [h3], by simp [h4], by simp, rfl, by omega⟩ ?_
        clear h0 h3 h4
        rintro n env σ ⟨m, hm1, hm8, rfl, h0, h3, h4, h5, rfl, hin⟩
        by_cases h8 : m < 8
        · have h8' : (m : Int) < 8 := by omega
          have hmw : IntKind.i64.wrap ((m : Int) + 1) = ((m + 1 : Nat) : Int) := by rw [wr (by omega) (by omega)]; omega
          simp [h0, h3, h4, h5, h8', hc, hv', sliceA, boundA, hle, hle', hta]
          refine vcCall.call (element221 a m h8 hal) rfl ?_
          by_cases he : m = j
          · subst he
            rw [← hj.2.2]
            obtain ⟨q, rfl⟩ : ∃ q, m = q + 1 := ⟨m - 1, by omega⟩
            have hwq : IntKind.i64.wrap (((q + 1 : Nat) : Int) - 1) = q := by rw [wr (by omega) (by omega)]; omega
            have hwq1 : IntKind.i64.wrap (q : Int) = q := wr (by omega) (by omega)
            have hwq2 : IntKind.i64.wrap ((q : Int) + 1 - 1) = q := by rw [wr (by omega) (by omega)]; omega
            simp [h0, h3, h4, h5, hc, hv', sliceA, boundA, hle, hle', hta, hwq, hwq1, hwq2]
            refine vcCall.call (element221 a q (by omega) hal) rfl ?_
            refine vcCall.call (find139 GG l (elemS a q) hl) (by simp) ?_
            have hg := gapS_succ (l := l) hj
            cases hh : hasV l (elemS a q)
            · rw [hh] at hg
              have hf : findI (fun v => v.name == elemS a q) l 0 < 0 := by
                have := findI_neg (fun v : Var => v.name == elemS a q) l
                simp only [hasV] at hh
                rw [hh] at this
                simpa using this
              rw [yes hg]
              simp [hf]
            · rw [hh] at hg
              have hf : ¬ findI (fun v => v.name == elemS a q) l 0 < 0 := by
                have := findI_neg (fun v : Var => v.name == elemS a q) l
                simp only [hasV] at hh
                rw [hh] at this
                simpa using this
              simp [hf, h0, h3, h4, h5, hmw]
              exact ⟨_, by omega, q + 2, by omega, by omega, rfl, by rw [wr (by omega) (by omega)]; omega, fun _ => by simpa using hg⟩
          · have hne : ¬ v.name = elemS a m := by
              intro e
              exact he (elemS_inj h8 hj.1 (e.symm.trans hj.2.2)).2
            simp [h0, h3, h4, h5, hne, hmw]
            exact ⟨_, by omega, m + 1, by omega, by omega, rfl, rfl, fun h1 h2 => hin h1 (by omega)⟩
        · have h8' : ¬ (m : Int) < 8 := by omega
          have hg : gapS l v.name = false := by
            rcases Nat.eq_zero_or_pos j with h | h
            · subst h; exact gapS_zero hj
            · exact hin h (by have := hj.1; omega)
          simp [h0, h3, h4, h5, h8', hw]
          exact ⟨_, by omega, k + 1, by omega, by omega, rfl, rfl, step fun _ _ _ _ => hg⟩
      · have hb' : ¬ (v.name[k].toNat : Int) = 91 := by
          intro e
          exact hb (UInt8.toNat_inj.1 (by simp; omega))
        simp [h0, h3, h4, hc, hv', hlt, hb', hw]
        exact ⟨_, by omega, k + 1, by omega, by omega, rfl, rfl, step fun a j hj hl => absurd (at91 a j hj hl).1 hb⟩
    · have hlt' : ¬ (k : Int) < v.name.length := by omega
      have hg : gapS l v.name = false := by
        cases he : elemO v.name with
        | none => exact gapS_none he
        | some p =>
          have hj := elemO_some.1 (show elemO v.name = some (p.1, p.2) from he)
          refine hel p.1 p.2 hj ?_
          have : v.name.length = p.1.length + 3 := by rw [hj.2.2]; simp
          omega
      simp [h0, h3, h4, hc, hv', hlt, hiw]
      exact ⟨_, by omega, i + 1, by omega, rfl, rfl, next hg⟩
set_option maxHeartbeats 8000000 in
theorem variables79 (l : List Var) (hl : Fits l) (hs : ∀ v ∈ l, Fits v.name) : Pure Tryz.prog GG 27 [.sl 4 (l.map encVar) .none] (.int .i64 (varsS l)) := by
  refine Pure.vc mixed Tryz.func27 rfl (by kernel_rfl) ?_
  by_cases h16 : 16 < l.length
  · have e : varsS l = 2 := by simp [varsS, h16]
    have h16' : (16 : Int) < l.length := by omega
    rw [e]
    simp [h16']
  · have h16' : ¬ (16 : Int) < l.length := by omega
    simp [h16']
    refine vcLoop.intro (fun n env σ => ∃ i, i ≤ l.length ∧ n = l.length - i ∧ env 0 = .sl 4 (l.map encVar) .none ∧ env 3 = .int .i64 (bitsV (l.take i)) ∧ env 4 = .int .i64 i ∧ σ = ⟨[], []⟩ ∧ ∀ v ∈ l.take i, varE v = 0) l.length ⟨0, by simp [bitsV]⟩ ?_
    rintro n env σ ⟨i, hi, rfl, h0, h3, h4, rfl, hz⟩
    cases hv : l[i]? with
    | some v =>
      obtain ⟨hc, hv'⟩ := List.getElem?_eq_some_iff.1 hv
      have hm := List.mem_of_getElem? hv
      have hw : ∀ v ∈ l.take i, 1 ≤ v.width ∧ v.width ≤ 8 := fun v hv => (varE_zero (hz v hv)).2
      have hb := bitsV_bound hw
      have hbl : (l.take i).length ≤ 16 := by simp; omega
      have hbt := bitsV_take hv
      simp [h0, h3, h4, hc, hv']
      refine vcCall.call (variable145 v (hs v hm)) (by simp) ?_
      by_cases he : varE v = 0
      · have hw2 := (varE_zero he).2
        by_cases m0 : v.mode = 0
        · simp [he, m0, h0, h3, h4, hc, hv']
          refine ⟨_, by omega, i + 1, by omega, rfl, ?_, wr (by omega) (by omega), take_succ_all hv hz he⟩
          rw [hbt]; simp [m0]
        · have hwr : IntKind.i64.wrap (bitsV (l.take i) + v.width) = bitsV (l.take (i + 1)) := by
            rw [hbt, if_pos m0]
            exact wr (by omega) (by omega)
          simp [he, m0, h0, h3, h4, hc, hv', hwr]
          exact ⟨_, by omega, i + 1, by omega, rfl, rfl, wr (by omega) (by omega), take_succ_all hv hz he⟩
      · have e : varsS l = varE v := by
          have := firstE_of hv hz he
          simp [varsS, h16, this, he]
        rw [e]
        simp [he]
    | none =>
      have hc : ¬ i < l.length := by simp at hv; omega
      have ht : l.take i = l := List.take_of_length_le (by omega)
      rw [ht] at hz h3
      have hz0 := firstE_zero.2 hz
      have hw : ∀ v ∈ l, varS v.name = true ∧ 1 ≤ v.width ∧ v.width ≤ 8 := fun v hv => varE_zero (hz v hv)
      simp [h0, h3, h4, hc]
      refine vcLoop.intro (fun n env σ => ∃ i, i ≤ l.length ∧ n = l.length - i ∧ env 0 = .sl 4 (l.map encVar) .none ∧ env 3 = .int .i64 (bitsV l) ∧ env 6 = .int .i64 i ∧ σ = ⟨[], []⟩ ∧ ∀ j, j < i → dupAt l j = false) l.length ⟨0, by simp [h0, h3]⟩ ?_
      clear h0 h3 h4
      rintro n env σ ⟨i, hi, rfl, h0, h3, h6, rfl, hd⟩
      cases hv : l[i]? with
      | some v =>
        obtain ⟨hc, hv'⟩ := List.getElem?_eq_some_iff.1 hv
        have next : dupAt l i = false → ∀ j, j < i + 1 → dupAt l j = false := fun h j hj => by
          rcases Nat.lt_succ_iff_lt_or_eq.1 hj with hj | rfl
          · exact hd j hj
          · exact h
        have hle : i ≤ l.length := by omega
        have hle' : (i : Int) ≤ l.length := by omega
        have hda : dupAt l i = (l.take i).any (fun x => x.name == v.name) := by simp [dupAt, hv, hasV]
        simp [h0, h3, h6, hc, hv', sliceA, boundA, thirdA, sliceTok, hle, hle']
        rw [← List.map_take]
        refine vcCall.less (find139 GG (l.take i) v.name (by simp; omega)) ?_ ?_ ?_
        · simp only [noRefs, noRef, nrVar, Bool.and_true]
        · simp only [LeqL, Leq.refl, and_true]
          try exact Leq.sl (by rw [List.map_take])
        have hge := findI_dec (fun x : Var => x.name == v.name) (l.take i)
        rw [← hda] at hge
        cases hdi : dupAt l i
        · rw [hdi] at hge
          have hf : ¬ 0 ≤ findI (fun x : Var => x.name == v.name) (l.take i) 0 := of_decide_eq_false hge
          simp [hf, h0, h3, h6]
          exact ⟨_, by omega, i + 1, by omega, rfl, wr (by omega) (by omega), next hdi⟩
        · rw [hdi] at hge
          have hf : 0 ≤ findI (fun x : Var => x.name == v.name) (l.take i) 0 := of_decide_eq_true hge
          have e : varsS l = 8 := by simp [varsS, h16, hz0, dupS_of hc hdi]
          rw [e]
          simp [hf]
      | none =>
        have hc : ¬ i < l.length := by simp at hv; omega
        have hnd := dupS_no (l := l) fun j hj => hd j (by omega)
        simp [h0, h3, h6, hc]
        refine vcCall.call (gap146 l hl hs fun v hv => (hw v hv).1) (by simp) ?_
        cases hg : l.any fun v => gapS l v.name
        · by_cases hb : 20 < bitsV l
          · have e : varsS l = 2 := by simp only [varsS, h16, hz0, hnd, hg, hb]; rfl
            rw [e]
            simp [hb, h3]
          · have e : varsS l = 0 := by simp only [varsS, h16, hz0, hnd, hg, hb]; rfl
            rw [e]
            simp [hb, h3]
        · have e : varsS l = 10 := by simp only [varsS, h16, hz0, hnd, hg]; rfl
          rw [e]
          simp

theorem weight201 (w : Weight) : Pure Tryz.prog GG 112 [.agg (encWeight w)] (.bool (weightB w)) := by
  refine Pure.vc mixed Tryz.func112 rfl (by kernel_rfl) ?_
  by_cases c1 : w.lo < 0
  · have x : weightB w = true := by simp [weightB, c1]
    rw [x]; simp [c1]
  by_cases c2 : w.hi < w.lo
  · have x : weightB w = true := by simp [weightB, c2]
    rw [x]; simp [c1, c2]
  by_cases c3 : 65535 < w.hi
  · have x : weightB w = true := by simp [weightB, c3]
    rw [x]; simp [c1, c2, c3]
  by_cases c4 : w.weight < 0
  · have x : weightB w = true := by simp [weightB, c4]
    rw [x]; simp [c1, c2, c3, c4]
  have x : weightB w = decide (1000 < w.weight) := by simp [weightB, c1, c2, c3, c4]
  rw [x]; simp [c1, c2, c3, c4]
theorem weights133 (l : List Weight) (hl : Fits l) : Pure Tryz.prog GG 78 [.sl 4 (l.map encWeight) .none] (.bool (!l.any weightB)) := by
  refine Pure.vc mixed Tryz.func78 rfl (by kernel_rfl) ?_
  simp
  refine vcCall.call (containsFuncWeight GG l weightB 112 [] [] hl rfl rfl fun v _ => weight201 v) (by simp) ?_
  simp
theorem same132 (x d : Dist) : Pure Tryz.prog GG 77 [.agg (encDist x), .rptr (encDist d)] (.bool (x.var == d.var)) := by
  refine Pure.vc mixed Tryz.func77 rfl (by kernel_rfl) ?_
  simp

theorem firstR {f : Nat → Int} {n i : Nat} (hi : i < n) (hz : ∀ j, j < i → f j = 0) (hf : f i ≠ 0) : firstE f (List.range n) = f i :=
  firstE_of (l := List.range n) (i := i) (v := i) (by simp [hi]) (fun a ha => by
    rw [List.take_range] at ha
    have := List.mem_range.1 ha
    exact hz a (by omega)) hf
theorem firstR0 {f : Nat → Int} {n : Nat} (hz : ∀ j, j < n → f j = 0) : firstE f (List.range n) = 0 := firstE_zero.2 fun a ha => hz a (List.mem_range.1 ha)
theorem rndS_eq (l : List Var) (i : Int) : (decide (0 ≤ i) && (l[i.toNat]?).any (fun v => v.mode != 0)) = rndS l i := rfl

set_option maxHeartbeats 4000000 in
theorem dists66 (p : Problem) (hd : Fits p.dists) (hw : ∀ d ∈ p.dists, Fits d.weights) : Pure Tryz.prog GG 44 [.agg (encP p)] (.int .i64 (distsS p.vars p.dists)) := by
  refine Pure.vc mixed Tryz.func44 rfl (by kernel_rfl) ?_
  simp
  refine vcLoop.intro (fun n env σ => ∃ i tail, i ≤ p.dists.length ∧ n = p.dists.length - i ∧ env 1 = .ptr 0 0 ∧ env 6 = .sl 2 (p.dists.map encDist) .none ∧ env 7 = .int .i64 p.dists.length ∧ env 8 = .int .i64 i ∧ σ = ⟨.cells (encP p) :: tail, []⟩ ∧ ∀ j, j < i → distE p.vars p.dists j = 0) p.dists.length ⟨0, [], by simp⟩ ?_
  rintro n env σ ⟨i, tail, hi, rfl, h1, h6, h7, h8, rfl, hz⟩
  cases hv : p.dists[i]? with
  | some d =>
    obtain ⟨hc, hv'⟩ := List.getElem?_eq_some_iff.1 hv
    have hm := List.mem_of_getElem? hv
    have bad : distE p.vars p.dists i ≠ 0 → distsS p.vars p.dists = distE p.vars p.dists i := fun h => firstR hc hz h
    have next : distE p.vars p.dists i = 0 → ∀ j, j < i + 1 → distE p.vars p.dists j = 0 := fun h j hj => by
      rcases Nat.lt_succ_iff_lt_or_eq.1 hj with hj | rfl
      · exact hz j hj
      · exact h
    have hle : i ≤ p.dists.length := by omega
    have hle' : (i : Int) ≤ p.dists.length := by omega
    have hr := random GG p d.var
    rw [rndS_eq] at hr
    simp only [encP] at hr
    simp [h1, h6, h7, h8, hc, hv', List.set_append]
    refine vcCall.call hr (by simp) ?_
    cases hrn : rndS p.vars d.var
    · have x : distE p.vars p.dists i = 1 := by simp [distE, hv, hrn]
      rw [bad (by rw [x]; decide), x]
      simp
    · simp [h1, h6, h7, h8, sliceA, boundA, thirdA, sliceTok, hle, hle', List.set_append]
      have hcf := containsFuncDist GG (p.dists.take i) (fun y => y.var == d.var) 77 [] [.rptr (encDist d)] (by simp; omega) rfl (by simp) fun y _ => same132 y d
      refine vcCall.lent hcf rfl ?_ ?_
      · have htk : (p.dists.map encDist).take i = (p.dists.take i).map encDist := List.map_take.symm
        simp [frz, -List.map_take, htk]
      · cases hdp : (p.dists.take i).any fun y => y.var == d.var
        · by_cases h16 : 16 < d.weights.length
          · have h16' : (16 : Int) < d.weights.length := by omega
            have x : distE p.vars p.dists i = 2 := by simp only [distE, hv, hrn, hdp, h16]; rfl
            rw [bad (by rw [x]; decide), x]
            simp [h16', List.set_append]
          · have h16' : ¬ (16 : Int) < d.weights.length := by omega
            simp [h16', List.set_append]
            refine vcCall.call (weights133 d.weights (hw d hm)) (by simp) ?_
            cases hwt : d.weights.any weightB
            · have x : distE p.vars p.dists i = 0 := by simp only [distE, hv, hrn, hdp, h16, hwt]; rfl
              simp [h1, h6, h7, h8]
              exact ⟨_, by omega, i + 1, by omega, rfl, wr (by omega) (by omega), next x⟩
            · have x : distE p.vars p.dists i = 1 := by simp only [distE, hv, hrn, hdp, h16, hwt]; rfl
              rw [bad (by rw [x]; decide), x]
              simp
        · have x : distE p.vars p.dists i = 8 := by simp only [distE, hv, hrn, hdp]; rfl
          rw [bad (by rw [x]; decide), x]
          simp
  | none =>
    have hc : ¬ i < p.dists.length := by simp at hv; omega
    have x : distsS p.vars p.dists = 0 := firstR0 fun j hj => hz j (by omega)
    rw [x]
    simp [h1, h6, h7, h8, hc]

def seenC (n : Nat) (d : List Int) : List AV := (List.range n).map fun (j : Nat) => AV.bool (decide ((j : Int) ∈ d))
@[simp] theorem seenC_length {n : Nat} {d : List Int} : (seenC n d).length = n := by simp [seenC]
theorem seenC_nil {n : Nat} : (List.replicate n [AV.bool false]).flatten = seenC n [] := by
  simp only [seenC, List.not_mem_nil, decide_false]
  induction n with
  | zero => simp
  | succ n ih => rw [List.range_succ, List.map_append, ← ih, List.replicate_succ']; simp
theorem seenC_get {n j : Nat} {d : List Int} (h : j < n) : (seenC n d)[j]? = some (.bool (decide ((j : Int) ∈ d))) := by simp [seenC, h]
theorem seenC_set {n j : Nat} {d : List Int} (h : j < n) : (seenC n d).set j (.bool true) = seenC n (d ++ [(j : Int)]) := by
  apply List.ext_getElem?
  intro i
  by_cases hi : i < n
  · rw [List.getElem?_set, seenC_get hi, seenC_get hi]
    by_cases hij : j = i
    · subst hij; simp [h]
    · rw [if_neg hij]
      have : ¬ (i : Int) = j := by omega
      simp [this]
  · rw [List.getElem?_eq_none (by simp; omega), List.getElem?_eq_none (by simp; omega)]
theorem flat_split {g : List (List Int)} {i k : Nat} {x : List Int} {v : Int} (hg : g[i]? = some x) (hx : x[k]? = some v) :
    g.flatten = ((g.take i).flatten ++ x.take k) ++ v :: (x.drop (k + 1) ++ (g.drop (i + 1)).flatten) := by
  have e1 : g = g.take i ++ x :: g.drop (i + 1) := by conv => lhs; rw [← List.take_append_drop i g, drop_cons hg]
  have e2 : x = x.take k ++ v :: x.drop (k + 1) := by conv => lhs; rw [← List.take_append_drop k x, drop_cons hx]
  conv => lhs; rw [e1]
  rw [List.flatten_append, List.flatten_cons]
  conv => lhs; rw [e2]
  simp
theorem flat_take {g : List (List Int)} {i : Nat} {x : List Int} (hg : g[i]? = some x) : (g.take (i + 1)).flatten = (g.take i).flatten ++ x := by
  rw [List.take_add_one, hg]; simp

theorem groups68n (p : Problem) (hv : p.vars = []) (hg : Fits p.groups) : Pure Tryz.prog GG 46 [.agg (encP p)] (.int .i64 (groupsS p.vars p.groups)) := by
  refine Pure.vc mixed Tryz.func46 rfl (by kernel_rfl) ?_
  have hr0 : ∀ i, rndS p.vars i = false := fun i => by simp [rndS, hv]
  have hrv : p.vars.length = 0 := by rw [hv]; rfl
  simp [makeSliceA, hrv]
  refine vcLoop.intro (fun n env σ => n = 1 ∧ env 1 = .ptr 0 0 ∧ env 14 = .sl 1 (p.groups.map encInts) .none ∧ env 15 = .int .i64 p.groups.length ∧ env 16 = .int .i64 0 ∧ σ = ⟨[.cells (encP p)], [some 0]⟩) 1 ⟨rfl, by simp⟩ ?_
  rintro n env σ ⟨rfl, h1, h14, h15, h16, rfl⟩
  cases hgs : p.groups with
  | nil =>
    have x : groupsS p.vars [] = 0 := by
      unfold groupsS
      rw [if_pos ⟨by simp, by simp, by simp, fun i hi => by omega⟩]
    rw [hgs] at h15
    rw [x]
    simp [h1, h14, h15, h16, hrv]
    refine vcLoop.intro (fun n env σ => n = 1 ∧ env 46 = .int .i64 0 ∧ env 47 = .int .i64 0) 1 ⟨rfl, by simp⟩ ?_
    rintro n env σ ⟨rfl, h46, h47⟩
    simp [h46, h47]
  | cons g r =>
    rw [hgs] at h14 h15
    cases g with
    | nil =>
      have x : groupsS p.vars ([] :: r) = 1 := by
        unfold groupsS
        rw [if_neg (groups_empty (by simp))]
      rw [x]
      have hp : (0 : Int) < r.length + 1 := by omega
      simp [h1, h14, h15, h16, hp]
    | cons v g =>
      have x : groupsS p.vars ((v :: g) :: r) = 1 := by
        unfold groupsS
        rw [if_neg (groups_bad (i := v) (by simp) (hr0 v))]
      rw [x]
      have hp : (0 : Int) < r.length + 1 := by omega
      have hp2 : ¬ (g.length : Int) + 1 = 0 := by omega
      simp [h1, h14, h15, h16, hp, hp2]
      refine vcLoop.intro (fun n env σ => n = 1 ∧ env 1 = .ptr 0 0 ∧ env 23 = .sl 1 ((v :: g).map encInt) .none ∧ env 24 = .int .i64 (g.length + 1) ∧ env 25 = .int .i64 0 ∧ σ = ⟨[.cells (encP p)], [some 0]⟩) 1 ⟨rfl, by simp [h1]⟩ ?_
      rintro n env σ ⟨rfl, h1, h23, h24, h25, rfl⟩
      have hp3 : (0 : Int) < g.length + 1 := by omega
      have hr := random GG p v
      rw [rndS_eq, hr0] at hr
      simp only [encP] at hr
      simp [h1, h23, h24, h25, hp3]
      refine vcCall.call hr (by simp) ?_
      simp

theorem seenC_nil' {n : Nat} : List.replicate n (AV.bool false) = seenC n [] := by
  rw [← seenC_nil]
  induction n with
  | zero => rfl
  | succ n ih => rw [List.replicate_succ, List.replicate_succ, List.flatten_cons, ← ih]; rfl
/-- What is right about what was seen. -/
def GI (l : List Var) (d : List Int) : Prop := (∀ v ∈ d, rndS l v = true) ∧ d.Nodup
theorem GI.add {l : List Var} {d : List Int} {v : Int} (h : GI l d) (hr : rndS l v = true) (hn : v ∉ d) : GI l (d ++ [v]) := by
  refine ⟨fun x hx => ?_, ?_⟩
  · rcases List.mem_append.1 hx with hx | hx
    · exact h.1 x hx
    · rw [List.mem_singleton.1 hx]; exact hr
  · rw [List.nodup_append]
    refine ⟨h.2, by simp, fun a ha b hb e => ?_⟩
    rw [List.mem_singleton.1 hb] at e
    exact hn (e ▸ ha)
def NE (g : List (List Int)) : Prop := ∀ x ∈ g, x ≠ []
theorem take1_drop {c : List AV} {j : Nat} {v : AV} (h : c[j]? = some v) : (c.drop j).take 1 = [v] := by
  rw [drop_cons h]; rfl
theorem head_drop (c : List AV) (j : Nat) : ((c.drop j).take 1).head? = c[j]? := by
  rw [List.head?_take, if_neg (by decide), List.head?_drop]

set_option maxHeartbeats 4000000 in
theorem groups68y (p : Problem) (hv : p.vars ≠ []) (hv20 : p.vars.length ≤ 1000) (hg : Fits p.groups) (hgs : ∀ g ∈ p.groups, Fits g) : Pure Tryz.prog GG 46 [.agg (encP p)] (.int .i64 (groupsS p.vars p.groups)) := by
  refine Pure.vc mixed Tryz.func46 rfl (by kernel_rfl) ?_
  have hn0 : 0 < p.vars.length := List.length_pos_iff.2 hv
  obtain ⟨N, hN⟩ : ∃ N, N = p.vars.length := ⟨_, rfl⟩
  have hc1 : (N : Int) ≤ 549755813888 := by omega
  have hc2 : ¬ (N : Int) = 0 := by omega
  have hc3 : ¬ N = 0 := by omega
  have rnd : ∀ i, Pure Tryz.prog GG 75 [.agg [.sl 4 (p.vars.map encVar) .none, .sl 4 (p.hard.map encE) .none, .sl 4 (p.soft.map encE) .none, .sl 2 (p.dists.map encDist) .none, .sl 1 (p.groups.map encInts) .none], .int .i64 i] (.bool (rndS p.vars i)) := fun i => by
    have hr := random GG p i
    rw [rndS_eq] at hr
    simpa only [encP] using hr
  have bad : ¬ GroupsOk p.vars p.groups → groupsS p.vars p.groups = 1 := fun h => by unfold groupsS; rw [if_neg h]
  simp [makeSliceA, ← hN, hc1, hc3, seenC_nil']
  refine vcLoop.intro (fun n env σ => ∃ i, i ≤ p.groups.length ∧ n = p.groups.length - i ∧ env 1 = .ptr 0 0 ∧ env 3 = .ms 1 0 N 1 ∧ env 14 = .sl 1 (p.groups.map encInts) .none ∧ env 15 = .int .i64 p.groups.length ∧ env 16 = .int .i64 i ∧ σ = ⟨[.cells (encP p), .cells (seenC N (p.groups.take i).flatten)], []⟩ ∧ NE (p.groups.take i) ∧ GI p.vars (p.groups.take i).flatten) p.groups.length ⟨0, by simp, by simp, by simp, by simp, by simp, by simp, by simp, by simp, by simp [NE], by simp [GI]⟩ ?_
  rintro n env σ ⟨i, hi, rfl, h1, h3, h14, h15, h16, rfl, hne, hgi0⟩
  cases hgi : p.groups[i]? with
  | some g =>
    obtain ⟨hc, hv'⟩ := List.getElem?_eq_some_iff.1 hgi
    have hm := List.mem_of_getElem? hgi
    have hfg := hgs g hm
    have hiw : IntKind.i64.wrap ((i : Int) + 1) = ((i + 1 : Nat) : Int) := by rw [wr (by omega) (by omega)]; omega
    by_cases hge : g = []
    · rw [bad (groups_empty (hge ▸ hm))]
      subst hge
      simp [h1, h14, h15, h16, hc, hv']
    · have hgl : ¬ (g.length : Int) = 0 := by have := List.length_pos_iff.2 hge; omega
      have hgl' : ¬ g.length = 0 := by have := List.length_pos_iff.2 hge; omega
      simp [h1, h14, h15, h16, hc, hv', hgl']
      refine vcLoop.intro (fun n env σ => ∃ k, k ≤ g.length ∧ n = g.length - k ∧ env 1 = .ptr 0 0 ∧ env 3 = .ms 1 0 N 1 ∧ env 14 = .sl 1 (p.groups.map encInts) .none ∧ env 15 = .int .i64 p.groups.length ∧ env 16 = .int .i64 i ∧ env 23 = .sl 1 (g.map encInt) .none ∧ env 24 = .int .i64 g.length ∧ env 25 = .int .i64 k ∧ σ = ⟨[.cells (encP p), .cells (seenC N ((p.groups.take i).flatten ++ g.take k))], []⟩ ∧ GI p.vars ((p.groups.take i).flatten ++ g.take k)) g.length ⟨0, by simp [h1, h3, h14, h15, h16]; exact hgi0⟩ ?_
      clear h1 h3 h14 h15 h16
      rintro n env σ ⟨k, hk, rfl, h1, h3, h14, h15, h16, h23, h24, h25, rfl, hgi1⟩
      cases hvk : g[k]? with
      | some v =>
        obtain ⟨hck, hvk'⟩ := List.getElem?_eq_some_iff.1 hvk
        have hsp := flat_split hgi hvk
        have hmv : v ∈ p.groups.flatten := by rw [hsp]; simp
        simp [h1, h3, h14, h15, h16, h23, h24, h25, hck, hvk']
        refine vcCall.call (rnd v) (by simp) ?_
        cases hr : rndS p.vars v
        · rw [bad (groups_bad hmv hr)]
          simp
        · obtain ⟨r1, r2⟩ := rndS_range hr
          obtain ⟨j, rfl⟩ := Int.eq_ofNat_of_zero_le r1
          have hj : j < N := by omega
          have hj' : (j : Int) < N := by omega
          have hg1 := seenC_get (d := (p.groups.take i).flatten ++ g.take k) hj
          have hset := seenC_set (d := (p.groups.take i).flatten ++ g.take k) hj
          have htk : g.take (k + 1) = g.take k ++ [(j : Int)] := by rw [List.take_add_one, hvk]; rfl
          have hj1 : j + 1 ≤ N := hj
          by_cases hmem : (j : Int) ∈ (p.groups.take i).flatten ++ g.take k
          · rw [bad (groups_dup hsp hmem)]
            rw [decide_eq_true hmem] at hg1
            have ht1 := take1_drop hg1
            simp [h1, h3, h14, h15, h16, h23, h24, h25, hj, hj', hj1, ht1]
          · rw [decide_eq_false hmem] at hg1
            have ht1 := take1_drop hg1
            simp [h1, h3, h14, h15, h16, h23, h24, h25, hj, hj', hj1, ht1, hset]
            refine ⟨_, by omega, k + 1, by omega, rfl, wr (by omega) (by omega), ?_, ?_⟩
            · rw [htk]
            · rw [htk, ← List.append_assoc]; exact hgi1.add hr hmem
      | none =>
        have hck : ¬ k < g.length := by simp at hvk; omega
        have ht : g.take k = g := List.take_of_length_le (by omega)
        rw [ht] at hgi1
        have hft := flat_take hgi
        simp [h1, h3, h14, h15, h16, h23, h24, h25, hck, hiw]
        refine ⟨_, by omega, i + 1, by omega, rfl, rfl, ?_, ?_, ?_⟩
        · rw [hft, ht]
        · intro x hx
          rw [List.take_add_one, hgi] at hx
          rcases List.mem_append.1 hx with hx | hx
          · exact hne x hx
          · simp at hx; rw [hx]; exact hge
        · rw [hft]; exact hgi1
  | none =>
    have hc : ¬ i < p.groups.length := by simp at hgi; omega
    have ht : p.groups.take i = p.groups := List.take_of_length_le (by omega)
    rw [ht] at hne hgi0
    simp [h1, h14, h15, h16, hc]
    refine vcLoop.intro (fun n env σ => ∃ i, i ≤ N ∧ n = N - i ∧ env 1 = .ptr 0 0 ∧ env 3 = .ms 1 0 N 1 ∧ env 46 = .int .i64 N ∧ env 47 = .int .i64 i ∧ σ = ⟨[.cells (encP p), .cells (seenC N p.groups.flatten)], []⟩ ∧ ∀ j : Nat, j < i → rndS p.vars j = true → (j : Int) ∈ p.groups.flatten) N ⟨0, by simp [h1, h3, ← hN, ht]⟩ ?_
    clear h1 h3 h14 h15 h16
    rintro n env σ ⟨j, hj0, rfl, h1, h3, h46, h47, rfl, hall⟩
    by_cases hj : j < N
    · have hj' : (j : Int) < N := by omega
      have hj1 : j + 1 ≤ N := hj
      have hg1 := seenC_get (d := p.groups.flatten) hj
      simp [h1, h46, h47, hj]
      refine vcCall.call (rnd j) (by simp) ?_
      cases hr : rndS p.vars j
      · simp [h1, h3, h46, h47]
        refine ⟨_, by omega, j + 1, by omega, rfl, wr (by omega) (by omega), ?_⟩
        intro q hq hqr
        rcases Nat.lt_succ_iff_lt_or_eq.1 hq with hq | rfl
        · have := hall q hq hqr; simpa using this
        · rw [hr] at hqr; cases hqr
      · by_cases hmem : (j : Int) ∈ p.groups.flatten
        · rw [decide_eq_true hmem] at hg1
          have ht1 := take1_drop hg1
          simp [h1, h3, h46, h47, hj, hj1, ht1]
          refine ⟨_, by omega, j + 1, by omega, rfl, wr (by omega) (by omega), ?_⟩
          intro q hq hqr
          rcases Nat.lt_succ_iff_lt_or_eq.1 hq with hq | rfl
          · have := hall q hq hqr; simpa using this
          · simpa using hmem
        · rw [bad (groups_left (by omega) hr hmem)]
          rw [decide_eq_false hmem] at hg1
          have ht1 := take1_drop hg1
          simp [h1, h3, h46, h47, hj, hj1, ht1]
    · have x : groupsS p.vars p.groups = 0 := by
        unfold groupsS
        rw [if_pos ⟨hne, hgi0.1, hgi0.2, fun q hq hqr => hall q (by omega) hqr⟩]
      rw [x]
      simp [h1, h46, h47, hj]
theorem groups68 (p : Problem) (hv20 : p.vars.length ≤ 1000) (hg : Fits p.groups) (hgs : ∀ g ∈ p.groups, Fits g) : Pure Tryz.prog GG 46 [.agg (encP p)] (.int .i64 (groupsS p.vars p.groups)) := by
  by_cases hv : p.vars = []
  · exact groups68n p hv hg
  · exact groups68y p hv hv20 hg hgs
end Go.Proofs.YtpjdjolphpfanaaGreatDoor
end
