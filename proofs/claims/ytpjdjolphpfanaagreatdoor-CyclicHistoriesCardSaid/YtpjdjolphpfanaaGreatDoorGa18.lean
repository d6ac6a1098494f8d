/- A part of the proof. -/
set_option linter.unusedVariables false
set_option linter.unusedSimpArgs false
set_option linter.defProp false
section
namespace Go.Abs

/-- A node: level, lo, hi. -/
abbrev Nd := Nat × Nat × Nat

def lvD (d : List Nd) (i : Nat) : Nat := match d[i]? with
  | some n => n.1
  | none => 20

structure DagOk (d : List Nd) : Prop where
  two : 2 ≤ d.length
  most : d.length ≤ 8192
  n0 : d[0]? = some (20, 0, 0)
  n1 : d[1]? = some (20, 1, 1)
  node : ∀ (i : Nat) (n : Nd), 2 ≤ i → d[i]? = some n → n.1 < 20 ∧ n.2.1 < i ∧ n.2.2 < i ∧ n.2.1 ≠ n.2.2 ∧ n.1 < lvD d n.2.1 ∧ n.1 < lvD d n.2.2
  nodup : d.Nodup

/-- The value of a node, in at most so many steps. -/
def evF (d : List Nd) (b : Nat → Bool) : Nat → Nat → Bool
  | 0, i => i == 1
  | k + 1, i => match d[i]? with
    | some n => if n.1 < 20 then evF d b k (if b n.1 then n.2.2 else n.2.1) else i == 1
    | none => false
def evD (d : List Nd) (b : Nat → Bool) (i : Nat) : Bool := evF d b 20 i

theorem lvD_le {d : List Nd} (h : DagOk d) (i : Nat) : lvD d i ≤ 20 := by
  unfold lvD
  split
  · rename_i n hn
    by_cases h2 : 2 ≤ i
    · exact Nat.le_of_lt (h.node i n h2 hn).1
    · have : i = 0 ∨ i = 1 := by omega
      rcases this with rfl | rfl
      · rw [h.n0] at hn; cases hn; exact Nat.le_refl _
      · rw [h.n1] at hn; cases hn; exact Nat.le_refl _
  · exact Nat.le_refl _
theorem lvD_0 {d : List Nd} (h : DagOk d) : lvD d 0 = 20 := by unfold lvD; rw [h.n0]
theorem lvD_1 {d : List Nd} (h : DagOk d) : lvD d 1 = 20 := by unfold lvD; rw [h.n1]
theorem lvD_some {d : List Nd} {i : Nat} {n : Nd} (h : d[i]? = some n) : lvD d i = n.1 := by unfold lvD; rw [h]
theorem lvD_lt {d : List Nd} (h : DagOk d) {i : Nat} (h2 : 2 ≤ i) (hi : i < d.length) : lvD d i < 20 := by
  have := List.getElem?_eq_getElem hi
  rw [lvD_some this]
  exact (h.node i _ h2 this).1
theorem lvD_20 {d : List Nd} (h : DagOk d) {i : Nat} (hi : i < d.length) (hl : lvD d i = 20) : i = 0 ∨ i = 1 := by
  apply Classical.byContradiction
  intro hn
  have := lvD_lt h (i := i) (by omega) hi
  omega

theorem evF_two {d : List Nd} (h : DagOk d) (b : Nat → Bool) {i : Nat} (hi : i < 2) (k : Nat) : evF d b k i = (i == 1) := by
  have hi : i = 0 ∨ i = 1 := by omega
  cases k with
  | zero => rfl
  | succ k =>
    rcases hi with rfl | rfl
    · simp [evF, h.n0]
    · simp [evF, h.n1]
/-- Enough steps are enough. -/
theorem evF_more {d : List Nd} (h : DagOk d) (b : Nat → Bool) : ∀ (k i : Nat), i < d.length → 20 ≤ lvD d i + k → ∀ k', k ≤ k' → evF d b k' i = evF d b k i := by
  intro k
  induction k with
  | zero =>
    intro i hi hl k' _
    have : i = 0 ∨ i = 1 := lvD_20 h hi (by have := lvD_le h i; omega)
    rw [evF_two h b (by omega), evF_two h b (by omega)]
  | succ k ih =>
    intro i hi hl k' hk
    obtain ⟨k', rfl⟩ : ∃ j, k' = j + 1 := ⟨k' - 1, by omega⟩
    by_cases h2 : 2 ≤ i
    · have hn := List.getElem?_eq_getElem hi
      obtain ⟨g1, g2, g3, g4, g5, g6⟩ := h.node i _ h2 hn
      rw [lvD_some hn] at hl
      simp only [evF, hn, g1, if_true]
      split
      · exact ih _ (by omega) (by omega) k' (by omega)
      · exact ih _ (by omega) (by omega) k' (by omega)
    · rw [evF_two h b (by omega), evF_two h b (by omega)]
theorem evD_two {d : List Nd} (h : DagOk d) (b : Nat → Bool) {i : Nat} (hi : i < 2) : evD d b i = (i == 1) := evF_two h b hi 20
theorem evD_0 {d : List Nd} (h : DagOk d) (b : Nat → Bool) : evD d b 0 = false := evD_two h b (by omega)
theorem evD_1 {d : List Nd} (h : DagOk d) (b : Nat → Bool) : evD d b 1 = true := evD_two h b (by omega)
theorem evD_node {d : List Nd} (h : DagOk d) (b : Nat → Bool) {i : Nat} {n : Nd} (h2 : 2 ≤ i) (hn : d[i]? = some n) : evD d b i = evD d b (if b n.1 then n.2.2 else n.2.1) := by
  obtain ⟨g1, g2, g3, g4, g5, g6⟩ := h.node i n h2 hn
  have hi := (List.getElem?_eq_some_iff.1 hn).1
  show evF d b 20 i = evF d b 20 _
  have e : evF d b 20 i = evF d b 19 (if b n.1 then n.2.2 else n.2.1) := by simp [evF, hn, g1]
  rw [e]
  exact (evF_more h b 19 _ (by split <;> omega) (by split <;> omega) 20 (by omega)).symm

/-- Only the bits from the node's level on matter. -/
theorem evF_agree {d : List Nd} (h : DagOk d) {b c : Nat → Bool} : ∀ (k i : Nat), i < d.length → (∀ l, lvD d i ≤ l → b l = c l) → evF d b k i = evF d c k i
  | 0, _, _, _ => rfl
  | k + 1, i, hi, hl => by
    by_cases h2 : 2 ≤ i
    · have hn := List.getElem?_eq_getElem hi
      obtain ⟨g1, g2, g3, g4, g5, g6⟩ := h.node i _ h2 hn
      rw [lvD_some hn] at hl
      simp only [evF, hn, g1, if_true]
      rw [hl _ (Nat.le_refl _)]
      split
      · exact evF_agree h k _ (by omega) fun l h1 => hl l (by omega)
      · exact evF_agree h k _ (by omega) fun l h1 => hl l (by omega)
    · rw [evF_two h b (by omega), evF_two h c (by omega)]
theorem evD_agree {d : List Nd} (h : DagOk d) {b c : Nat → Bool} {i : Nat} (hi : i < d.length) (hl : ∀ l, lvD d i ≤ l → b l = c l) : evD d b i = evD d c i := evF_agree h 20 i hi hl

/-- A node other than false is true for some bits. -/
theorem dag_sat {d : List Nd} (h : DagOk d) : ∀ (k i : Nat), i < d.length → i ≤ k → i ≠ 0 → ∃ b, evD d b i = true := by
  intro k
  induction k with
  | zero => intro i hi hk h0; omega
  | succ k ih =>
    intro i hi hk h0
    by_cases h2 : 2 ≤ i
    · have hn := List.getElem?_eq_getElem hi
      obtain ⟨g1, g2, g3, g4, g5, g6⟩ := h.node i _ h2 hn
      have go : ∀ (v : Bool) (j : Nat), j ≠ 0 → j < i → (d[i]).1 < lvD d j → (if v then (d[i]).2.2 else (d[i]).2.1) = j → ∃ b, evD d b i = true := by
        intro v j hj hji hlv hv
        obtain ⟨b, hb⟩ := ih j (by omega) (by omega) hj
        refine ⟨fun l => if l = (d[i]).1 then v else b l, ?_⟩
        rw [evD_node h _ h2 hn]
        simp only [if_true]
        rw [hv, evD_agree h (c := b) (by omega) fun l hl => if_neg (by omega)]
        exact hb
      by_cases hlo : (d[i]).2.1 = 0
      · exact go true (d[i]).2.2 (fun e => g4 (by rw [hlo, e])) g3 g6 rfl
      · exact go false (d[i]).2.1 hlo g2 g5 rfl
    · have : i = 1 := by omega
      subst this
      exact ⟨fun _ => false, evD_1 h _⟩

/-- A diagram that has grown. -/
def Grown (d d' : List Nd) : Prop := ∃ x, d' = d ++ x
theorem Grown.refl (d : List Nd) : Grown d d := ⟨[], by simp⟩
theorem Grown.trans {a b c : List Nd} (h : Grown a b) (g : Grown b c) : Grown a c := by
  obtain ⟨x, rfl⟩ := h; obtain ⟨y, rfl⟩ := g; exact ⟨x ++ y, by simp⟩
theorem Grown.at {d d' : List Nd} (h : Grown d d') {i : Nat} (hi : i < d.length) : d'[i]? = d[i]? := by
  obtain ⟨x, rfl⟩ := h; rw [List.getElem?_append_left hi]
theorem Grown.len {d d' : List Nd} (h : Grown d d') : d.length ≤ d'.length := by obtain ⟨x, rfl⟩ := h; simp
theorem Grown.lv {d d' : List Nd} (h : Grown d d') {i : Nat} (hi : i < d.length) : lvD d' i = lvD d i := by unfold lvD; rw [h.at hi]
theorem Grown.evF {d d' : List Nd} (hd : DagOk d) (h : Grown d d') (b : Nat → Bool) : ∀ (k i : Nat), i < d.length → Go.Abs.evF d' b k i = Go.Abs.evF d b k i
  | 0, _, _ => rfl
  | k + 1, i, hi => by
    have hn := List.getElem?_eq_getElem hi
    have hn' := (h.at hi).trans hn
    simp only [Go.Abs.evF, hn, hn']
    by_cases h2 : 2 ≤ i
    · obtain ⟨g1, g2, g3, g4, g5, g6⟩ := hd.node i _ h2 hn
      simp only [g1, if_true]
      split
      · exact Grown.evF hd h b k _ (by omega)
      · exact Grown.evF hd h b k _ (by omega)
    · have : i = 0 ∨ i = 1 := by omega
      rcases this with rfl | rfl
      · have := hd.n0; rw [hn] at this; rw [Option.some.inj this]; rfl
      · have := hd.n1; rw [hn] at this; rw [Option.some.inj this]; rfl
theorem Grown.ev {d d' : List Nd} (hd : DagOk d) (h : Grown d d') (b : Nat → Bool) {i : Nat} (hi : i < d.length) : evD d' b i = evD d b i := Grown.evF hd h b 20 i hi

/-- A new node at the end. -/
theorem dag_push {d : List Nd} (h : DagOk d) {n : Nd} (hl : d.length < 8192) (h1 : n.1 < 20) (h2 : n.2.1 < d.length) (h3 : n.2.2 < d.length) (h4 : n.2.1 ≠ n.2.2) (h5 : n.1 < lvD d n.2.1) (h6 : n.1 < lvD d n.2.2) (hn : n ∉ d) : DagOk (d ++ [n]) := by
  have hg : Grown d (d ++ [n]) := ⟨[n], rfl⟩
  refine ⟨by simp; have := h.two; omega, by simp; omega, by rw [hg.at (by have := h.two; omega)]; exact h.n0, by rw [hg.at (by have := h.two; omega)]; exact h.n1, ?_, ?_⟩
  · intro i m hi hm
    rw [List.getElem?_append] at hm
    split at hm
    · rename_i hlt
      obtain ⟨g1, g2, g3, g4, g5, g6⟩ := h.node i m hi hm
      exact ⟨g1, g2, g3, g4, by rw [hg.lv (by omega)]; exact g5, by rw [hg.lv (by omega)]; exact g6⟩
    · rename_i hlt
      have : i = d.length := by
        have := (List.getElem?_eq_some_iff.1 hm).1
        simp at this; omega
      subst this
      simp at hm
      subst hm
      exact ⟨h1, h2, h3, h4, by rw [hg.lv h2]; exact h5, by rw [hg.lv h3]; exact h6⟩
  · exact List.nodup_append.2 ⟨h.nodup, by simp, fun x hx y hy e => by simp at hy; subst hy; subst e; exact hn hx⟩

/-- The half of a function for a value of a bit that is not behind its own one. -/
def halfD (d : List Nd) (f level : Nat) (one : Bool) : Nat := match d[f]? with
  | some n => if n.1 = level then (if one then n.2.2 else n.2.1) else f
  | none => f
theorem half_spec {d : List Nd} (h : DagOk d) {f L : Nat} (hf : f < d.length) (hL : L < 20) (hle : L ≤ lvD d f) (v : Bool) :
    halfD d f L v < d.length ∧ L < lvD d (halfD d f L v) ∧ ∀ b, b L = v → evD d b f = evD d b (halfD d f L v) := by
  have hn := List.getElem?_eq_getElem hf
  unfold halfD
  rw [hn]
  rw [lvD_some hn] at hle
  simp only
  by_cases hlv : (d[f]).1 = L
  · have h2 : 2 ≤ f := by
      apply Classical.byContradiction
      intro hc
      have : f = 0 ∨ f = 1 := by omega
      rcases this with rfl | rfl
      · have e := h.n0; rw [hn] at e; rw [Option.some.inj e] at hlv; simp at hlv; omega
      · have e := h.n1; rw [hn] at e; rw [Option.some.inj e] at hlv; simp at hlv; omega
    obtain ⟨g1, g2, g3, g4, g5, g6⟩ := h.node f _ h2 hn
    rw [if_pos hlv]
    refine ⟨by split <;> omega, by split <;> omega, fun b hb => ?_⟩
    rw [evD_node h b h2 hn, hlv, hb]
  · rw [if_neg hlv]
    refine ⟨hf, by rw [lvD_some hn]; omega, fun b _ => rfl⟩
end Go.Abs
end
