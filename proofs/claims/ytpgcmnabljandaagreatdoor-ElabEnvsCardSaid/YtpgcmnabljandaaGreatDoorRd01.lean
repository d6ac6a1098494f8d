/- A part of the proof: texts AbsRead AbsRead2. -/
import Derived.Test.YtpgcmnabljandaaGreatDoorWk09
import Derived.ChangeArms
import Derived.DataReads
import Derived.Test.YtpgcmnabljandaaGreatDoorVa01

section
/-
  What the law's arguments read as: a problem, in read-only memory.
-/
set_option linter.unusedVariables false
set_option linter.unusedSimpArgs false
set_option maxRecDepth 100000
namespace Go.Proofs.YtpgcmnabljandaaGreatDoor
open Go Go.Abs

theorem list_choose {α : Type} {R : Nat → α → Prop} : ∀ (n : Nat), (∀ i, i < n → ∃ y, R i y) → ∃ l : List α, l.length = n ∧ ∀ i y, l[i]? = some y → R i y
  | 0, _ => ⟨[], rfl, by simp⟩
  | n + 1, h => by
    obtain ⟨l, h1, h2⟩ := list_choose n fun i hi => h i (by omega)
    obtain ⟨y, hy⟩ := h n (by omega)
    refine ⟨l ++ [y], by simp [h1], fun i z hz => ?_⟩
    rw [List.getElem?_append] at hz
    split at hz
    · exact h2 i z hz
    · rename_i hi
      have : i - l.length = 0 := by
        rcases Nat.eq_zero_or_pos (i - l.length) with h0 | h0
        · exact h0
        · rw [List.getElem?_eq_none (by simp; omega)] at hz; cases hz
      rw [this] at hz
      cases hz
      have : i = n := by omega
      subst this
      exact hy

section
variable {H : Type} {enc : TypeId × Value → H} {w : World} {base : Nat} {held : Bool}
/-- All that is known: memory as it stands. -/
abbrev KW (w : World) : Kn := Go.Abs.K0 (roAll w)

theorem VRels.get {K : Kn} : ∀ {l : List AV} {vs : List Value}, VRels K l vs → vs.length = l.length ∧ ∀ (j : Nat) (a : AV), l[j]? = some a → ∃ v, vs[j]? = some v ∧ VRel K a v
  | [], _, h => by simp only [VRels] at h; subst h; simp
  | a :: r, _, h => by
    simp only [VRels] at h
    obtain ⟨v, vr, rfl, h1, h2⟩ := h
    obtain ⟨k1, k2⟩ := VRels.get h2
    refine ⟨by simp [k1], fun j b hj => ?_⟩
    cases j with
    | zero => simp at hj; subst hj; exact ⟨v, rfl, h1⟩
    | succ j => simp at hj; exact k2 j b hj

theorem rd_slice {α : Type} {t e sz : Nat} {en : α → List AV} {good : α → Prop} {n : Nat} (ht : Tryz.prog.underlying t = some (.slice e)) (hsz : Tryz.prog.cellsOf e = sz) (hpos : 0 < sz)
    (hat : ∀ y, (en y).all AV.atom = true ∧ (en y).length = sz)
    (hel : ∀ cs x, DataW.trod enc Tryz.prog w base (fun _ => true) held n e cs = some x → ∃ y, VRels (KW w) (en y) cs ∧ good y)
    {cs : List Value} {x : DataW H × List MemPlace} (h : DataW.trod enc Tryz.prog w base (fun _ => true) held (n + 1) t cs = some x) :
    ∃ (l : List α) (v : Value), cs = [v] ∧ VRel (KW w) (.sl sz (l.map en) .none) v ∧ Fits l ∧ ∀ y ∈ l, good y := by
  rcases DataW.trod_slice ht h with ⟨rfl, rfl⟩ | ⟨a, len, cap, elems, rest, m, hm, rfl, rfl, hb, hl, hc, hlen, hel', hsp, _⟩
  · exact ⟨[], _, rfl, by simp only [VRel]; exact .inl ⟨⟨none, rfl, .inl rfl⟩, rfl, trivial⟩, by simp, by simp⟩
  · have hnm : n = m := by omega
    subst hnm
    rw [hsz] at hel' hsp
    have one : ∀ i, i < len → ∃ y, ∃ cs', w.cells? base (a.add (i * sz)) sz = some cs' ∧ VRels (KW w) (en y) cs' ∧ good y := by
      intro i hi
      have := hel' i hi
      rw [List.getElem?_eq_getElem (by omega)] at this
      obtain ⟨cs', h1, h2⟩ := Option.bind_eq_some_iff.1 this
      obtain ⟨y, h3, h4⟩ := hel cs' _ h2
      exact ⟨y, cs', h1, h3, h4⟩
    by_cases h0 : cap = 0
    · have hl0 : len = 0 := by omega
      subst h0 hl0
      exact ⟨[], _, rfl, by simp only [VRel]; exact .inl ⟨⟨some a, rfl, .inr trivial⟩, rfl, trivial⟩, by simp, by simp⟩
    · have spot : a.spot = none := by
        have rd : ∃ cs', w.cells? base (a.add 0) sz = some cs' := by
          by_cases hl0 : 0 < len
          · obtain ⟨_, cs', h1, _⟩ := one 0 hl0
            rw [Nat.zero_mul] at h1
            exact ⟨cs', h1⟩
          · obtain ⟨hr1, hr2⟩ := hsp rfl
            have := hr2 0 (by omega)
            rw [List.getElem?_eq_getElem (by omega), show len + 0 = 0 by omega, Nat.zero_mul] at this
            obtain ⟨cs', h1, _⟩ := Option.bind_eq_some_iff.1 this
            exact ⟨cs', h1⟩
        obtain ⟨cs', h1⟩ := rd
        obtain ⟨_, hlen', hc'⟩ := World.cells?_some h1
        have := hc' 0 hpos
        rw [List.getElem?_eq_getElem (by omega)] at this
        cases hs : a.spot with
        | none => rfl
        | some s =>
          simp only [Addr.add, if_true] at this
          unfold World.cell? at this
          rw [hs] at this
          split at this <;> simp at this
      obtain ⟨b, o, s⟩ := a
      simp only at spot
      subst spot
      obtain ⟨l, hl1, hl2⟩ := list_choose len one
      refine ⟨l, _, rfl, ?_, by rw [Fits, hl1]; simp only [maxLen] at hc; omega, fun y hy => ?_⟩
      · simp only [VRel]
        refine .inr ⟨b, o, cap, by simp [hl1], by simpa [hl1] using hl, RowsAt.intro b sz _ o fun i r e => ?_, trivial⟩
        rw [List.getElem?_map, Option.map_eq_some_iff] at e
        obtain ⟨y, hy, rfl⟩ := e
        obtain ⟨cs', h1, h2, _⟩ := hl2 i y hy
        obtain ⟨h3, h4⟩ := hat y
        obtain ⟨_, hlen', hc'⟩ := World.cells?_some h1
        obtain ⟨g1, g2⟩ := VRels.get h2
        refine ⟨h4, h3, CellsAt.intro b _ _ fun j z hz => ?_⟩
        obtain ⟨v, hv1, hv2⟩ := g2 j z hz
        have hjl : j < sz := by rw [← hlen']; exact (List.getElem?_eq_some_iff.1 hv1).1
        refine ⟨v, ?_, hv2⟩
        have := hc' j hjl
        rw [hv1] at this
        show w.cell? ⟨b, o + i * sz + j, none⟩ = some v
        rw [← this]
        congr 1
        simp only [Addr.add]
        by_cases hi0 : i * sz = 0
        · rw [if_pos hi0]
          by_cases hj0 : j = 0
          · rw [if_pos hj0, hi0, hj0]; simp
          · rw [if_neg hj0, hi0]; simp
        · rw [if_neg hi0]
          by_cases hj0 : j = 0
          · rw [if_pos hj0, hj0]; simp
          · rw [if_neg hj0]
      · obtain ⟨i, hi⟩ := List.getElem?_of_mem hy
        obtain ⟨_, _, _, hg⟩ := hl2 i y hi
        exact hg
end
end Go.Proofs.YtpgcmnabljandaaGreatDoor
end

section
/-
  A problem, as it lies in memory.
-/
set_option linter.unusedVariables false
set_option linter.unusedSimpArgs false
set_option maxRecDepth 100000
namespace Go.Proofs.YtpgcmnabljandaaGreatDoor
open Go Go.Abs
section
variable {H : Type} {enc : TypeId × Value → H} {w : World} {base : Nat} {held : Bool}

theorem rd_field {fs : Array Field} {t n : Nat} {cs : List Value} {x : DataW H × List MemPlace} (ht : Tryz.prog.underlying t = some (.struct fs)) (h : DataW.trod enc Tryz.prog w base (fun _ => true) held n t cs = some x) :
    ∃ m, n = m + 1 ∧ cs.length = Tryz.prog.cellsOf t ∧ ∀ (i : Nat) (f : Field), fs[i]? = some f → ∃ y, DataW.trod enc Tryz.prog w base (fun _ => true) held m f.type ((cs.drop f.offset).take (Tryz.prog.cellsOf f.type)) = some y := by
  obtain ⟨xs, m, rfl, rfl, hl, hlen, hf⟩ := DataW.trod_struct ht h
  refine ⟨m, rfl, hl, fun i f hi => ?_⟩
  have hlt : i < fs.size := (Array.getElem?_eq_some_iff.1 hi).1
  exact ⟨xs[i]'(by omega), by rw [hf i f hi, List.getElem?_eq_getElem]⟩

theorem k3 : Tryz.prog.cellsOf 3 = 1 := by kernel_rfl
theorem k4 : Tryz.prog.cellsOf 4 = 1 := by kernel_rfl
theorem k9 : Tryz.prog.cellsOf 9 = 1 := by kernel_rfl
theorem k28 : Tryz.prog.cellsOf 28 = 1 := by kernel_rfl
theorem k31 : Tryz.prog.cellsOf 31 = 1 := by kernel_rfl
theorem k32 : Tryz.prog.cellsOf 32 = 1 := by kernel_rfl
theorem k33 : Tryz.prog.cellsOf 33 = 1 := by kernel_rfl
theorem k34 : Tryz.prog.cellsOf 34 = 1 := by kernel_rfl
theorem k36 : Tryz.prog.cellsOf 36 = 5 := by kernel_rfl
theorem k55 : Tryz.prog.cellsOf 55 = 4 := by kernel_rfl
theorem k65 : Tryz.prog.cellsOf 65 = 4 := by kernel_rfl
theorem k66 : Tryz.prog.cellsOf 66 = 1 := by kernel_rfl
theorem k118 : Tryz.prog.cellsOf 118 = 2 := by kernel_rfl
theorem k155 : Tryz.prog.cellsOf 155 = 4 := by kernel_rfl

theorem str_rel {s : ByteArray} : VRel (KW w) (.str s.data.toList) (.string s) := by
  obtain ⟨d⟩ := s
  unfold VRel
  show Value.string ⟨d⟩ = Value.string ⟨d.toList.toArray⟩
  rw [Array.toArray_toList]

theorem rd_int {n : Nat} {c : Value} {y : DataW H × List MemPlace} (h : DataW.trod enc Tryz.prog w base (fun _ => true) held n 3 [c] = some y) : ∃ i : Int, c = .int .i64 i := by
  obtain ⟨i, e, _⟩ := DataW.trod_int Tryz.underlying3 h
  exact ⟨i, (List.cons.inj e).1⟩
theorem rd_bool {n : Nat} {c : Value} {y : DataW H × List MemPlace} (h : DataW.trod enc Tryz.prog w base (fun _ => true) held n 4 [c] = some y) : ∃ i : Bool, c = .bool i := by
  obtain ⟨i, e, _⟩ := DataW.trod_bool Tryz.underlying4 h
  exact ⟨i, (List.cons.inj e).1⟩
theorem rd_str {n : Nat} {c : Value} {y : DataW H × List MemPlace} (h : DataW.trod enc Tryz.prog w base (fun _ => true) held n 9 [c] = some y) : ∃ s : ByteArray, c = .string s ∧ Fits s.data.toList := by
  obtain ⟨s, e, _, hs⟩ := DataW.trod_string Tryz.underlying9 h
  refine ⟨s, (List.cons.inj e).1, ?_⟩
  have : s.data.toList.length = s.size := Array.length_toList
  rw [Fits, this]
  simp only [maxLen] at hs
  omega

theorem rdVar {n : Nat} {cs : List Value} {x : DataW H × List MemPlace} (h : DataW.trod enc Tryz.prog w base (fun _ => true) held n 65 cs = some x) : ∃ v : Var, VRels (KW w) (encVar v) cs ∧ Fits v.name := by
  obtain ⟨m, rfl, hl, hf⟩ := rd_field Tryz.underlying65 h
  rw [k65] at hl
  match cs, hl with
  | [a, b, c, d], _ =>
    obtain ⟨y0, h0⟩ := hf 0 _ rfl
    obtain ⟨y1, h1⟩ := hf 1 _ rfl
    obtain ⟨y2, h2⟩ := hf 2 _ rfl
    obtain ⟨y3, h3⟩ := hf 3 _ rfl
    have h0 : DataW.trod enc Tryz.prog w base (fun _ => true) held m 9 (List.take (Tryz.prog.cellsOf 9) (List.drop 0 [a, b, c, d])) = some y0 := h0
    rw [k9] at h0
    have h1 : DataW.trod enc Tryz.prog w base (fun _ => true) held m 3 (List.take (Tryz.prog.cellsOf 3) (List.drop 1 [a, b, c, d])) = some y1 := h1
    rw [k3] at h1
    have h2 : DataW.trod enc Tryz.prog w base (fun _ => true) held m 3 (List.take (Tryz.prog.cellsOf 3) (List.drop 2 [a, b, c, d])) = some y2 := h2
    rw [k3] at h2
    have h3 : DataW.trod enc Tryz.prog w base (fun _ => true) held m 3 (List.take (Tryz.prog.cellsOf 3) (List.drop 3 [a, b, c, d])) = some y3 := h3
    rw [k3] at h3
    obtain ⟨s, rfl, hs⟩ := rd_str (c := a) h0
    obtain ⟨i1, rfl⟩ := rd_int (c := b) h1
    obtain ⟨i2, rfl⟩ := rd_int (c := c) h2
    obtain ⟨i3, rfl⟩ := rd_int (c := d) h3
    refine ⟨⟨s.data.toList, i1, i2, i3⟩, ?_, hs⟩
    simp only [encVar, VRels]
    exact ⟨_, _, rfl, str_rel, _, _, rfl, by simp [VRel], _, _, rfl, by simp [VRel], _, _, rfl, by simp [VRel], rfl⟩
theorem rdWeight {n : Nat} {cs : List Value} {x : DataW H × List MemPlace} (h : DataW.trod enc Tryz.prog w base (fun _ => true) held n 155 cs = some x) : ∃ v : Weight, VRels (KW w) (encWeight v) cs ∧ True := by
  obtain ⟨m, rfl, hl, hf⟩ := rd_field Tryz.underlying155 h
  rw [k155] at hl
  match cs, hl with
  | [a, b, c, d], _ =>
    obtain ⟨y0, h0⟩ := hf 0 _ rfl
    obtain ⟨y1, h1⟩ := hf 1 _ rfl
    obtain ⟨y2, h2⟩ := hf 2 _ rfl
    obtain ⟨y3, h3⟩ := hf 3 _ rfl
    have h0 : DataW.trod enc Tryz.prog w base (fun _ => true) held m 3 (List.take (Tryz.prog.cellsOf 3) (List.drop 0 [a, b, c, d])) = some y0 := h0
    rw [k3] at h0
    have h1 : DataW.trod enc Tryz.prog w base (fun _ => true) held m 3 (List.take (Tryz.prog.cellsOf 3) (List.drop 1 [a, b, c, d])) = some y1 := h1
    rw [k3] at h1
    have h2 : DataW.trod enc Tryz.prog w base (fun _ => true) held m 3 (List.take (Tryz.prog.cellsOf 3) (List.drop 2 [a, b, c, d])) = some y2 := h2
    rw [k3] at h2
    have h3 : DataW.trod enc Tryz.prog w base (fun _ => true) held m 4 (List.take (Tryz.prog.cellsOf 4) (List.drop 3 [a, b, c, d])) = some y3 := h3
    rw [k4] at h3
    obtain ⟨i0, rfl⟩ := rd_int (c := a) h0
    obtain ⟨i1, rfl⟩ := rd_int (c := b) h1
    obtain ⟨i2, rfl⟩ := rd_int (c := c) h2
    obtain ⟨i3, rfl⟩ := rd_bool (c := d) h3
    refine ⟨⟨i0, i1, i2, i3⟩, ?_, trivial⟩
    simp [VRels, VRel]
theorem rdDist {n : Nat} {cs : List Value} {x : DataW H × List MemPlace} (h : DataW.trod enc Tryz.prog w base (fun _ => true) held n 118 cs = some x) : ∃ v : Dist, VRels (KW w) (encDist v) cs ∧ Fits v.weights := by
  obtain ⟨m, rfl, hl, hf⟩ := rd_field Tryz.underlying118 h
  rw [k118] at hl
  match cs, hl with
  | [a, b], _ =>
    obtain ⟨y0, h0⟩ := hf 0 _ rfl
    obtain ⟨y1, h1⟩ := hf 1 _ rfl
    have h0 : DataW.trod enc Tryz.prog w base (fun _ => true) held m 3 (List.take (Tryz.prog.cellsOf 3) (List.drop 0 [a, b])) = some y0 := h0
    rw [k3] at h0
    have h1 : DataW.trod enc Tryz.prog w base (fun _ => true) held m 66 (List.take (Tryz.prog.cellsOf 66) (List.drop 1 [a, b])) = some y1 := h1
    rw [k66] at h1
    obtain ⟨i0, rfl⟩ := rd_int (c := a) h0
    have h1' : DataW.trod enc Tryz.prog w base (fun _ => true) held m 66 [b] = some y1 := h1
    cases m with
    | zero => simp [DataW.trod] at h1'
    | succ m =>
      obtain ⟨l, v, e, hv, hfl, _⟩ := rd_slice (en := encWeight) (good := fun _ => True) Tryz.underlying66 k155 (by omega) (fun y => by simp [AV.atom]) (fun cs x h => rdWeight h) h1'
      cases e
      refine ⟨⟨i0, l⟩, ?_, hfl⟩
      simp only [encDist, VRels, VRel]
      exact ⟨_, _, rfl, rfl, _, [], rfl, by simpa only [VRel] using hv, rfl⟩
theorem rdInts {n : Nat} {cs : List Value} {x : DataW H × List MemPlace} (h : DataW.trod enc Tryz.prog w base (fun _ => true) held n 28 cs = some x) : ∃ l : List Int, VRels (KW w) (encInts l) cs ∧ Fits l := by
  cases n with
  | zero => simp [DataW.trod] at h
  | succ m =>
    obtain ⟨l, v, rfl, hv, hfl, _⟩ := rd_slice (en := encInt) (good := fun _ => True) Tryz.underlying28 k3 (by omega) (fun y => by simp [AV.atom]) (fun cs x h => by
      obtain ⟨i, e, _⟩ := DataW.trod_int Tryz.underlying3 h
      exact ⟨i, by rw [e]; simp [VRels, VRel], trivial⟩) h
    refine ⟨l, ?_, hfl⟩
    simp only [encInts, VRels]
    exact ⟨v, [], rfl, hv, rfl⟩

theorem rdE : ∀ (N n : Nat), n ≤ N → ∀ {cs : List Value} {x : DataW H × List MemPlace}, DataW.trod enc Tryz.prog w base (fun _ => true) held n 55 cs = some x → ∃ e : Ex, VRels (KW w) (encE e) cs ∧ Wen e := by
  intro N
  induction N with
  | zero =>
    intro n hn cs x h
    have : n = 0 := by omega
    subst this
    simp [DataW.trod] at h
  | succ N ih =>
    intro n hn cs x h
    obtain ⟨m, rfl, hl, hf⟩ := rd_field Tryz.underlying55 h
    rw [k55] at hl
    match cs, hl with
    | [a, b, c, d], _ =>
      obtain ⟨y0, h0⟩ := hf 0 _ rfl
      obtain ⟨y1, h1⟩ := hf 1 _ rfl
      obtain ⟨y2, h2⟩ := hf 2 _ rfl
      obtain ⟨y3, h3⟩ := hf 3 _ rfl
      have h0 : DataW.trod enc Tryz.prog w base (fun _ => true) held m 3 (List.take (Tryz.prog.cellsOf 3) (List.drop 0 [a, b, c, d])) = some y0 := h0
      rw [k3] at h0
      have h1 : DataW.trod enc Tryz.prog w base (fun _ => true) held m 3 (List.take (Tryz.prog.cellsOf 3) (List.drop 1 [a, b, c, d])) = some y1 := h1
      rw [k3] at h1
      have h2 : DataW.trod enc Tryz.prog w base (fun _ => true) held m 9 (List.take (Tryz.prog.cellsOf 9) (List.drop 2 [a, b, c, d])) = some y2 := h2
      rw [k9] at h2
      have h3 : DataW.trod enc Tryz.prog w base (fun _ => true) held m 32 (List.take (Tryz.prog.cellsOf 32) (List.drop 3 [a, b, c, d])) = some y3 := h3
      rw [k32] at h3
      obtain ⟨i0, rfl⟩ := rd_int (c := a) h0
      obtain ⟨i1, rfl⟩ := rd_int (c := b) h1
      obtain ⟨s, rfl, hs⟩ := rd_str (c := c) h2
      have h3' : DataW.trod enc Tryz.prog w base (fun _ => true) held m 32 [d] = some y3 := h3
      cases m with
      | zero => simp [DataW.trod] at h3'
      | succ m =>
        obtain ⟨l, v, e, hv, hfl, hg⟩ := rd_slice (en := encE) (good := Wen) Tryz.underlying32 k55 (by omega) (fun y => by rw [encE_eq]; simp [AV.atom]) (fun cs x h => ih m (by omega) h) h3'
        cases e
        refine ⟨.mk i0 i1 s.data.toList l, ?_, ?_⟩
        · rw [encE_eq]
          simp only [VRels, Ex.op_mk, Ex.n_mk, Ex.name_mk, Ex.args_mk]
          exact ⟨_, _, rfl, by simp [VRel], _, _, rfl, by simp [VRel], _, _, rfl, str_rel, _, [], rfl, hv, rfl⟩
        · intro y hy
          rw [pre_eq] at hy
          rcases List.mem_cons.1 hy with rfl | hy
          · exact ⟨hfl, hs⟩
          · obtain ⟨a, ha, hya⟩ := mem_preL.1 hy
            exact hg a ha y hya

theorem rdP {n : Nat} {cs : List Value} {x : DataW H × List MemPlace} (h : DataW.trod enc Tryz.prog w base (fun _ => true) held n 36 cs = some x) : ∃ p : Problem, VRels (KW w) (encP p) cs ∧ VH p := by
  obtain ⟨m, rfl, hl, hf⟩ := rd_field Tryz.underlying36 h
  rw [k36] at hl
  match cs, hl with
  | [a, b, c, d, e], _ =>
    obtain ⟨y0, h0⟩ := hf 0 _ rfl
    obtain ⟨y1, h1⟩ := hf 1 _ rfl
    obtain ⟨y2, h2⟩ := hf 2 _ rfl
    obtain ⟨y3, h3⟩ := hf 3 _ rfl
    obtain ⟨y4, h4⟩ := hf 4 _ rfl
    have h0 : DataW.trod enc Tryz.prog w base (fun _ => true) held m 31 (List.take (Tryz.prog.cellsOf 31) (List.drop 0 [a, b, c, d, e])) = some y0 := h0
    rw [k31] at h0
    have h1 : DataW.trod enc Tryz.prog w base (fun _ => true) held m 32 (List.take (Tryz.prog.cellsOf 32) (List.drop 1 [a, b, c, d, e])) = some y1 := h1
    rw [k32] at h1
    have h2 : DataW.trod enc Tryz.prog w base (fun _ => true) held m 32 (List.take (Tryz.prog.cellsOf 32) (List.drop 2 [a, b, c, d, e])) = some y2 := h2
    rw [k32] at h2
    have h3 : DataW.trod enc Tryz.prog w base (fun _ => true) held m 33 (List.take (Tryz.prog.cellsOf 33) (List.drop 3 [a, b, c, d, e])) = some y3 := h3
    rw [k33] at h3
    have h4 : DataW.trod enc Tryz.prog w base (fun _ => true) held m 34 (List.take (Tryz.prog.cellsOf 34) (List.drop 4 [a, b, c, d, e])) = some y4 := h4
    rw [k34] at h4
    have h0' : DataW.trod enc Tryz.prog w base (fun _ => true) held m 31 [a] = some y0 := h0
    have h1' : DataW.trod enc Tryz.prog w base (fun _ => true) held m 32 [b] = some y1 := h1
    have h2' : DataW.trod enc Tryz.prog w base (fun _ => true) held m 32 [c] = some y2 := h2
    have h3' : DataW.trod enc Tryz.prog w base (fun _ => true) held m 33 [d] = some y3 := h3
    have h4' : DataW.trod enc Tryz.prog w base (fun _ => true) held m 34 [e] = some y4 := h4
    cases m with
    | zero => simp [DataW.trod] at h0'
    | succ m =>
      obtain ⟨l0, v0, e0, r0, f0, g0⟩ := rd_slice (en := encVar) (good := fun v => Fits v.name) Tryz.underlying31 k65 (by omega) (fun y => by simp [AV.atom]) (fun cs x h => rdVar h) h0'
      obtain ⟨l1, v1, e1, r1, f1, g1⟩ := rd_slice (en := encE) (good := Wen) Tryz.underlying32 k55 (by omega) (fun y => by rw [encE_eq]; simp [AV.atom]) (fun cs x h => rdE m m (Nat.le_refl _) h) h1'
      obtain ⟨l2, v2, e2, r2, f2, g2⟩ := rd_slice (en := encE) (good := Wen) Tryz.underlying32 k55 (by omega) (fun y => by rw [encE_eq]; simp [AV.atom]) (fun cs x h => rdE m m (Nat.le_refl _) h) h2'
      obtain ⟨l3, v3, e3, r3, f3, g3⟩ := rd_slice (en := encDist) (good := fun d => Fits d.weights) Tryz.underlying33 k118 (by omega) (fun y => by simp [AV.atom]) (fun cs x h => rdDist h) h3'
      obtain ⟨l4, v4, e4, r4, f4, g4⟩ := rd_slice (en := encInts) (good := fun g => Fits g) Tryz.underlying34 k28 (by omega) (fun y => by simp [AV.atom]) (fun cs x h => rdInts h) h4'
      cases e0; cases e1; cases e2; cases e3; cases e4
      refine ⟨⟨l0, l1, l2, l3, l4⟩, ?_, ⟨g0, fun e he => ?_, f3, g3, f4, g4⟩⟩
      · simp only [encP, VRels]
        exact ⟨_, _, rfl, r0, _, _, rfl, r1, _, _, rfl, r2, _, _, rfl, r3, _, _, rfl, r4, rfl⟩
      · rcases List.mem_append.1 he with he | he
        · exact g1 e he
        · exact g2 e he
end
end Go.Proofs.YtpgcmnabljandaaGreatDoor
end
