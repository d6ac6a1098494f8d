/- A part of the proof: texts Works3 Walk29 AbsRead AbsRead2 Join5 Join5b. -/
import Derived.Test.YtpgcmnabljandaaGreatDoorWo01
import Derived.Test.YtpgcmnabljandaaGreatDoorWk20
import Derived.Test.YtpgcmnabljandaaGreatDoorWk09
import Derived.ChangeArms
import Derived.DataReads
import Derived.Test.YtpgcmnabljandaaGreatDoorRows
import Derived.Test.YtpgcmnabljandaaGreatDoorTie
import Derived.Test.YtpgcmnabljandaaGreatDoorCards
import Derived.ProofKit
import Derived.LaidMore
import Derived.OpenShut
import Derived.Stop.Joined
import Derived.SevenTiedAt
import Derived.WideKeyArgs
import Derived.MakeChecks

section
/-
  works() is true, by the kernel.
-/
set_option linter.unusedSimpArgs false
set_option linter.unusedVariables false
set_option maxRecDepth 1000000
namespace Go.Proofs.YtpgcmnabljandaaGreatDoor
open Go Go.Abs
def K3 (g : FuncId) : Bool := Nat.beq g 13 || (Nat.beq g 45 || (Nat.beq g 48 || (Nat.beq g 116 || Nat.beq g 14)))
def X3 (g : FuncId) (args : List AV) : Option AV :=
  pickB (Nat.beq g 13 && leqL args [srcA, .str [112, 97, 105, 114]]) (some r13) <|
  pickB (Nat.beq g 45 && leqL args [flatA]) (some r45) <|
  pickB (Nat.beq g 48 && leqL args [itemsA, flatA]) (some r48a) <|
  pickB (Nat.beq g 48 && leqL args [moreA, flatA]) (some r48b) <|
  pickB (Nat.beq g 116 && leqL args [hardA, flatA]) (some r116a) <|
  pickB (Nat.beq g 116 && leqL args [softA, flatA]) (some r116b) <|
  pickB (Nat.beq g 14 && leqL args [.agg (encP pairP)]) (some (.int .i64 0)) <|
  pickB (Nat.beq g 14 && leqL args [.agg (encP badP)]) (some (.int .i64 1)) <|
  none
theorem X3_ok : ConX Tryz.prog GG X3 := by
  intro g args r h
  have step : ∀ {b : FuncId} {a : List AV} {s : AV} {k : Option AV}, Pure Tryz.prog GG b a s → pickB (Nat.beq g b && leqL args a) (some s) k = some r → Pure Tryz.prog GG g args r ∨ k = some r := by
    intro b a s k hp hk
    cases hb : (Nat.beq g b && leqL args a)
    · rw [hb] at hk; exact .inr hk
    · rw [hb] at hk
      simp only [Bool.and_eq_true] at hb
      cases hk
      rw [Nat.eq_of_beq_eq_true hb.1]
      exact .inl (hp.less (leqL_spec _ _ hb.2))
  unfold X3 at h
  rcases step flat13 h with h | h
  · exact h
  rcases step vars45 h with h | h
  · exact h
  rcases step expand48a h with h | h
  · exact h
  rcases step expand48b h with h | h
  · exact h
  rcases step scalar116a h with h | h
  · exact h
  rcases step scalar116b h with h | h
  · exact h
  rcases step valid14 h with h | h
  · exact h
  rcases step valid14b h with h | h
  · exact h
  cases h
theorem works11 : Pure Tryz.prog GG 11 [] (.bool true) := Pure.closedX (K := K3) X3_ok 1000 40 (by kernel_rfl)
end Go.Proofs.YtpgcmnabljandaaGreatDoor
end

section
/-
  The law of Valid, Bits and Random: the walk of its function.
-/
set_option linter.unusedVariables false
set_option linter.unusedSimpArgs false
set_option maxRecDepth 100000
namespace Go.Proofs.YtpgcmnabljandaaGreatDoor
open Go Go.Abs

/-- What memory can hold of a problem. -/
structure VH (p : Problem) : Prop where
  names : ∀ v ∈ p.vars, Fits v.name
  exprs : ∀ e ∈ p.hard ++ p.soft, Wen e
  dists : Fits p.dists
  weights : ∀ d ∈ p.dists, Fits d.weights
  groups : Fits p.groups
  group : ∀ g ∈ p.groups, Fits g
theorem VH.small {p : Problem} (h : VH p) (hs : smallS p = true) : VP p := by
  simp only [smallS, Bool.and_eq_true, Bool.not_eq_true', Bool.or_eq_false_iff, decide_eq_false_iff_not, List.all_eq_true, decide_eq_true_eq] at hs
  obtain ⟨⟨⟨⟨⟨⟨⟨⟨a1, a2⟩, a3⟩, a4⟩, a5⟩, b1⟩, b2⟩, b3⟩, b4⟩ := hs
  refine ⟨by omega, h.names, by omega, by omega, fun e he => ?_, h.dists, h.weights, h.groups, h.group, ?_⟩
  · have hb : briefS e 0 = true := by
      rcases List.mem_append.1 he with he | he
      · exact b1 e he
      · exact b2 e he
    have h1 := brief_hgt e 0 hb
    have h2 := brief_few hb
    exact ⟨h.exprs e he, by omega, by omega⟩
  · have : ∀ (g : List (List Int)), (∀ x ∈ g, x.length ≤ 20) → g.flatten.length ≤ g.length * 20 := by
      intro g
      induction g with
      | nil => simp
      | cons a r ih =>
        intro h
        have h1 := h a (by simp)
        have h2 := ih fun x hx => h x (by simp [hx])
        simp only [List.flatten_cons, List.length_append, List.length_cons]
        omega
    have := this p.groups b4
    omega

theorem widthAt_get {l : List Var} {i : Nat} (h : i < l.length) : widthAt l i = l[i].width := by simp [widthAt, List.getElem?_eq_getElem h]
/-- The number of random bits, as a machine adds. -/
def sumW (l : List Var) (s : List Int) : Int := s.foldl (fun n i => IntKind.i64.wrap (n + widthAt l i.toNat)) 0
theorem randomI_range {p : Problem} {i : Int} (h : i ∈ randomI p) : 0 ≤ i ∧ i < p.vars.length := by
  unfold randomI at h
  split at h
  · cases h
  · unfold rndL at h
    obtain ⟨j, hj, rfl⟩ := List.mem_map.1 h
    have := List.mem_range.1 (List.mem_filter.1 hj).1
    omega
theorem randomI_len (p : Problem) (h : VP p) : (randomI p).length ≤ 20 := by
  unfold randomI
  split
  · simp
  · exact Nat.le_trans rndL_len h.vars20
theorem sum_succ {l : List Var} {s : List Int} {i : Nat} {v : Int} (h : s[i]? = some v) : sumW l (s.take (i + 1)) = IntKind.i64.wrap (sumW l (s.take i) + widthAt l v.toNat) := by
  unfold sumW
  rw [List.take_add_one, h, List.foldl_append]
  rfl

theorem bits24 (p : Problem) (h : VP p) : Pure Tryz.prog GG 24 [.agg (encP p)] (.int .i64 (sumW p.vars (randomI p))) := by
  refine Pure.vc mixed Tryz.func24 rfl (by kernel_rfl) ?_
  have hv := random27 p h
  have hlen := randomI_len p h
  have hrg : ∀ i ∈ randomI p, 0 ≤ i ∧ i < p.vars.length := fun i hi => randomI_range hi
  simp only [encP] at hv
  generalize randomI p = R at hv hlen hrg ⊢
  simp
  refine vcCall.call hv (by simp) ?_
  try simp
  refine vcLoop.intro (fun q env σ => ∃ i, i ≤ R.length ∧ q = R.length - i ∧ env 1 = .ptr 0 0 ∧ env 3 = .int .i64 (sumW p.vars (R.take i)) ∧ env 7 = .sl 1 (R.map encInt) .none ∧ env 8 = .int .i64 R.length ∧ env 9 = .int .i64 i ∧ σ = ⟨[.cells (encP p)], []⟩) R.length ⟨0, by simp [sumW]⟩ ?_
  rintro q env σ ⟨i, hi, rfl, h1, h3, h7, h8, h9, rfl⟩
  cases hvi : R[i]? with
  | some v =>
    obtain ⟨hc, hv'⟩ := List.getElem?_eq_some_iff.1 hvi
    obtain ⟨r1, r2⟩ := hrg v (List.mem_of_getElem? hvi)
    obtain ⟨j, rfl⟩ := Int.eq_ofNat_of_zero_le r1
    have hj : j < p.vars.length := by omega
    have hs := sum_succ (l := p.vars) hvi
    simp only [Int.toNat_natCast] at hs
    rw [widthAt_get hj] at hs
    simp [h1, h3, h7, h8, h9, hc, hv', hj]
    exact ⟨_, by omega, i + 1, by omega, rfl, by rw [hs], wr (by omega) (by omega)⟩
  | none =>
    have hc : ¬ i < R.length := by simp at hvi; omega
    have ht : R.take i = R := List.take_of_length_le (by omega)
    rw [ht] at h3
    simp [h1, h3, h7, h8, h9, hc]

theorem bits25 (p : Problem) (h : VP p) : Pure Tryz.prog GG 25 [.agg (encP p)] (.int .i64 (sumW p.vars (randomI p))) := by
  refine Pure.vc mixed Tryz.func25 rfl (by kernel_rfl) ?_
  have hv := random28 p h
  have hlen := randomI_len p h
  have hrg : ∀ i ∈ randomI p, 0 ≤ i ∧ i < p.vars.length := fun i hi => randomI_range hi
  simp only [encP] at hv
  generalize randomI p = R at hv hlen hrg ⊢
  simp
  refine vcCall.call hv (by simp) ?_
  try simp
  refine vcLoop.intro (fun q env σ => ∃ i, i ≤ R.length ∧ q = R.length - i ∧ env 1 = .ptr 0 0 ∧ env 3 = .sl 1 (R.map encInt) .none ∧ env 4 = .int .i64 (sumW p.vars (R.take i)) ∧ env 5 = .int .i64 i ∧ σ = ⟨[.cells (encP p)], []⟩) R.length ⟨0, by simp [sumW]⟩ ?_
  rintro q env σ ⟨i, hi, rfl, h1, h3, h4, h5, rfl⟩
  cases hvi : R[i]? with
  | some v =>
    obtain ⟨hc, hv'⟩ := List.getElem?_eq_some_iff.1 hvi
    obtain ⟨r1, r2⟩ := hrg v (List.mem_of_getElem? hvi)
    obtain ⟨j, rfl⟩ := Int.eq_ofNat_of_zero_le r1
    have hj : j < p.vars.length := by omega
    have hs := sum_succ (l := p.vars) hvi
    simp only [Int.toNat_natCast] at hs
    rw [widthAt_get hj] at hs
    simp [h1, h3, h4, h5, hc, hv', hj]
    exact ⟨_, by omega, i + 1, by omega, rfl, by rw [hs], wr (by omega) (by omega)⟩
  | none =>
    have hc : ¬ i < R.length := by simp at hvi; omega
    have ht : R.take i = R := List.take_of_length_le (by omega)
    rw [ht] at h4
    simp [h1, h3, h4, h5, hc]

theorem valids5 (p : Problem) (h : VH p) : Pure Tryz.prog GG 5 [.agg (encP p)] (.bool true) := by
  refine Pure.vc mixed Tryz.func5 rfl (by kernel_rfl) ?_
  have hsm := small22 p h.exprs
  cases hs : smallS p
  · rw [hs] at hsm
    simp only [encP] at hsm
    simp
    refine vcCall.call hsm (by simp) ?_
    try simp
    refine vcCall.call works11 rfl ?_
    simp
  · rw [hs] at hsm
    have hp := h.small hs
    have a1 := valid14' p hp
    have a2 := valid23 p hp
    have a3 := bits24 p hp
    have a4 := bits25 p hp
    have a5 := random27 p hp
    have a6 := random28 p hp
    have hl := randomI_len p hp
    have a7 := sameInts26 (randomI p) (randomI p) (by omega)
    simp only [encP] at hsm a1 a2 a3 a4 a5 a6
    simp
    refine vcCall.call hsm (by simp) ?_
    try simp
    refine vcCall.call a1 (by simp) ?_
    try simp
    refine vcCall.call a2 (by simp) ?_
    try simp
    refine vcCall.call a3 (by simp) ?_
    try simp
    refine vcCall.call a4 (by simp) ?_
    try simp
    refine vcCall.call a5 (by simp) ?_
    try simp
    refine vcCall.call a6 (by simp) ?_
    try simp
    refine vcCall.call a7 (by simp) ?_
    try simp
    refine vcCall.call works11 rfl ?_
    simp
end Go.Proofs.YtpgcmnabljandaaGreatDoor
end

section
/-
  What the law's arguments read as: a problem, in read-only memory.
-/
set_option linter.unusedVariables false
set_option linter.unusedSimpArgs false
set_option maxRecDepth 100000
namespace Go.Proofs.YtpgcmnabljandaaGreatDoor
open Go Go.Abs

theorem list_choose {α : Type} {R : Nat → α → Prop} : ∀ (n : Nat), (∀ i, i < n → ∃ y, R i y) → ∃ l : List α, l.length = n ∧ ∀ i y, l[i]? = some y → R i y
  | 0, _ => ⟨[], rfl, by simp⟩
  | n + 1, h => by
    obtain ⟨l, h1, h2⟩ := list_choose n fun i hi => h i (by omega)
    obtain ⟨y, hy⟩ := h n (by omega)
    refine ⟨l ++ [y], by simp [h1], fun i z hz => ?_⟩
    rw [List.getElem?_append] at hz
    split at hz
    · exact h2 i z hz
    · rename_i hi
      have : i - l.length = 0 := by
        rcases Nat.eq_zero_or_pos (i - l.length) with h0 | h0
        · exact h0
        · rw [List.getElem?_eq_none (by simp; omega)] at hz; cases hz
      rw [this] at hz
      cases hz
      have : i = n := by omega
      subst this
      exact hy

section
variable {H : Type} {enc : TypeId × Value → H} {w : World} {base : Nat} {held : Bool}
/-- All that is known: memory as it stands. -/
abbrev KW (w : World) : Kn := Go.Abs.K0 (roAll w)

theorem VRels.get {K : Kn} : ∀ {l : List AV} {vs : List Value}, VRels K l vs → vs.length = l.length ∧ ∀ (j : Nat) (a : AV), l[j]? = some a → ∃ v, vs[j]? = some v ∧ VRel K a v
  | [], _, h => by simp only [VRels] at h; subst h; simp
  | a :: r, _, h => by
    simp only [VRels] at h
    obtain ⟨v, vr, rfl, h1, h2⟩ := h
    obtain ⟨k1, k2⟩ := VRels.get h2
    refine ⟨by simp [k1], fun j b hj => ?_⟩
    cases j with
    | zero => simp at hj; subst hj; exact ⟨v, rfl, h1⟩
    | succ j => simp at hj; exact k2 j b hj

theorem rd_slice {α : Type} {t e sz : Nat} {en : α → List AV} {good : α → Prop} {n : Nat} (ht : Tryz.prog.underlying t = some (.slice e)) (hsz : Tryz.prog.cellsOf e = sz) (hpos : 0 < sz)
    (hat : ∀ y, (en y).all AV.atom = true ∧ (en y).length = sz)
    (hel : ∀ cs x, DataW.trod enc Tryz.prog w base (fun _ => true) held n e cs = some x → ∃ y, VRels (KW w) (en y) cs ∧ good y)
    {cs : List Value} {x : DataW H × List MemPlace} (h : DataW.trod enc Tryz.prog w base (fun _ => true) held (n + 1) t cs = some x) :
    ∃ (l : List α) (v : Value), cs = [v] ∧ VRel (KW w) (.sl sz (l.map en) .none) v ∧ Fits l ∧ ∀ y ∈ l, good y := by
  rcases DataW.trod_slice ht h with ⟨rfl, rfl⟩ | ⟨a, len, cap, elems, rest, m, hm, rfl, rfl, hb, hl, hc, hlen, hel', hsp, _⟩
  · exact ⟨[], _, rfl, by simp only [VRel]; exact .inl ⟨⟨none, rfl, .inl rfl⟩, rfl, trivial⟩, by simp, by simp⟩
  · have hnm : n = m := by omega
    subst hnm
    rw [hsz] at hel' hsp
    have one : ∀ i, i < len → ∃ y, ∃ cs', w.cells? base (a.add (i * sz)) sz = some cs' ∧ VRels (KW w) (en y) cs' ∧ good y := by
      intro i hi
      have := hel' i hi
      rw [List.getElem?_eq_getElem (by omega)] at this
      obtain ⟨cs', h1, h2⟩ := Option.bind_eq_some_iff.1 this
      obtain ⟨y, h3, h4⟩ := hel cs' _ h2
      exact ⟨y, cs', h1, h3, h4⟩
    by_cases h0 : cap = 0
    · have hl0 : len = 0 := by omega
      subst h0 hl0
      exact ⟨[], _, rfl, by simp only [VRel]; exact .inl ⟨⟨some a, rfl, .inr trivial⟩, rfl, trivial⟩, by simp, by simp⟩
    · have spot : a.spot = none := by
        have rd : ∃ cs', w.cells? base (a.add 0) sz = some cs' := by
          by_cases hl0 : 0 < len
          · obtain ⟨_, cs', h1, _⟩ := one 0 hl0
            rw [Nat.zero_mul] at h1
            exact ⟨cs', h1⟩
          · obtain ⟨hr1, hr2⟩ := hsp rfl
            have := hr2 0 (by omega)
            rw [List.getElem?_eq_getElem (by omega), show len + 0 = 0 by omega, Nat.zero_mul] at this
            obtain ⟨cs', h1, _⟩ := Option.bind_eq_some_iff.1 this
            exact ⟨cs', h1⟩
        obtain ⟨cs', h1⟩ := rd
        obtain ⟨_, hlen', hc'⟩ := World.cells?_some h1
        have := hc' 0 hpos
        rw [List.getElem?_eq_getElem (by omega)] at this
        cases hs : a.spot with
        | none => rfl
        | some s =>
          simp only [Addr.add, if_true] at this
          unfold World.cell? at this
          rw [hs] at this
          split at this <;> simp at this
      obtain ⟨b, o, s⟩ := a
      simp only at spot
      subst spot
      obtain ⟨l, hl1, hl2⟩ := list_choose len one
      refine ⟨l, _, rfl, ?_, by rw [Fits, hl1]; simp only [maxLen] at hc; omega, fun y hy => ?_⟩
      · simp only [VRel]
        refine .inr ⟨b, o, cap, by simp [hl1], by simpa [hl1] using hl, RowsAt.intro b sz _ o fun i r e => ?_, trivial⟩
        rw [List.getElem?_map, Option.map_eq_some_iff] at e
        obtain ⟨y, hy, rfl⟩ := e
        obtain ⟨cs', h1, h2, _⟩ := hl2 i y hy
        obtain ⟨h3, h4⟩ := hat y
        obtain ⟨_, hlen', hc'⟩ := World.cells?_some h1
        obtain ⟨g1, g2⟩ := VRels.get h2
        refine ⟨h4, h3, CellsAt.intro b _ _ fun j z hz => ?_⟩
        obtain ⟨v, hv1, hv2⟩ := g2 j z hz
        have hjl : j < sz := by rw [← hlen']; exact (List.getElem?_eq_some_iff.1 hv1).1
        refine ⟨v, ?_, hv2⟩
        have := hc' j hjl
        rw [hv1] at this
        show w.cell? ⟨b, o + i * sz + j, none⟩ = some v
        rw [← this]
        congr 1
        simp only [Addr.add]
        by_cases hi0 : i * sz = 0
        · rw [if_pos hi0]
          by_cases hj0 : j = 0
          · rw [if_pos hj0, hi0, hj0]; simp
          · rw [if_neg hj0, hi0]; simp
        · rw [if_neg hi0]
          by_cases hj0 : j = 0
          · rw [if_pos hj0, hj0]; simp
          · rw [if_neg hj0]
      · obtain ⟨i, hi⟩ := List.getElem?_of_mem hy
        obtain ⟨_, _, _, hg⟩ := hl2 i y hi
        exact hg
end
end Go.Proofs.YtpgcmnabljandaaGreatDoor
end

section
/-
  A problem, as it lies in memory.
-/
set_option linter.unusedVariables false
set_option linter.unusedSimpArgs false
set_option maxRecDepth 100000
namespace Go.Proofs.YtpgcmnabljandaaGreatDoor
open Go Go.Abs
section
variable {H : Type} {enc : TypeId × Value → H} {w : World} {base : Nat} {held : Bool}

theorem rd_field {fs : Array Field} {t n : Nat} {cs : List Value} {x : DataW H × List MemPlace} (ht : Tryz.prog.underlying t = some (.struct fs)) (h : DataW.trod enc Tryz.prog w base (fun _ => true) held n t cs = some x) :
    ∃ m, n = m + 1 ∧ cs.length = Tryz.prog.cellsOf t ∧ ∀ (i : Nat) (f : Field), fs[i]? = some f → ∃ y, DataW.trod enc Tryz.prog w base (fun _ => true) held m f.type ((cs.drop f.offset).take (Tryz.prog.cellsOf f.type)) = some y := by
  obtain ⟨xs, m, rfl, rfl, hl, hlen, hf⟩ := DataW.trod_struct ht h
  refine ⟨m, rfl, hl, fun i f hi => ?_⟩
  have hlt : i < fs.size := (Array.getElem?_eq_some_iff.1 hi).1
  exact ⟨xs[i]'(by omega), by rw [hf i f hi, List.getElem?_eq_getElem]⟩

theorem k3 : Tryz.prog.cellsOf 3 = 1 := by kernel_rfl
theorem k4 : Tryz.prog.cellsOf 4 = 1 := by kernel_rfl
theorem k9 : Tryz.prog.cellsOf 9 = 1 := by kernel_rfl
theorem k28 : Tryz.prog.cellsOf 28 = 1 := by kernel_rfl
theorem k31 : Tryz.prog.cellsOf 31 = 1 := by kernel_rfl
theorem k32 : Tryz.prog.cellsOf 32 = 1 := by kernel_rfl
theorem k33 : Tryz.prog.cellsOf 33 = 1 := by kernel_rfl
theorem k34 : Tryz.prog.cellsOf 34 = 1 := by kernel_rfl
theorem k36 : Tryz.prog.cellsOf 36 = 5 := by kernel_rfl
theorem k55 : Tryz.prog.cellsOf 55 = 4 := by kernel_rfl
theorem k65 : Tryz.prog.cellsOf 65 = 4 := by kernel_rfl
theorem k66 : Tryz.prog.cellsOf 66 = 1 := by kernel_rfl
theorem k118 : Tryz.prog.cellsOf 118 = 2 := by kernel_rfl
theorem k155 : Tryz.prog.cellsOf 155 = 4 := by kernel_rfl

theorem str_rel {s : ByteArray} : VRel (KW w) (.str s.data.toList) (.string s) := by
  obtain ⟨d⟩ := s
  unfold VRel
  show Value.string ⟨d⟩ = Value.string ⟨d.toList.toArray⟩
  rw [Array.toArray_toList]

theorem rd_int {n : Nat} {c : Value} {y : DataW H × List MemPlace} (h : DataW.trod enc Tryz.prog w base (fun _ => true) held n 3 [c] = some y) : ∃ i : Int, c = .int .i64 i := by
  obtain ⟨i, e, _⟩ := DataW.trod_int Tryz.underlying3 h
  exact ⟨i, (List.cons.inj e).1⟩
theorem rd_bool {n : Nat} {c : Value} {y : DataW H × List MemPlace} (h : DataW.trod enc Tryz.prog w base (fun _ => true) held n 4 [c] = some y) : ∃ i : Bool, c = .bool i := by
  obtain ⟨i, e, _⟩ := DataW.trod_bool Tryz.underlying4 h
  exact ⟨i, (List.cons.inj e).1⟩
theorem rd_str {n : Nat} {c : Value} {y : DataW H × List MemPlace} (h : DataW.trod enc Tryz.prog w base (fun _ => true) held n 9 [c] = some y) : ∃ s : ByteArray, c = .string s ∧ Fits s.data.toList := by
  obtain ⟨s, e, _, hs⟩ := DataW.trod_string Tryz.underlying9 h
  refine ⟨s, (List.cons.inj e).1, ?_⟩
  have : s.data.toList.length = s.size := Array.length_toList
  rw [Fits, this]
  simp only [maxLen] at hs
  omega

theorem rdVar {n : Nat} {cs : List Value} {x : DataW H × List MemPlace} (h : DataW.trod enc Tryz.prog w base (fun _ => true) held n 65 cs = some x) : ∃ v : Var, VRels (KW w) (encVar v) cs ∧ Fits v.name := by
  obtain ⟨m, rfl, hl, hf⟩ := rd_field Tryz.underlying65 h
  rw [k65] at hl
  match cs, hl with
  | [a, b, c, d], _ =>
    obtain ⟨y0, h0⟩ := hf 0 _ rfl
    obtain ⟨y1, h1⟩ := hf 1 _ rfl
    obtain ⟨y2, h2⟩ := hf 2 _ rfl
    obtain ⟨y3, h3⟩ := hf 3 _ rfl
    have h0 : DataW.trod enc Tryz.prog w base (fun _ => true) held m 9 (List.take (Tryz.prog.cellsOf 9) (List.drop 0 [a, b, c, d])) = some y0 := h0
    rw [k9] at h0
    have h1 : DataW.trod enc Tryz.prog w base (fun _ => true) held m 3 (List.take (Tryz.prog.cellsOf 3) (List.drop 1 [a, b, c, d])) = some y1 := h1
    rw [k3] at h1
    have h2 : DataW.trod enc Tryz.prog w base (fun _ => true) held m 3 (List.take (Tryz.prog.cellsOf 3) (List.drop 2 [a, b, c, d])) = some y2 := h2
    rw [k3] at h2
    have h3 : DataW.trod enc Tryz.prog w base (fun _ => true) held m 3 (List.take (Tryz.prog.cellsOf 3) (List.drop 3 [a, b, c, d])) = some y3 := h3
    rw [k3] at h3
    obtain ⟨s, rfl, hs⟩ := rd_str (c := a) h0
    obtain ⟨i1, rfl⟩ := rd_int (c := b) h1
    obtain ⟨i2, rfl⟩ := rd_int (c := c) h2
    obtain ⟨i3, rfl⟩ := rd_int (c := d) h3
    refine ⟨⟨s.data.toList, i1, i2, i3⟩, ?_, hs⟩
    simp only [encVar, VRels]
    exact ⟨_, _, rfl, str_rel, _, _, rfl, by simp [VRel], _, _, rfl, by simp [VRel], _, _, rfl, by simp [VRel], rfl⟩
theorem rdWeight {n : Nat} {cs : List Value} {x : DataW H × List MemPlace} (h : DataW.trod enc Tryz.prog w base (fun _ => true) held n 155 cs = some x) : ∃ v : Weight, VRels (KW w) (encWeight v) cs ∧ True := by
  obtain ⟨m, rfl, hl, hf⟩ := rd_field Tryz.underlying155 h
  rw [k155] at hl
  match cs, hl with
  | [a, b, c, d], _ =>
    obtain ⟨y0, h0⟩ := hf 0 _ rfl
    obtain ⟨y1, h1⟩ := hf 1 _ rfl
    obtain ⟨y2, h2⟩ := hf 2 _ rfl
    obtain ⟨y3, h3⟩ := hf 3 _ rfl
    have h0 : DataW.trod enc Tryz.prog w base (fun _ => true) held m 3 (List.take (Tryz.prog.cellsOf 3) (List.drop 0 [a, b, c, d])) = some y0 := h0
    rw [k3] at h0
    have h1 : DataW.trod enc Tryz.prog w base (fun _ => true) held m 3 (List.take (Tryz.prog.cellsOf 3) (List.drop 1 [a, b, c, d])) = some y1 := h1
    rw [k3] at h1
    have h2 : DataW.trod enc Tryz.prog w base (fun _ => true) held m 3 (List.take (Tryz.prog.cellsOf 3) (List.drop 2 [a, b, c, d])) = some y2 := h2
    rw [k3] at h2
    have h3 : DataW.trod enc Tryz.prog w base (fun _ => true) held m 4 (List.take (Tryz.prog.cellsOf 4) (List.drop 3 [a, b, c, d])) = some y3 := h3
    rw [k4] at h3
    obtain ⟨i0, rfl⟩ := rd_int (c := a) h0
    obtain ⟨i1, rfl⟩ := rd_int (c := b) h1
    obtain ⟨i2, rfl⟩ := rd_int (c := c) h2
    obtain ⟨i3, rfl⟩ := rd_bool (c := d) h3
    refine ⟨⟨i0, i1, i2, i3⟩, ?_, trivial⟩
    simp [VRels, VRel]
theorem rdDist {n : Nat} {cs : List Value} {x : DataW H × List MemPlace} (h : DataW.trod enc Tryz.prog w base (fun _ => true) held n 118 cs = some x) : ∃ v : Dist, VRels (KW w) (encDist v) cs ∧ Fits v.weights := by
  obtain ⟨m, rfl, hl, hf⟩ := rd_field Tryz.underlying118 h
  rw [k118] at hl
  match cs, hl with
  | [a, b], _ =>
    obtain ⟨y0, h0⟩ := hf 0 _ rfl
    obtain ⟨y1, h1⟩ := hf 1 _ rfl
    have h0 : DataW.trod enc Tryz.prog w base (fun _ => true) held m 3 (List.take (Tryz.prog.cellsOf 3) (List.drop 0 [a, b])) = some y0 := h0
    rw [k3] at h0
    have h1 : DataW.trod enc Tryz.prog w base (fun _ => true) held m 66 (List.take (Tryz.prog.cellsOf 66) (List.drop 1 [a, b])) = some y1 := h1
    rw [k66] at h1
    obtain ⟨i0, rfl⟩ := rd_int (c := a) h0
    have h1' : DataW.trod enc Tryz.prog w base (fun _ => true) held m 66 [b] = some y1 := h1
    cases m with
    | zero => simp [DataW.trod] at h1'
    | succ m =>
      obtain ⟨l, v, e, hv, hfl, _⟩ := rd_slice (en := encWeight) (good := fun _ => True) Tryz.underlying66 k155 (by omega) (fun y => by simp [AV.atom]) (fun cs x h => rdWeight h) h1'
      cases e
      refine ⟨⟨i0, l⟩, ?_, hfl⟩
      simp only [encDist, VRels, VRel]
      exact ⟨_, _, rfl, rfl, _, [], rfl, by simpa only [VRel] using hv, rfl⟩
theorem rdInts {n : Nat} {cs : List Value} {x : DataW H × List MemPlace} (h : DataW.trod enc Tryz.prog w base (fun _ => true) held n 28 cs = some x) : ∃ l : List Int, VRels (KW w) (encInts l) cs ∧ Fits l := by
  cases n with
  | zero => simp [DataW.trod] at h
  | succ m =>
    obtain ⟨l, v, rfl, hv, hfl, _⟩ := rd_slice (en := encInt) (good := fun _ => True) Tryz.underlying28 k3 (by omega) (fun y => by simp [AV.atom]) (fun cs x h => by
      obtain ⟨i, e, _⟩ := DataW.trod_int Tryz.underlying3 h
      exact ⟨i, by rw [e]; simp [VRels, VRel], trivial⟩) h
    refine ⟨l, ?_, hfl⟩
    simp only [encInts, VRels]
    exact ⟨v, [], rfl, hv, rfl⟩

theorem rdE : ∀ (N n : Nat), n ≤ N → ∀ {cs : List Value} {x : DataW H × List MemPlace}, DataW.trod enc Tryz.prog w base (fun _ => true) held n 55 cs = some x → ∃ e : Ex, VRels (KW w) (encE e) cs ∧ Wen e := by
  intro N
  induction N with
  | zero =>
    intro n hn cs x h
    have : n = 0 := by omega
    subst this
    simp [DataW.trod] at h
  | succ N ih =>
    intro n hn cs x h
    obtain ⟨m, rfl, hl, hf⟩ := rd_field Tryz.underlying55 h
    rw [k55] at hl
    match cs, hl with
    | [a, b, c, d], _ =>
      obtain ⟨y0, h0⟩ := hf 0 _ rfl
      obtain ⟨y1, h1⟩ := hf 1 _ rfl
      obtain ⟨y2, h2⟩ := hf 2 _ rfl
      obtain ⟨y3, h3⟩ := hf 3 _ rfl
      have h0 : DataW.trod enc Tryz.prog w base (fun _ => true) held m 3 (List.take (Tryz.prog.cellsOf 3) (List.drop 0 [a, b, c, d])) = some y0 := h0
      rw [k3] at h0
      have h1 : DataW.trod enc Tryz.prog w base (fun _ => true) held m 3 (List.take (Tryz.prog.cellsOf 3) (List.drop 1 [a, b, c, d])) = some y1 := h1
      rw [k3] at h1
      have h2 : DataW.trod enc Tryz.prog w base (fun _ => true) held m 9 (List.take (Tryz.prog.cellsOf 9) (List.drop 2 [a, b, c, d])) = some y2 := h2
      rw [k9] at h2
      have h3 : DataW.trod enc Tryz.prog w base (fun _ => true) held m 32 (List.take (Tryz.prog.cellsOf 32) (List.drop 3 [a, b, c, d])) = some y3 := h3
      rw [k32] at h3
      obtain ⟨i0, rfl⟩ := rd_int (c := a) h0
      obtain ⟨i1, rfl⟩ := rd_int (c := b) h1
      obtain ⟨s, rfl, hs⟩ := rd_str (c := c) h2
      have h3' : DataW.trod enc Tryz.prog w base (fun _ => true) held m 32 [d] = some y3 := h3
      cases m with
      | zero => simp [DataW.trod] at h3'
      | succ m =>
        obtain ⟨l, v, e, hv, hfl, hg⟩ := rd_slice (en := encE) (good := Wen) Tryz.underlying32 k55 (by omega) (fun y => by rw [encE_eq]; simp [AV.atom]) (fun cs x h => ih m (by omega) h) h3'
        cases e
        refine ⟨.mk i0 i1 s.data.toList l, ?_, ?_⟩
        · rw [encE_eq]
          simp only [VRels, Ex.op_mk, Ex.n_mk, Ex.name_mk, Ex.args_mk]
          exact ⟨_, _, rfl, by simp [VRel], _, _, rfl, by simp [VRel], _, _, rfl, str_rel, _, [], rfl, hv, rfl⟩
        · intro y hy
          rw [pre_eq] at hy
          rcases List.mem_cons.1 hy with rfl | hy
          · exact ⟨hfl, hs⟩
          · obtain ⟨a, ha, hya⟩ := mem_preL.1 hy
            exact hg a ha y hya

theorem rdP {n : Nat} {cs : List Value} {x : DataW H × List MemPlace} (h : DataW.trod enc Tryz.prog w base (fun _ => true) held n 36 cs = some x) : ∃ p : Problem, VRels (KW w) (encP p) cs ∧ VH p := by
  obtain ⟨m, rfl, hl, hf⟩ := rd_field Tryz.underlying36 h
  rw [k36] at hl
  match cs, hl with
  | [a, b, c, d, e], _ =>
    obtain ⟨y0, h0⟩ := hf 0 _ rfl
    obtain ⟨y1, h1⟩ := hf 1 _ rfl
    obtain ⟨y2, h2⟩ := hf 2 _ rfl
    obtain ⟨y3, h3⟩ := hf 3 _ rfl
    obtain ⟨y4, h4⟩ := hf 4 _ rfl
    have h0 : DataW.trod enc Tryz.prog w base (fun _ => true) held m 31 (List.take (Tryz.prog.cellsOf 31) (List.drop 0 [a, b, c, d, e])) = some y0 := h0
    rw [k31] at h0
    have h1 : DataW.trod enc Tryz.prog w base (fun _ => true) held m 32 (List.take (Tryz.prog.cellsOf 32) (List.drop 1 [a, b, c, d, e])) = some y1 := h1
    rw [k32] at h1
    have h2 : DataW.trod enc Tryz.prog w base (fun _ => true) held m 32 (List.take (Tryz.prog.cellsOf 32) (List.drop 2 [a, b, c, d, e])) = some y2 := h2
    rw [k32] at h2
    have h3 : DataW.trod enc Tryz.prog w base (fun _ => true) held m 33 (List.take (Tryz.prog.cellsOf 33) (List.drop 3 [a, b, c, d, e])) = some y3 := h3
    rw [k33] at h3
    have h4 : DataW.trod enc Tryz.prog w base (fun _ => true) held m 34 (List.take (Tryz.prog.cellsOf 34) (List.drop 4 [a, b, c, d, e])) = some y4 := h4
    rw [k34] at h4
    have h0' : DataW.trod enc Tryz.prog w base (fun _ => true) held m 31 [a] = some y0 := h0
    have h1' : DataW.trod enc Tryz.prog w base (fun _ => true) held m 32 [b] = some y1 := h1
    have h2' : DataW.trod enc Tryz.prog w base (fun _ => true) held m 32 [c] = some y2 := h2
    have h3' : DataW.trod enc Tryz.prog w base (fun _ => true) held m 33 [d] = some y3 := h3
    have h4' : DataW.trod enc Tryz.prog w base (fun _ => true) held m 34 [e] = some y4 := h4
    cases m with
    | zero => simp [DataW.trod] at h0'
    | succ m =>
      obtain ⟨l0, v0, e0, r0, f0, g0⟩ := rd_slice (en := encVar) (good := fun v => Fits v.name) Tryz.underlying31 k65 (by omega) (fun y => by simp [AV.atom]) (fun cs x h => rdVar h) h0'
      obtain ⟨l1, v1, e1, r1, f1, g1⟩ := rd_slice (en := encE) (good := Wen) Tryz.underlying32 k55 (by omega) (fun y => by rw [encE_eq]; simp [AV.atom]) (fun cs x h => rdE m m (Nat.le_refl _) h) h1'
      obtain ⟨l2, v2, e2, r2, f2, g2⟩ := rd_slice (en := encE) (good := Wen) Tryz.underlying32 k55 (by omega) (fun y => by rw [encE_eq]; simp [AV.atom]) (fun cs x h => rdE m m (Nat.le_refl _) h) h2'
      obtain ⟨l3, v3, e3, r3, f3, g3⟩ := rd_slice (en := encDist) (good := fun d => Fits d.weights) Tryz.underlying33 k118 (by omega) (fun y => by simp [AV.atom]) (fun cs x h => rdDist h) h3'
      obtain ⟨l4, v4, e4, r4, f4, g4⟩ := rd_slice (en := encInts) (good := fun g => Fits g) Tryz.underlying34 k28 (by omega) (fun y => by simp [AV.atom]) (fun cs x h => rdInts h) h4'
      cases e0; cases e1; cases e2; cases e3; cases e4
      refine ⟨⟨l0, l1, l2, l3, l4⟩, ?_, ⟨g0, fun e he => ?_, f3, g3, f4, g4⟩⟩
      · simp only [encP, VRels]
        exact ⟨_, _, rfl, r0, _, _, rfl, r1, _, _, rfl, r2, _, _, rfl, r3, _, _, rfl, r4, rfl⟩
      · rcases List.mem_append.1 he with he | he
        · exact g1 e he
        · exact g2 e he
end
end Go.Proofs.YtpgcmnabljandaaGreatDoor
end

section
/-
  Valid, Bits and Random: the law's function returns true for every input.
-/
set_option linter.unusedVariables false
set_option linter.unusedSimpArgs false
set_option maxRecDepth 100000
namespace Go.Proofs.YtpgcmnabljandaaGreatDoor
open Go Go.Abs Go.ChangeShapes Go.WideShapes Go.ChangeAt Go.RowKit

theorem ownTryz : ownKnob Tryz.prog.godebug = none := by kernel_rfl
theorem laidOutTryz : laidOutB Tryz.prog = true := by kernel_rfl
theorem gKeyw : Tryz.prog.globalNamed "testbench/lexer.keywords" = some 0 := by kernel_rfl
theorem tKeyw : (Tryz.prog.globals[0]?).map (·.type) = some 23 := by kernel_rfl

/-- A list of texts that reads as a known one. -/
theorem rd_strs {H : Type} {enc : TypeId × Value → H} {w : World} {base : Nat} {held : Bool} {n : Nat} {cs : List Value} {p : List MemPlace} {K : List Str}
    (h : DataW.trod enc Tryz.prog w base (fun _ => true) held n 23 cs = some (.slice (K.map fun k => .lit (.string k)) [], p)) (hK : K ≠ []) :
    ∃ v, cs = [v] ∧ VRel (KW w) (.sl 1 (K.map encStr) .none) v := by
  have hs : ∀ (m : Nat) (cs : List Value) (x : DataW H × List MemPlace), DataW.trod enc Tryz.prog w base (fun _ => true) held m 9 cs = some x → ∃ k : Str, VRels (KW w) (encStr k) cs ∧ x.1 = .lit (.string k) := by
    intro m cs x h
    obtain ⟨s, rfl, rfl, _⟩ := DataW.trod_string Tryz.underlying9 h
    refine ⟨s.data.toList, ?_, rfl⟩
    simp only [encStr, VRels]
    exact ⟨_, [], rfl, str_rel, rfl⟩
  rcases DataW.trod_slice Tryz.underlying23 h with ⟨_, e⟩ | ⟨a, len, cap, elems, rest, m, hm, rfl, e, hb, hl, hc, hlen, hel', hsp, _⟩
  · simp at e
  simp only [Prod.mk.injEq, DataW.slice.injEq] at e
  obtain ⟨⟨e1, e2⟩, _⟩ := e
  have hlK : len = K.length := by rw [← hlen]; have := congrArg List.length e1; simpa using this.symm
  have hK0 : 0 < K.length := List.length_pos_iff.2 hK
  rw [k9] at hel'
  have one : ∀ i (hi : i < K.length), ∃ cs', w.cells? base (a.add (i * 1)) 1 = some cs' ∧ VRels (KW w) (encStr K[i]) cs' := by
    intro i hi
    have hh := hel' i (by omega)
    rw [List.getElem?_eq_getElem (by omega)] at hh
    obtain ⟨cs', h1, h2⟩ := Option.bind_eq_some_iff.1 hh
    obtain ⟨k, h3, h4⟩ := hs m cs' _ h2
    refine ⟨cs', h1, ?_⟩
    have e3 : (elems.map (·.1))[i]? = (K.map fun k => (DataW.lit (.string k) : DataW H))[i]? := by rw [e1]
    rw [List.getElem?_map, List.getElem?_map, List.getElem?_eq_getElem (by omega), List.getElem?_eq_getElem hi] at e3
    simp only [Option.map_some, Option.some.injEq] at e3
    rw [h4] at e3
    have e4 : k = K[i] := by simpa using e3
    rw [← e4]; exact h3
  have spot : a.spot = none := by
    obtain ⟨cs', h1, _⟩ := one 0 hK0
    rw [Nat.zero_mul] at h1
    obtain ⟨_, hlen', hc'⟩ := World.cells?_some h1
    have := hc' 0 (by omega)
    rw [List.getElem?_eq_getElem (by omega)] at this
    cases hs : a.spot with
    | none => rfl
    | some s =>
      simp only [Addr.add, if_true] at this
      unfold World.cell? at this
      rw [hs] at this
      split at this <;> simp at this
  obtain ⟨b, o, s⟩ := a
  simp only at spot
  subst spot
  refine ⟨_, rfl, ?_⟩
  simp only [VRel]
  refine .inr ⟨b, o, cap, by simp [hlK], by simp; omega, RowsAt.intro b 1 _ o fun i r e => ?_, trivial⟩
  rw [List.getElem?_map, Option.map_eq_some_iff] at e
  obtain ⟨k, hk, rfl⟩ := e
  obtain ⟨hi, hk'⟩ := List.getElem?_eq_some_iff.1 hk
  obtain ⟨cs', h1, h2⟩ := one i hi
  rw [hk'] at h2
  obtain ⟨_, hlen', hc'⟩ := World.cells?_some h1
  obtain ⟨g1, g2⟩ := VRels.get h2
  refine ⟨rfl, rfl, CellsAt.intro b _ _ fun j z hz => ?_⟩
  have hj : j = 0 := by
    have := (List.getElem?_eq_some_iff.1 hz).1
    simp at this
    exact this
  subst hj
  obtain ⟨v, hv1, hv2⟩ := g2 0 z hz
  refine ⟨v, ?_, hv2⟩
  have := hc' 0 (by omega)
  rw [hv1] at this
  show w.cell? ⟨b, o + i * 1 + 0, none⟩ = some v
  rw [← this]
  congr 1
  simp only [Addr.add, if_true]
  by_cases hi0 : i * 1 = 0
  · rw [if_pos hi0, hi0]; simp
  · rw [if_neg hi0]; simp

abbrev laid5 : List (String × DataW Unit) := Rows.elabValidsRow.laid
/-- What the condition gives: the keywords. -/
theorem of_laid {W : World} (h : laidMetH Tryz.prog laid5 W) : VRel (KW W) (.rptr [.sl 1 (keyw.map encStr) .none]) (.pointer (some ⟨0, 0, none⟩)) := by
  rw [MakeChecks.laidMetH_plain _ _ _ (by kernel_rfl)] at h
  obtain ⟨ps, ⟨g0, t0, cs0, f0, p0, q0, _, _, _, _, ⟨g1, t1, cs1, f1, p1, q1, _, _, _, _, ⟨g2, t2, cs2, f2, p2, q2, _, _, _, _, ⟨g3, t3, cs3, f3, p3, q3, hg, ht, hv, hd, _, _⟩, _⟩, _⟩, _⟩, _, _⟩ := h
  obtain rfl := Option.some.inj (gKeyw.symm.trans hg)
  obtain rfl := Option.some.inj (tKeyw.symm.trans ht)
  obtain ⟨v, e, hr⟩ := rd_strs (K := keyw) hd (by decide)
  have hcell : W.cell? ⟨0, 0, none⟩ = some v := by
    have := World.var?_cell hg hv 0
    rw [Array.eq_one_of_toList e] at this
    simpa using this
  have hgoal : VRel (KW W) (.rptr [.sl 1 (keyw.map encStr) .none]) (.pointer (some ⟨0, 0, none⟩)) := by
    unfold VRel
    refine ⟨0, 0, rfl, ?_⟩
    unfold CellsAt
    exact ⟨⟨v, hcell, hr⟩, by unfold CellsAt; trivial⟩
  exact hgoal
end Go.Proofs.YtpgcmnabljandaaGreatDoor
end

section
/-
  Valid, Bits and Random return the specified results: the law's function returns true for every input, and each argument reads afterwards as it read before. No condition.
-/
set_option linter.unusedVariables false
set_option linter.unusedSimpArgs false
namespace Go.Proofs.YtpgcmnabljandaaGreatDoor
open Go Go.Abs Go.ChangeShapes Go.WideShapes Go.ChangeAt Go.RowKit

theorem door_met (os : Os) (args : Array Value) : laidMetH Tryz.prog laid5 ((World.doorLaid Tryz.prog 400 os).forCall (fun _ _ => 0) ⟨#[], args, []⟩).memory :=
  laidMetH_of_parts3 (fuel := 8) (laidMet_of_run' 8 (by kernel_rfl) (by kernel_rfl)) (by kernel_rfl) (by kernel_rfl)

/-- A reading of the arguments stays, behind a call that wrote nothing of before. -/
theorem args_stay {H : Type} {enc : TypeId × Value → H} {W W' : World} {v : Value} {d : DataW H} {ps : List MemPlace} {sp : Nat → Bool} (h : DataW.Trod enc Tryz.prog W 0 (fun _ => true) true 36 v d ps) (hb : Below W.heap.size W W') (hlt : ∀ x ∈ ps, x.block < W.heap.size) (hs : ∀ p ∈ ps, sp p.block = true) :
    DataW.Trod enc Tryz.prog W' 0 sp true 36 v d ps :=
  WideElems.Trod_stays laidOutTryz (by kernel_rfl) (of_decide_eq_true (by kernel_rfl)) h (fun x hx => hb.same (hlt x hx)) hs

set_option maxRecDepth 100000 in
theorem lifted5 (os : Os) (started : os.Started) (H : Type) (enc : TypeId × Value → H) :
    ReturnsInHanded {} Tryz.checked os 5 .any (fun w args => (Rows.elabValidsSpec.pre enc Tryz.prog Tryz.f5 [] false w args ∧ laidMetH Tryz.prog laid5 w) ∧ sizedMet enc Tryz.prog Tryz.f5 (OpenSpec.ofChange Rows.elabValidsSpec) false w args)
      (Rows.elabValidsSpec.post enc Tryz.prog Tryz.f5 false true false false) := by
  refine returnsInHanded_of_change_and (C := Tryz.checked) (X := fun w _ => laidMetH Tryz.prog laid5 w) (fun _ _ _ hh h => h.of_heap hh) ownTryz started (by kernel_rfl) Tryz.func5
    (ChangeSpec.witness_shaped (enc := enc) (C := Tryz.checked) (os := os) (X := fun w _ => laidMetH Tryz.prog laid5 w) false (World.doorLaid Tryz.prog 400 os) #[.agg #[.slice none 0 0, .slice none 0 0, .slice none 0 0, .slice none 0 0, .slice none 0 0]] 8 rfl (World.shaped_of_RefB (by kernel_rfl) (by kernel_rfl)) (by kernel_rfl) (by kernel_rfl) (by kernel_rfl) (door_met os _)) ?_
  intro W base args ds gs before hval0 hW _ _ hL _
  have hval : ∀ (j : Nat) t v, Tryz.f5.params[j]? = some t → args[j]? = some v → Value.okWide Tryz.prog W .any base t v := hval0
  have hW' := hW
  obtain ⟨p, q, hA0, hV, rfl, hfz, hnd⟩ := hW
  have hA : DataW.TrodAll enc Tryz.prog W 0 (fun _ => true) true Tryz.f5.params.toList args.toList ds p := hA0
  rw [Tryz.params5] at hA hval
  obtain ⟨v0, d0, rfl, rfl, h0⟩ := trodAll_one hA
  obtain ⟨rfl, rfl⟩ := trodVars_none hV
  have hv0 := hval 0 36 v0 rfl rfl
  unfold Value.okWide at hv0
  rw [Tryz.underlying36] at hv0
  obtain ⟨cs, rfl, _, _⟩ := hv0
  have h0' := h0
  obtain ⟨fuel, hf⟩ := h0
  obtain ⟨pr, hrel, hvh⟩ := rdP hf
  have hpure := valids5 pr hvh
  have hglob : ∀ g, VRel (KW W) (GG g) (.pointer (some ⟨g, 0, none⟩)) := by
    intro g
    cases g with
    | zero => exact of_laid hL
    | succ g => simp only [GG, VRel]
  have hargs : VRels (KW W) [.agg (encP pr)] (#[Value.agg cs] : Array Value).toList := by
    unfold VRels
    refine ⟨.agg cs, [], rfl, ?_, by unfold VRels; rfl⟩
    unfold VRel
    exact ⟨cs, rfl, hrel⟩
  refine (hpure.2 W (roAll W) #[.agg cs] hglob (fun _ _ _ e => e) hargs).mono ?_
  rintro e W' ⟨v, ro', rfl, hb, _, _, _, hv⟩
  have hv1 : v = .bool true := by simpa only [VRel] using hv
  subst hv1
  have hW2 := hW'
  simp only [List.append_nil] at hW2
  have hlt : ∀ x ∈ p, x.block < W.heap.size := fun x hx => hW2.lt x hx
  refine ⟨_, rfl, [d0], [], p, [], p, [], hW2, ?_, ?_, ?_, hb.frame _, fun h => by cases h⟩
  · exact trodAll_mk1 (shut_bool Tryz.underlying4 true)
  · exact trodAll_mk1 (args_stay h0' hb hlt (fun x hx => by simpa using hlt x hx))
  · rfl

end Go.Proofs.YtpgcmnabljandaaGreatDoor
end
