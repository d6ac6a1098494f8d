/- A part of the proof. -/
import Derived.Test.YtpjdjolphpfanaaGreatDoorGa31
import Derived.Test.YtpjdjolphpfanaaGreatDoorGa44
import Derived.SizedLaws
set_option linter.unusedVariables false
set_option linter.unusedSimpArgs false
set_option maxRecDepth 100000
set_option linter.defProp false
section
namespace Go.Proofs.YtpjdjolphpfanaaGreatDoor
open Go Go.Abs

theorem restS_len (w : Int) (l : List Int) : (restS w l).length ≤ 2 ^ w.toNat := by
  unfold restS
  refine Nat.le_trans (List.length_filter_le _ _) ?_
  simp
theorem leftP_len {p : Problem} {c : List (List Int)} {v : Int} : Fits (leftP p c v) := by
  unfold leftP
  split
  · rename_i h
    split
    · rename_i x l hx hl
      split
      · have hw := wid28 (validC_spec h.1).1 x (List.mem_of_getElem? hx)
        have hp : (2 : Nat) ^ x.width.toNat ≤ 2 ^ 28 := Nat.pow_le_pow_right (by omega) (by omega)
        have h1 := restS_len x.width l
        have h2 := restS_len x.width []
        unfold leftS
        split
        · exact Nat.lt_of_le_of_lt (Nat.le_trans h2 hp) (by decide)
        · exact Nat.lt_of_le_of_lt (Nat.le_trans h1 hp) (by decide)
      · simp
    · simp
  · simp
theorem histories3 (p : Problem) (c : List (List Int)) (v : Int) (h : VM p) (hc : HC p c) : Pure Tryz.prog GG 3 [.agg (encP p), .agg (encCyc c), .int .i64 v] (.bool true) := by
  refine Pure.k mixed Tryz.func3 rfl (by kernel_rfl) ?_
  have hs := small15 p h
  have hf := few16 c hc.fits hc.each
  have ha := awakeF
  simp only [encP, encCy, encInts] at hs hf
  simp [-getElem?_pos]
  refine kCall.call (G := quiet GG) hs (by simp) ?_
  cases hsm : smallC p
  case false =>
    simp [-getElem?_pos, unA]
    refine kCall.call (G := quiet GG) ha (by simp) ?_
    simp [-getElem?_pos]
  simp [-getElem?_pos, unA]
  refine kCall.call (G := quiet GG) hf (by simp) ?_
  cases hfw : (decide (c.length ≤ 6) && (c.take 7).all fun l => decide (l.length ≤ 40))
  case false =>
    simp [-getElem?_pos, unA]
    refine kCall.call (G := quiet GG) ha (by simp) ?_
    simp [-getElem?_pos]
  have hvl : p.vars.length ≤ 5 := by
    simp only [smallC, Bool.and_eq_true, decide_eq_true_eq] at hsm
    exact hsm.1.1.1.1.1.1
  have he : exprsS p.hard = true ∧ exprsS p.soft = true := by
    simp only [smallC, Bool.and_eq_true] at hsm
    exact ⟨hsm.1.1.1.2, hsm.1.1.2⟩
  have hgl : p.groups.length ≤ 5 := by
    simp only [smallC, Bool.and_eq_true, decide_eq_true_eq] at hsm
    exact hsm.1.1.1.1.2
  have hq := h.q hvl he.1 he.2
  have k19 := start19 p (by omega)
  have k20 := start20 p (by omega)
  have k18 := same18 (List.replicate p.vars.length []) (List.replicate p.vars.length []) (by simp; omega) (by simp; omega) (fun l hl => by rw [(List.mem_replicate.1 hl).2]; simp) (fun l hl => by rw [(List.mem_replicate.1 hl).2]; simp)
  have k21 := valid21 p c hq hc
  have k22 := valid22 p c hq (h.flat hgl) hc
  have k24 := left24 p c v hq hc
  have k25 := left25 p c v hq (h.flat hgl) hc
  have hfl : Fits (leftP p c v) := leftP_len
  have k23 := numbers23 (leftP p c v) (leftP p c v) hfl hfl
  simp only [encP, encCy, encCyc, encInts] at k19 k20 k18 k21 k22 k24 k25
  generalize List.replicate p.vars.length ([] : List Int) = reps at k19 k20 k18
  generalize leftP p c v = L at k23 k24 k25
  simp [-getElem?_pos, unA]
  refine kCall.call (G := quiet GG) k19 (by simp) ?_
  simp [-getElem?_pos]
  refine kCall.call (G := quiet GG) k20 (by simp) ?_
  simp [-getElem?_pos]
  refine kCall.call (G := quiet GG) k18 (by simp) ?_
  simp [-getElem?_pos]
  refine kCall.call (G := quiet GG) k21 (by simp) ?_
  simp [-getElem?_pos]
  refine kCall.call (G := quiet GG) k22 (by simp) ?_
  simp [-getElem?_pos]
  refine kCall.call (G := quiet GG) k24 (by simp) ?_
  simp [-getElem?_pos]
  refine kCall.call (G := quiet GG) k25 (by simp) ?_
  simp [-getElem?_pos]
  refine kCall.call (G := quiet GG) k23 (by simp) ?_
  simp [-getElem?_pos]
  refine kCall.call (G := quiet GG) ha (by simp) ?_
  simp [-getElem?_pos]
section
section
variable {H : Type} {enc : TypeId × Value → H} {w : World} {base : Nat} {held : Bool}

theorem rd_field {fs : Array Field} {t n : Nat} {cs : List Value} {x : DataW H × List MemPlace} (ht : Tryz.prog.underlying t = some (.struct fs)) (h : DataW.trod enc Tryz.prog w base (fun _ => true) held n t cs = some x) :
    ∃ m, n = m + 1 ∧ cs.length = Tryz.prog.cellsOf t ∧ ∀ (i : Nat) (f : Field), fs[i]? = some f → ∃ y, DataW.trod enc Tryz.prog w base (fun _ => true) held m f.type ((cs.drop f.offset).take (Tryz.prog.cellsOf f.type)) = some y := by
  obtain ⟨xs, m, rfl, rfl, hl, hlen, hf⟩ := DataW.trod_struct ht h
  refine ⟨m, rfl, hl, fun i f hi => ?_⟩
  have hlt : i < fs.size := (Array.getElem?_eq_some_iff.1 hi).1
  exact ⟨xs[i]'(by omega), by rw [hf i f hi, List.getElem?_eq_getElem]⟩

theorem rd_fieldX {fs : Array Field} {t n : Nat} {cs : List Value} {x : DataW H × List MemPlace} (ht : Tryz.prog.underlying t = some (.struct fs)) (h : DataW.trod enc Tryz.prog w base (fun _ => true) held n t cs = some x) :
    ∃ m, n = m + 1 ∧ cs.length = Tryz.prog.cellsOf t ∧ (∀ (i : Nat) (f : Field), fs[i]? = some f → ∃ y, DataW.trod enc Tryz.prog w base (fun _ => true) held m f.type ((cs.drop f.offset).take (Tryz.prog.cellsOf f.type)) = some y) ∧
      ∀ (i : Nat) (f : Field), fs[i]? = some f → ∀ y, DataW.trod enc Tryz.prog w base (fun _ => true) held m f.type ((cs.drop f.offset).take (Tryz.prog.cellsOf f.type)) = some y → ∃ xs : List (DataW H × List MemPlace), x.1 = .agg (xs.map (·.1)) ∧ xs.length = fs.size ∧ xs[i]? = some y := by
  obtain ⟨xs, m, rfl, rfl, hl, hlen, hf⟩ := DataW.trod_struct ht h
  refine ⟨m, rfl, hl, fun i f hi => ?_, fun i f hi y hy => ⟨xs, rfl, hlen, ?_⟩⟩
  · have hlt : i < fs.size := (Array.getElem?_eq_some_iff.1 hi).1
    exact ⟨xs[i]'(by omega), by rw [hf i f hi, List.getElem?_eq_getElem]⟩
  · rw [← hf i f hi, hy]

theorem k3 : Tryz.prog.cellsOf 3 = 1 := by kernel_rfl
theorem k4 : Tryz.prog.cellsOf 4 = 1 := by kernel_rfl
theorem k9 : Tryz.prog.cellsOf 9 = 1 := by kernel_rfl
theorem k37 : Tryz.prog.cellsOf 37 = 1 := by kernel_rfl
theorem k22 : Tryz.prog.cellsOf 22 = 1 := by kernel_rfl
theorem k23 : Tryz.prog.cellsOf 23 = 1 := by kernel_rfl
theorem k24 : Tryz.prog.cellsOf 24 = 1 := by kernel_rfl
theorem k25 : Tryz.prog.cellsOf 25 = 1 := by kernel_rfl
theorem k29 : Tryz.prog.cellsOf 29 = 1 := by kernel_rfl
theorem k27 : Tryz.prog.cellsOf 27 = 5 := by kernel_rfl
theorem k57 : Tryz.prog.cellsOf 59 = 4 := by kernel_rfl
theorem k50 : Tryz.prog.cellsOf 54 = 4 := by kernel_rfl
theorem k75 : Tryz.prog.cellsOf 41 = 1 := by kernel_rfl
theorem k77 : Tryz.prog.cellsOf 43 = 2 := by kernel_rfl
theorem k145 : Tryz.prog.cellsOf 89 = 4 := by kernel_rfl

theorem str_rel {s : ByteArray} : VRel (KMw w) (.str s.data.toList) (.string s) := by
  obtain ⟨d⟩ := s
  unfold VRel
  show Value.string ⟨d⟩ = Value.string ⟨d.toList.toArray⟩
  rw [Array.toArray_toList]

theorem rd_int {n : Nat} {c : Value} {y : DataW H × List MemPlace} (h : DataW.trod enc Tryz.prog w base (fun _ => true) held n 3 [c] = some y) : ∃ i : Int, c = .int .i64 i := by
  obtain ⟨i, e, _⟩ := DataW.trod_int Tryz.underlying3 h
  exact ⟨i, (List.cons.inj e).1⟩
theorem rd_bool {n : Nat} {c : Value} {y : DataW H × List MemPlace} (h : DataW.trod enc Tryz.prog w base (fun _ => true) held n 4 [c] = some y) : ∃ i : Bool, c = .bool i := by
  obtain ⟨i, e, _⟩ := DataW.trod_bool Tryz.underlying4 h
  exact ⟨i, (List.cons.inj e).1⟩
theorem rd_str {n : Nat} {c : Value} {y : DataW H × List MemPlace} (h : DataW.trod enc Tryz.prog w base (fun _ => true) held n 9 [c] = some y) : ∃ s : ByteArray, c = .string s ∧ Fits s.data.toList := by
  obtain ⟨s, e, _, hs⟩ := DataW.trod_string Tryz.underlying9 h
  refine ⟨s, (List.cons.inj e).1, ?_⟩
  have : s.data.toList.length = s.size := Array.length_toList
  rw [Fits, this]
  simp only [maxLen] at hs
  omega

theorem rdVar {n : Nat} {cs : List Value} {x : DataW H × List MemPlace} (h : DataW.trod enc Tryz.prog w base (fun _ => true) held n 54 cs = some x) : ∃ v : Var, VRels (KMw w) (encVar v) cs ∧ Fits v.name := by
  obtain ⟨m, rfl, hl, hf⟩ := rd_field Tryz.underlying54 h
  rw [k50] at hl
  match cs, hl with
  | [a, b, c, d], _ =>
    obtain ⟨y0, h0⟩ := hf 0 _ rfl
    obtain ⟨y1, h1⟩ := hf 1 _ rfl
    obtain ⟨y2, h2⟩ := hf 2 _ rfl
    obtain ⟨y3, h3⟩ := hf 3 _ rfl
    have h0 : DataW.trod enc Tryz.prog w base (fun _ => true) held m 9 (List.take (Tryz.prog.cellsOf 9) (List.drop 0 [a, b, c, d])) = some y0 := h0
    rw [k9] at h0
    have h1 : DataW.trod enc Tryz.prog w base (fun _ => true) held m 3 (List.take (Tryz.prog.cellsOf 3) (List.drop 1 [a, b, c, d])) = some y1 := h1
    rw [k3] at h1
    have h2 : DataW.trod enc Tryz.prog w base (fun _ => true) held m 3 (List.take (Tryz.prog.cellsOf 3) (List.drop 2 [a, b, c, d])) = some y2 := h2
    rw [k3] at h2
    have h3 : DataW.trod enc Tryz.prog w base (fun _ => true) held m 3 (List.take (Tryz.prog.cellsOf 3) (List.drop 3 [a, b, c, d])) = some y3 := h3
    rw [k3] at h3
    obtain ⟨s, rfl, hs⟩ := rd_str (c := a) h0
    obtain ⟨i1, rfl⟩ := rd_int (c := b) h1
    obtain ⟨i2, rfl⟩ := rd_int (c := c) h2
    obtain ⟨i3, rfl⟩ := rd_int (c := d) h3
    refine ⟨⟨s.data.toList, i1, i2, i3⟩, ?_, hs⟩
    simp only [encVar, VRels]
    exact ⟨_, _, rfl, str_rel, _, _, rfl, by simp [VRel], _, _, rfl, by simp [VRel], _, _, rfl, by simp [VRel], rfl⟩
theorem rdWeight {n : Nat} {cs : List Value} {x : DataW H × List MemPlace} (h : DataW.trod enc Tryz.prog w base (fun _ => true) held n 89 cs = some x) : ∃ v : Weight, VRels (KMw w) (encWeight v) cs ∧ True := by
  obtain ⟨m, rfl, hl, hf⟩ := rd_field Tryz.underlying89 h
  rw [k145] at hl
  match cs, hl with
  | [a, b, c, d], _ =>
    obtain ⟨y0, h0⟩ := hf 0 _ rfl
    obtain ⟨y1, h1⟩ := hf 1 _ rfl
    obtain ⟨y2, h2⟩ := hf 2 _ rfl
    obtain ⟨y3, h3⟩ := hf 3 _ rfl
    have h0 : DataW.trod enc Tryz.prog w base (fun _ => true) held m 3 (List.take (Tryz.prog.cellsOf 3) (List.drop 0 [a, b, c, d])) = some y0 := h0
    rw [k3] at h0
    have h1 : DataW.trod enc Tryz.prog w base (fun _ => true) held m 3 (List.take (Tryz.prog.cellsOf 3) (List.drop 1 [a, b, c, d])) = some y1 := h1
    rw [k3] at h1
    have h2 : DataW.trod enc Tryz.prog w base (fun _ => true) held m 3 (List.take (Tryz.prog.cellsOf 3) (List.drop 2 [a, b, c, d])) = some y2 := h2
    rw [k3] at h2
    have h3 : DataW.trod enc Tryz.prog w base (fun _ => true) held m 4 (List.take (Tryz.prog.cellsOf 4) (List.drop 3 [a, b, c, d])) = some y3 := h3
    rw [k4] at h3
    obtain ⟨i0, rfl⟩ := rd_int (c := a) h0
    obtain ⟨i1, rfl⟩ := rd_int (c := b) h1
    obtain ⟨i2, rfl⟩ := rd_int (c := c) h2
    obtain ⟨i3, rfl⟩ := rd_bool (c := d) h3
    refine ⟨⟨i0, i1, i2, i3⟩, ?_, trivial⟩
    simp [VRels, VRel]
theorem rdDist {n : Nat} {cs : List Value} {x : DataW H × List MemPlace} (h : DataW.trod enc Tryz.prog w base (fun _ => true) held n 43 cs = some x) : ∃ v : Dist, VRels (KMw w) (encDist v) cs ∧ Fits v.weights := by
  obtain ⟨m, rfl, hl, hf⟩ := rd_field Tryz.underlying43 h
  rw [k77] at hl
  match cs, hl with
  | [a, b], _ =>
    obtain ⟨y0, h0⟩ := hf 0 _ rfl
    obtain ⟨y1, h1⟩ := hf 1 _ rfl
    have h0 : DataW.trod enc Tryz.prog w base (fun _ => true) held m 3 (List.take (Tryz.prog.cellsOf 3) (List.drop 0 [a, b])) = some y0 := h0
    rw [k3] at h0
    have h1 : DataW.trod enc Tryz.prog w base (fun _ => true) held m 41 (List.take (Tryz.prog.cellsOf 41) (List.drop 1 [a, b])) = some y1 := h1
    rw [k75] at h1
    obtain ⟨i0, rfl⟩ := rd_int (c := a) h0
    have h1' : DataW.trod enc Tryz.prog w base (fun _ => true) held m 41 [b] = some y1 := h1
    cases m with
    | zero => simp [DataW.trod] at h1'
    | succ m =>
      obtain ⟨l, v, e, hv, hfl, _⟩ := rd_slice (en := encWeight) (good := fun _ => True) Tryz.underlying41 k145 (by omega) (fun y => by simp [AV.atom]) (fun cs x h => rdWeight h) h1'
      cases e
      refine ⟨⟨i0, l⟩, ?_, hfl⟩
      simp only [encDist, VRels, VRel]
      exact ⟨_, _, rfl, rfl, _, [], rfl, by simpa only [VRel] using hv, rfl⟩
theorem rdInts {n : Nat} {cs : List Value} {x : DataW H × List MemPlace} (h : DataW.trod enc Tryz.prog w base (fun _ => true) held n 37 cs = some x) : ∃ l : List Int, VRels (KMw w) (encInts l) cs ∧ Fits l := by
  cases n with
  | zero => simp [DataW.trod] at h
  | succ m =>
    obtain ⟨l, v, rfl, hv, hfl, _⟩ := rd_slice (en := encInt) (good := fun _ => True) Tryz.underlying37 k3 (by omega) (fun y => by simp [AV.atom]) (fun cs x h => by
      obtain ⟨i, e, _⟩ := DataW.trod_int Tryz.underlying3 h
      exact ⟨i, by rw [e]; simp [VRels, VRel], trivial⟩) h
    refine ⟨l, ?_, hfl⟩
    simp only [encInts, VRels]
    exact ⟨v, [], rfl, hv, rfl⟩

theorem rdE : ∀ (N n : Nat), n ≤ N → ∀ {cs : List Value} {x : DataW H × List MemPlace}, DataW.trod enc Tryz.prog w base (fun _ => true) held n 59 cs = some x → ∃ e : Ex, VRels (KMw w) (encE e) cs ∧ Wen e := by
  intro N
  induction N with
  | zero =>
    intro n hn cs x h
    have : n = 0 := by omega
    subst this
    simp [DataW.trod] at h
  | succ N ih =>
    intro n hn cs x h
    obtain ⟨m, rfl, hl, hf⟩ := rd_field Tryz.underlying59 h
    rw [k57] at hl
    match cs, hl with
    | [a, b, c, d], _ =>
      obtain ⟨y0, h0⟩ := hf 0 _ rfl
      obtain ⟨y1, h1⟩ := hf 1 _ rfl
      obtain ⟨y2, h2⟩ := hf 2 _ rfl
      obtain ⟨y3, h3⟩ := hf 3 _ rfl
      have h0 : DataW.trod enc Tryz.prog w base (fun _ => true) held m 3 (List.take (Tryz.prog.cellsOf 3) (List.drop 0 [a, b, c, d])) = some y0 := h0
      rw [k3] at h0
      have h1 : DataW.trod enc Tryz.prog w base (fun _ => true) held m 3 (List.take (Tryz.prog.cellsOf 3) (List.drop 1 [a, b, c, d])) = some y1 := h1
      rw [k3] at h1
      have h2 : DataW.trod enc Tryz.prog w base (fun _ => true) held m 9 (List.take (Tryz.prog.cellsOf 9) (List.drop 2 [a, b, c, d])) = some y2 := h2
      rw [k9] at h2
      have h3 : DataW.trod enc Tryz.prog w base (fun _ => true) held m 23 (List.take (Tryz.prog.cellsOf 23) (List.drop 3 [a, b, c, d])) = some y3 := h3
      rw [k23] at h3
      obtain ⟨i0, rfl⟩ := rd_int (c := a) h0
      obtain ⟨i1, rfl⟩ := rd_int (c := b) h1
      obtain ⟨s, rfl, hs⟩ := rd_str (c := c) h2
      have h3' : DataW.trod enc Tryz.prog w base (fun _ => true) held m 23 [d] = some y3 := h3
      cases m with
      | zero => simp [DataW.trod] at h3'
      | succ m =>
        obtain ⟨l, v, e, hv, hfl, hg⟩ := rd_slice (en := encE) (good := Wen) Tryz.underlying23 k57 (by omega) (fun y => by rw [encE_eq]; simp [AV.atom]) (fun cs x h => ih m (by omega) h) h3'
        cases e
        refine ⟨.mk i0 i1 s.data.toList l, ?_, ?_⟩
        · rw [encE_eq]
          simp only [VRels, Ex.op_mk, Ex.n_mk, Ex.name_mk, Ex.args_mk]
          exact ⟨_, _, rfl, by simp [VRel], _, _, rfl, by simp [VRel], _, _, rfl, str_rel, _, [], rfl, hv, rfl⟩
        · intro y hy
          rw [pre_eq] at hy
          rcases List.mem_cons.1 hy with rfl | hy
          · exact ⟨hfl, hs⟩
          · obtain ⟨a, ha, hya⟩ := mem_preL.1 hy
            exact hg a ha y hya

theorem b3 : Tryz.prog.bytesOf 3 = 8 := by kernel_rfl
theorem w_all {P : Program} {e : TypeId} : ∀ {E : List (DataW H)} {d : DataW H}, d ∈ E → ∀ k ∈ d.weights P e, k ∈ DataW.weightsAll P e E
  | [], _, h, _, _ => nomatch h
  | a :: r, d, h, k, hk => by
    simp only [DataW.weightsAll, List.mem_append]
    rcases List.mem_cons.1 h with rfl | h
    · exact .inl hk
    · exact .inr (w_all h k hk)
/-- Lists of numbers, each of at most 2^44 of them. -/
theorem rdGroups {n : Nat} {cs : List Value} {x : DataW H × List MemPlace} (h : DataW.trod enc Tryz.prog w base (fun _ => true) held (n + 1) 25 cs = some x) (hw : ∀ k ∈ x.1.weights Tryz.prog 25, k ≤ reachBytes) :
    ∃ (l : List (List Int)) (v : Value), cs = [v] ∧ VRel (KMw w) (.sl 1 (l.map encInts) .none) v ∧ Fits l ∧ ∀ y ∈ l, Fits y ∧ y.length < 17592186044416 := by
  obtain ⟨l, v, h1, h2, h3, h4, _⟩ := rd_sliceX (en := encInts) (good := fun g => Fits g ∧ g.length < 17592186044416) (X := fun d => ∀ k ∈ d.weights Tryz.prog 37, k ≤ reachBytes) Tryz.underlying25 k37 (by omega) (fun y => by simp [AV.atom]) (fun cs x h hx => by
    cases n with
    | zero => simp [DataW.trod] at h
    | succ m =>
      obtain ⟨l, v, rfl, hv, hfl, _, hN⟩ := rd_sliceX (en := encInt) (good := fun _ => True) (X := fun _ => True) Tryz.underlying37 k3 (by omega) (fun y => by simp [AV.atom]) (fun cs x h _ => by
        obtain ⟨i, e, _⟩ := DataW.trod_int Tryz.underlying3 h
        exact ⟨i, by rw [e]; simp [VRels, VRel], trivial⟩) h (fun _ _ _ _ _ => trivial)
      refine ⟨l, ?_, hfl, ?_⟩
      · simp only [encInts, VRels]
        exact ⟨v, [], rfl, hv, rfl⟩
      · have := hN 17592186044415 fun E S e => by
          have := hx ((E.length + S.length) * Tryz.prog.bytesOf 3) (by rw [e]; simp only [DataW.weights, Tryz.underlying37]; exact List.mem_cons_self)
          rw [b3] at this
          simp only [reachBytes] at this
          omega
        omega) h (fun E S e d hd k hk => hw k (by
          rw [e]
          simp only [DataW.weights, Tryz.underlying25]
          exact List.mem_cons_of_mem _ (List.mem_append_left _ (w_all hd k hk))))
  exact ⟨l, v, h1, h2, h3, h4⟩
theorem rdC {p : Problem} {n : Nat} {cs : List Value} {x : DataW H × List MemPlace} (h : DataW.trod enc Tryz.prog w base (fun _ => true) held n 29 cs = some x) : ∃ c : List (List Int), VRels (KMw w) (encCyc c) cs ∧ HC p c := by
  obtain ⟨m, rfl, hl, hf⟩ := rd_field Tryz.underlying29 h
  rw [k29] at hl
  match cs, hl with
  | [a], _ =>
    obtain ⟨y0, h0⟩ := hf 0 _ rfl
    have h0 : DataW.trod enc Tryz.prog w base (fun _ => true) held m 25 (List.take (Tryz.prog.cellsOf 25) (List.drop 0 [a])) = some y0 := h0
    rw [k25] at h0
    have h0' : DataW.trod enc Tryz.prog w base (fun _ => true) held m 25 [a] = some y0 := h0
    cases m with
    | zero => simp [DataW.trod] at h0'
    | succ m =>
      obtain ⟨l0, v0, e0, r0, f0, g0⟩ := rd_slice (en := encInts) (good := fun g => Fits g) Tryz.underlying25 k37 (by omega) (fun y => by simp [AV.atom]) (fun cs x h => rdInts h) h0'
      cases e0
      refine ⟨l0, ?_, ⟨f0, g0⟩⟩
      simp only [encCyc, VRels]
      exact ⟨_, _, rfl, r0, rfl⟩
theorem rdP {n : Nat} {cs : List Value} {x : DataW H × List MemPlace} (h : DataW.trod enc Tryz.prog w base (fun _ => true) held n 27 cs = some x) (hw : ∀ k ∈ x.1.weights Tryz.prog 27, k ≤ reachBytes) : ∃ p : Problem, VRels (KMw w) (encP p) cs ∧ VM p := by
  have hx : ∀ y4, (∃ xs : List (DataW H × List MemPlace), x.1 = .agg (xs.map (·.1)) ∧ xs.length = 5 ∧ xs[4]? = some y4) → ∀ k ∈ y4.1.weights Tryz.prog 25, k ≤ reachBytes := by
    rintro y4 ⟨xs, e, hl, h4⟩ k hk
    refine hw k ?_
    rw [e]
    match xs, hl with
    | [a, b, c, d, e], _ =>
      simp at h4
      subst h4
      simp only [DataW.weights, Tryz.underlying27, List.map_cons, List.map_nil, DataW.weightsEach, List.mem_append]
      exact .inr (.inr (.inr (.inr (.inl hk))))
  obtain ⟨m, rfl, hl, hf, hy⟩ := rd_fieldX Tryz.underlying27 h
  rw [k27] at hl
  match cs, hl with
  | [a, b, c, d, e], _ =>
    obtain ⟨y0, h0⟩ := hf 0 _ rfl
    obtain ⟨y1, h1⟩ := hf 1 _ rfl
    obtain ⟨y2, h2⟩ := hf 2 _ rfl
    obtain ⟨y3, h3⟩ := hf 3 _ rfl
    obtain ⟨y4, h4⟩ := hf 4 _ rfl
    have h4w := hx y4 (hy 4 _ rfl y4 h4)
    have h0 : DataW.trod enc Tryz.prog w base (fun _ => true) held m 22 (List.take (Tryz.prog.cellsOf 22) (List.drop 0 [a, b, c, d, e])) = some y0 := h0
    rw [k22] at h0
    have h1 : DataW.trod enc Tryz.prog w base (fun _ => true) held m 23 (List.take (Tryz.prog.cellsOf 23) (List.drop 1 [a, b, c, d, e])) = some y1 := h1
    rw [k23] at h1
    have h2 : DataW.trod enc Tryz.prog w base (fun _ => true) held m 23 (List.take (Tryz.prog.cellsOf 23) (List.drop 2 [a, b, c, d, e])) = some y2 := h2
    rw [k23] at h2
    have h3 : DataW.trod enc Tryz.prog w base (fun _ => true) held m 24 (List.take (Tryz.prog.cellsOf 24) (List.drop 3 [a, b, c, d, e])) = some y3 := h3
    rw [k24] at h3
    have h4 : DataW.trod enc Tryz.prog w base (fun _ => true) held m 25 (List.take (Tryz.prog.cellsOf 25) (List.drop 4 [a, b, c, d, e])) = some y4 := h4
    rw [k25] at h4
    have h0' : DataW.trod enc Tryz.prog w base (fun _ => true) held m 22 [a] = some y0 := h0
    have h1' : DataW.trod enc Tryz.prog w base (fun _ => true) held m 23 [b] = some y1 := h1
    have h2' : DataW.trod enc Tryz.prog w base (fun _ => true) held m 23 [c] = some y2 := h2
    have h3' : DataW.trod enc Tryz.prog w base (fun _ => true) held m 24 [d] = some y3 := h3
    have h4' : DataW.trod enc Tryz.prog w base (fun _ => true) held m 25 [e] = some y4 := h4
    cases m with
    | zero => simp [DataW.trod] at h0'
    | succ m =>
      obtain ⟨l0, v0, e0, r0, f0, g0⟩ := rd_slice (en := encVar) (good := fun v => Fits v.name) Tryz.underlying22 k50 (by omega) (fun y => by simp [AV.atom]) (fun cs x h => rdVar h) h0'
      obtain ⟨l1, v1, e1, r1, f1, g1⟩ := rd_slice (en := encE) (good := Wen) Tryz.underlying23 k57 (by omega) (fun y => by rw [encE_eq]; simp [AV.atom]) (fun cs x h => rdE m m (Nat.le_refl _) h) h1'
      obtain ⟨l2, v2, e2, r2, f2, g2⟩ := rd_slice (en := encE) (good := Wen) Tryz.underlying23 k57 (by omega) (fun y => by rw [encE_eq]; simp [AV.atom]) (fun cs x h => rdE m m (Nat.le_refl _) h) h2'
      obtain ⟨l3, v3, e3, r3, f3, g3⟩ := rd_slice (en := encDist) (good := fun d => Fits d.weights) Tryz.underlying24 k77 (by omega) (fun y => by simp [AV.atom]) (fun cs x h => rdDist h) h3'
      obtain ⟨l4, v4, e4, r4, f4, g4⟩ := rdGroups h4' h4w
      cases e0; cases e1; cases e2; cases e3; cases e4
      refine ⟨⟨l0, l1, l2, l3, l4⟩, ?_, ⟨⟨g0, fun e he => ?_, f3, g3, f4, fun g hg => (g4 g hg).1⟩, f0, f1, f2, fun g hg => (g4 g hg).2⟩⟩
      · simp only [encP, VRels]
        exact ⟨_, _, rfl, r0, _, _, rfl, r1, _, _, rfl, r2, _, _, rfl, r3, _, _, rfl, r4, rfl⟩
      · rcases List.mem_append.1 he with he | he
        · exact g1 e he
        · exact g2 e he
end
end
end Go.Proofs.YtpjdjolphpfanaaGreatDoor
end
