/- A part of the proof. -/
import Derived.Test.YtpjdjolphpfanaaGreatDoorGa17
import Derived.Test.YtpjdjolphpfanaaGreatDoorGa18
import Derived.Test.YtpjdjolphpfanaaGreatDoorGa15
set_option linter.unusedVariables false
set_option linter.unusedSimpArgs false
set_option maxRecDepth 100000
set_option linter.defProp false
section
namespace Go.Proofs.YtpjdjolphpfanaaGreatDoor
open Go Go.Abs

@[simp] def encNd (n : Nd) : List AV := [.int .i64 n.1, .int .i64 n.2.1, .int .i64 n.2.2]
@[simp] theorem nrNd (l : List Nd) : noRefss (l.map encNd) = true := noRefss_map (fun x => by simp) l
@[simp] def encDag (d : List Nd) : List AV := [.sl 3 (d.map encNd) .none]

/-! ### Maps whose keys are nodes -/
def ndE (q : Nd × AV × Nat) : AV × AV × Nat := (.agg (encNd q.1), q.2.1, q.2.2)
theorem key_nd (a b : Nd) : keyEq (.agg (encNd a)) (.agg (encNd b)) = some (decide (a = b)) := by
  obtain ⟨a1, a2, a3⟩ := a
  obtain ⟨b1, b2, b3⟩ := b
  simp only [keyEq, encNd, cellsEq, plainEq, if_true]
  congr 1
  rw [Bool.eq_iff_iff]
  simp
  omega
theorem fit_nd (n : Nd) : mapKeyOk (Dof Tryz.prog) 193 (.agg (encNd n)) = true := by
  simp [mapKeyOk, flatT, plainT, plainTD, fitsAll, List.range_succ]
theorem nd_none {n : Nd} : ∀ (E : List (Nd × AV × Nat)) (s : Nat), (∀ q ∈ E, q.1 ≠ n) → findA (.agg (encNd n)) (E.map ndE) s = some none
  | [], _, _ => rfl
  | q :: E, s, h => by
    have h0 := h q (by simp)
    simp only [List.map_cons, ndE, findA, key_nd]
    have : decide (n = q.1) = false := by simpa using fun e => h0 e.symm
    rw [this]
    exact nd_none E (s + 1) fun x hx => h x (by simp [hx])
theorem nd_some {n : Nd} : ∀ (E : List (Nd × AV × Nat)) (s : Nat), (E.map (·.1)).Nodup → ∀ q ∈ E, q.1 = n → ∃ j, findA (.agg (encNd n)) (E.map ndE) s = some (some (s + j, q.2.1)) ∧ E[j]? = some q
  | [], _, _, q, hq, _ => by cases hq
  | e :: E, s, hn, q, hq, hqn => by
    simp only [List.map_cons, List.nodup_cons] at hn
    simp only [List.map_cons, ndE, findA, key_nd]
    by_cases h0 : n = e.1
    · have : decide (n = e.1) = true := by simpa using h0
      rw [this]
      rcases List.mem_cons.1 hq with rfl | hq
      · exact ⟨0, by simp, by simp⟩
      · exact absurd (List.mem_map.2 ⟨q, hq, by rw [hqn, h0]⟩) hn.1
    · have : decide (n = e.1) = false := by simpa using h0
      rw [this]
      rcases List.mem_cons.1 hq with rfl | hq
      · exact absurd hqn.symm h0
      · obtain ⟨j, h1, h2⟩ := nd_some E (s + 1) hn.2 q hq hqn
        exact ⟨j + 1, by simp only [h1]; congr 3; omega, by simpa using h2⟩

/-! ### New, Equal, ends, placed -/
theorem new202 : Pure Tryz.prog GG 123 [] (.agg (encDag [(20, 0, 0), (20, 1, 1)])) := by
  refine Pure.k mixed Tryz.func123 rfl (by kernel_rfl) ?_
  simp [buildA, fillA, stPlace, buildSliceA, rowsFill]
theorem eq_nd (a b : Nd) : eqAgg (Dof Tryz.prog) 193 (encNd a) (encNd b) = some (decide (a = b)) := by
  have := key_nd a b
  simp only [keyEq] at this
  simp [eqAgg, flatT, plainT, plainTD, fitsAll, List.range_succ]
  simpa using this
theorem equal382 (l : List Nd) (hl : Fits l) : Pure Tryz.prog GG 284 [.sl 3 (l.map encNd) .none, .sl 3 (l.map encNd) .none] (.bool true) := by
  refine Pure.k mixed Tryz.func284 rfl (by kernel_rfl) ?_
  simp
  refine kLoop.listR l (fun d ev σ => ev 0 = .sl 3 (l.map encNd) .none ∧ ev 1 = .sl 3 (l.map encNd) .none ∧ ev 12 = .int .i64 l.length ∧ ev 13 = .int .i64 d.length) ?_ ?_ ?_
  · simp
  · rintro d n rest ev σ R hR hd hx hlt ⟨e0, e1, e12, e13⟩
    have hdw : IntKind.i64.wrap ((d.length : Int) + 1) = (d.length + 1 : Nat) := by rw [wr (by omega) (by omega)]; omega
    have he := eq_nd n n
    simp only [encNd] at he
    simp [-getElem?_pos, e0, e1, e12, e13, hlt, hx, he, hdw]
    exact hR _ _ ⟨by simp [e0], by simp [e1], by simp [e12], by simp⟩
  · rintro ev σ ⟨e0, e1, e12, e13⟩
    simp [-getElem?_pos, e12, e13]
theorem ends297 (d : List Nd) (h : DagOk d) : Pure Tryz.prog GG 249 [.sl 3 (d.map encNd) .none] (.bool true) := by
  refine Pure.k mixed Tryz.func249 rfl (by kernel_rfl) ?_
  have h2 : (2 : Int) ≤ d.length := by have := h.two; omega
  have h3 : (d.length : Int) ≤ 8192 := by have := h.most; omega
  have ht : d.take 2 = [(20, 0, 0), (20, 1, 1)] := by
    have a := h.n0; have b := h.n1
    match d, a, b with
    | [], a, _ => cases a
    | [_], _, b => cases b
    | x :: y :: r, a, b => simp at a b; subst a b; rfl
  have he := equal382 [(20, 0, 0), (20, 1, 1)] (by simp)
  simp [h2, h3, sliceA, boundA, thirdA, sliceTok, ← List.map_take, ht]
  refine kCall.call new202 (by simp) ?_
  simp
  refine kCall.call he (by simp) ?_
  simp
theorem lvD_get {d : List Nd} {i : Nat} (h : i < d.length) : (d[i]).1 = lvD d i := by unfold lvD; rw [List.getElem?_eq_getElem h]
theorem placed298 (d : List Nd) (h : DagOk d) (i : Nat) (hi : 2 ≤ i) (hl : i < d.length) : Pure Tryz.prog GG 250 [.sl 3 (d.map encNd) .none, .int .i64 i] (.bool true) := by
  obtain ⟨n, hn⟩ : ∃ n, d[i]? = some n := ⟨_, List.getElem?_eq_getElem hl⟩
  obtain ⟨g1, g2, g3, g4, g5, g6⟩ := h.node i n hi hn
  obtain ⟨x, hx⟩ : ∃ x, d[n.2.1]? = some x := ⟨_, List.getElem?_eq_getElem (by omega)⟩
  obtain ⟨y, hy⟩ : ∃ y, d[n.2.2]? = some y := ⟨_, List.getElem?_eq_getElem (by omega)⟩
  rw [lvD_some hx] at g5
  rw [lvD_some hy] at g6
  refine Pure.k mixed Tryz.func250 rfl (by kernel_rfl) ?_
  have q1 : (n.1 : Int) < 20 := by omega
  have q2 : (n.2.1 : Int) < i := by omega
  have q3 : (n.2.2 : Int) < i := by omega
  have q4 : ¬ (n.2.1 : Int) = n.2.2 := by omega
  obtain ⟨a, b, c⟩ := n
  simp only at *
  have hm : ∀ v : Int, v = (if (y.1 : Int) < x.1 then (y.1 : Int) else x.1) → (a : Int) < v := by intro v hv; split at hv <;> omega
  simp [-getElem?_pos, hn, q1, q2, q3, q4, g4, hx, hy, min2A]
  split <;> omega

/-- The nodes of a list as a map's keys. -/
def seenE (d : List Nd) : List (Nd × AV × Nat) := (d.zipIdx).map fun q => (q.1, .bool true, q.2)
theorem seenE_snoc (d : List Nd) (n : Nd) : seenE (d ++ [n]) = seenE d ++ [(n, .bool true, d.length)] := by
  simp [seenE, List.zipIdx_append]
theorem seenE_fst (d : List Nd) : (seenE d).map (·.1) = d := by simp [seenE, List.map_map, Function.comp_def]
theorem seenE_not {d : List Nd} {n : Nd} (h : n ∉ d) : ∀ q ∈ seenE d, q.1 ≠ n := fun q hq e => h (by
  have : q.1 ∈ (seenE d).map (·.1) := List.mem_map.2 ⟨q, hq, rfl⟩
  rw [seenE_fst] at this
  exact e ▸ this)
set_option maxHeartbeats 2000000 in
theorem dvalid215 (d : List Nd) (h : DagOk d) : Pure Tryz.prog GG 202 [.agg (encDag d)] (.bool true) := by
  have hmost := h.most
  refine Pure.k mixed Tryz.func202 rfl (by kernel_rfl) ?_
  simp
  refine kCall.call (ends297 d h) (by simp) ?_
  simp
  refine kLoop.listR d (fun s ev σ => ev 1 = .ptr 0 0 ∧ ev 3 = .map 1 ∧ ev 12 = .sl 3 (d.map encNd) .none ∧ ev 13 = .int .i64 d.length ∧ ev 14 = .int .i64 s.length ∧ ∃ t, σ = ⟨.cells (encDag d) :: .map ((seenE s).map ndE) s.length :: t, []⟩) ?_ ?_ ?_
  · exact ⟨by simp, by simp, by simp, by simp, by simp, [], by simp [seenE]⟩
  · rintro s n rest ev σ R hR hd hx hlt ⟨e1, e3, e12, e13, e14, t, rfl⟩
    have hdw : IntKind.i64.wrap ((s.length : Int) + 1) = (s.length + 1 : Nat) := by rw [wr (by omega) (by omega)]; omega
    have hns : n ∉ s := by
      have := h.nodup
      rw [hd] at this
      intro hm
      exact (List.nodup_append.1 this).2.2 n hm n (by simp) rfl
    have hfind := nd_none (n := n) (seenE s) 0 (seenE_not hns)
    have hfit := fit_nd n
    have hlk : ∀ (T : List (Option Nat)) (u : List Blk), lookupA (Dof Tryz.prog) ⟨.cells (encDag d) :: .map ((seenE s).map ndE) s.length :: u, T⟩ 282 (.map 1) (.agg (encNd n)) false = some (.bool false) := by
      intro T u
      simp only [lookupA, D282, hfit, if_true]
      simp [-encNd, hfind, zeroA]
    have hup : ∀ (T : List (Option Nat)) (u : List Blk), mapUpdateA (Dof Tryz.prog) ⟨.cells (encDag d) :: .map ((seenE s).map ndE) s.length :: u, T⟩ 282 (.map 1) (.agg (encNd n)) (.bool true) = some ⟨.cells (encDag d) :: .map ((seenE (s ++ [n])).map ndE) (s.length + 1) :: u, T⟩ := by
      intro T u
      simp only [mapUpdateA, D282, hfit, if_true]
      simp [-encNd, hfind, seenE_snoc, ndE]
    simp only [encNd] at hlk hup
    have hgo : ∀ (ev' : Env) (u : List Blk), ev' 1 = .ptr 0 0 → ev' 3 = .map 1 → ev' 12 = .sl 3 (d.map encNd) .none → ev' 13 = .int .i64 d.length → ev' 14 = .int .i64 (s.length + 1 : Nat) → R ev' ⟨.cells (encDag d) :: .map ((seenE (s ++ [n])).map ndE) (s.length + 1) :: u, []⟩ :=
      fun ev' u a1 a2 a3 a4 a5 => hR _ _ ⟨a1, a2, a3, a4, by simpa using a5, u, by simp⟩
    simp only [encDag] at hlk hup hgo
    by_cases h2 : 2 ≤ s.length
    · have h2' : (2 : Int) ≤ s.length := by omega
      simp [-getElem?_pos, e1, e3, e12, e13, e14, hlt, hx, h2']
      refine kCall.call (placed298 d h s.length h2 hlt) (by simp) ?_
      simp [-getElem?_pos, e1, e3, e12, e13, e14, hlk, hup, hdw]
      exact hgo _ _ (by simp [e1]) (by simp [e3]) (by simp [e12]) (by simp [e13]) (by simp)
    · have h2' : ¬ (2 : Int) ≤ s.length := by omega
      simp [-getElem?_pos, e1, e3, e12, e13, e14, hlt, hx, h2', hlk, hup, hdw]
      exact hgo _ _ (by simp [e1]) (by simp [e3]) (by simp [e12]) (by simp [e13]) (by simp)
  · rintro ev σ ⟨e1, e3, e12, e13, e14, t, rfl⟩
    simp [-getElem?_pos, e13, e14]

theorem isLevel467 (n : Int) : Pure Tryz.prog GG 300 [.int .i64 n] (.bool (decide (0 ≤ n) && decide (n < 20))) := by
  refine Pure.k mixed Tryz.func300 rfl (by kernel_rfl) ?_
  by_cases h : 0 ≤ n <;> simp [h]
theorem has365 (d : List Nd) (h : DagOk d) (l : List Nat) (hl : l.length ≤ 100) (hi : ∀ i ∈ l, i < d.length) (tok : Tok) : Pure Tryz.prog GG 218 [.agg (encDag d), .sl 1 (l.map fun i : Nat => [.int .i64 i]) .none] (.bool true) := by
  refine Pure.k mixed Tryz.func218 rfl (by kernel_rfl) ?_
  simp
  refine kCall.call (dvalid215 d h) (by simp) ?_
  simp
  refine kLoop.listR l (fun s ev σ => ev 1 = .sl 1 (l.map fun i : Nat => [.int .i64 i]) .none ∧ ev 2 = .ptr 0 0 ∧ ev 10 = .sl 1 (l.map fun i : Nat => [.int .i64 i]) .none ∧ ev 11 = .int .i64 l.length ∧ ev 12 = .int .i64 s.length ∧ σ = ⟨[.cells (encDag d)], []⟩) ?_ ?_ ?_
  · simp
  · rintro s i rest ev σ R hR hd hx hlt ⟨e1, e2, e10, e11, e12, rfl⟩
    have hdw : IntKind.i64.wrap ((s.length : Int) + 1) = (s.length + 1 : Nat) := by rw [wr (by omega) (by omega)]; omega
    have h1 := hi i (List.mem_of_getElem? hx)
    have h2 : ¬ (i : Int) < 0 := by omega
    have h3 : (i : Int) < d.length := by omega
    simp [-getElem?_pos, e1, e2, e10, e11, e12, hlt, hx, h1, h3, hdw]
    exact hR _ _ ⟨by simp [e1], by simp [e2], by simp [e10], by simp [e11], by simp, rfl⟩
  · rintro ev σ ⟨e1, e2, e10, e11, e12, rfl⟩
    simp [-getElem?_pos, e11, e12]

/-- A builder as a callee sees it that changes nothing. -/
def frzB (d : List Nd) (full : Bool) : AV := .rptr [.sl 3 (d.map encNd) .none, .any, .bool full]
theorem half429 (d : List Nd) (full one : Bool) (f L : Nat) (hf : f < d.length) : Pure Tryz.prog GG 265 [frzB d full, .int .i64 f, .int .i64 L, .bool one] (.int .i64 (halfD d f L one : Nat)) := by
  obtain ⟨n, hn⟩ : ∃ n, d[f]? = some n := ⟨_, List.getElem?_eq_getElem hf⟩
  refine Pure.k mixed Tryz.func265 rfl (by kernel_rfl) ?_
  generalize hr : halfD d f L one = r
  unfold halfD at hr
  rw [hn] at hr
  simp only at hr
  by_cases hl : n.1 = L
  · rw [if_pos hl] at hr
    have hl' : (n.1 : Int) = L := by omega
    cases one
    · simp at hr
      subst hr
      simp [-getElem?_pos, frzB, hn, hl']
    · simp at hr
      subst hr
      simp [-getElem?_pos, frzB, hn, hl']
  · rw [if_neg hl] at hr
    subst hr
    have hl' : ¬ (n.1 : Int) = L := by omega
    simp [-getElem?_pos, frzB, hn, hl']

/-- Blocks that stay, all but some. -/
def KpL (bs : List Nat) (H H' : List Blk) : Prop := H.length ≤ H'.length ∧ ∀ (k : Nat) (x : Blk), H[k]? = some x → k ∉ bs → H'[k]? = some x
theorem KpL.refl {bs : List Nat} {H : List Blk} : KpL bs H H := ⟨Nat.le_refl _, fun _ _ h _ => h⟩
theorem KpL.trans {bs : List Nat} {H H' H'' : List Blk} (h : KpL bs H H') (h' : KpL bs H' H'') : KpL bs H H'' := ⟨Nat.le_trans h.1 h'.1, fun k x hk h1 => h'.2 k x (h.2 k x hk h1) h1⟩
theorem KpL.app {bs : List Nat} {H t : List Blk} : KpL bs H (H ++ t) := ⟨by simp, fun k x hk _ => look_app hk t⟩
theorem KpL.set {bs : List Nat} {H : List Blk} {b : Nat} {y : Blk} (hb : b ∈ bs) : KpL bs H (H.set b y) := ⟨by simp, fun k x hk hn => by
  rw [List.getElem?_set_ne (by rintro rfl; exact hn hb)]; exact hk⟩
theorem KpL.sub {bs cs : List Nat} {H H' : List Blk} (h : KpL bs H H') (hs : ∀ b ∈ bs, b ∈ cs) : KpL cs H H' := ⟨h.1, fun k x hk hn => h.2 k x hk fun hb => hn (hs k hb)⟩
theorem KpL.setF {bs : List Nat} {H H' : List Blk} {b : Nat} {y : Blk} (h : KpL bs H H') (hb : H.length ≤ b) : KpL bs H (H'.set b y) := ⟨by rw [List.length_set]; exact h.1, fun k x hk hn => by
  have := (List.getElem?_eq_some_iff.1 hk).1
  rw [List.getElem?_set_ne (by omega)]; exact h.2 k x hk hn⟩

/-- The map of a builder. -/
def atE (d : List Nd) : List (Nd × AV × Nat) := d.zipIdx.map fun q => (q.1, .int .i64 q.2, q.2)
/-- A builder in the state. -/
structure BR (B M t : Nat) (d : List Nd) (full : Bool) (σ : St) : Prop where
  b : σ.H[B]? = some (.cells [.sl 3 (d.map encNd) (.chain t d.length), .map M, .bool full])
  m : σ.H[M]? = some (.map ((atE d).map ndE) d.length)
  t : σ.T[t]? = some (some d.length)
theorem BR.ne {B M t : Nat} {d : List Nd} {full : Bool} {σ : St} (h : BR B M t d full σ) : B ≠ M := by
  rintro rfl
  have := h.b
  rw [h.m] at this
  cases this
theorem BR.keep {B M t : Nat} {d : List Nd} {full : Bool} {H H' : List Blk} {T : List (Option Nat)} {bs : List Nat} (h : BR B M t d full ⟨H, T⟩) (hk : KpL bs H H') (hB : B ∉ bs) (hM : M ∉ bs) : BR B M t d full ⟨H', T⟩ := ⟨hk.2 _ _ h.b hB, hk.2 _ _ h.m hM, h.t⟩
theorem atE_fst (d : List Nd) : (atE d).map (·.1) = d := by simp [atE, List.map_map, Function.comp_def]
theorem atE_snoc (d : List Nd) (n : Nd) : atE (d ++ [n]) = atE d ++ [(n, .int .i64 d.length, d.length)] := by
  simp [atE, List.zipIdx_append]
theorem atE_not {d : List Nd} {n : Nd} (h : n ∉ d) : ∀ q ∈ atE d, q.1 ≠ n := fun q hq e => h (by
  have : q.1 ∈ (atE d).map (·.1) := List.mem_map.2 ⟨q, hq, rfl⟩
  rw [atE_fst] at this
  exact e ▸ this)
theorem atE_mem {d : List Nd} {n : Nd} {i : Nat} (h : d[i]? = some n) : (n, AV.int .i64 i, i) ∈ atE d := by
  refine List.mem_map.2 ⟨(n, i), ?_, rfl⟩
  exact List.mem_zipIdx_iff_getElem?.2 h

theorem short104 : ∀ (k : Nat) (e : Ex), (∀ x ∈ pre e, Fits x.args) → k ≤ 100 → Pure Tryz.prog GG 25 [.agg (encE e), .int .i64 k] (.bool (shortS e k)) := by
  intro k
  induction k with
  | zero =>
    intro e hfa _
    refine Pure.k mixed Tryz.func25 rfl (by kernel_rfl) ?_
    simp only [encE_eq e]
    simp [-getElem?_pos, shortS]
  | succ k ih =>
    intro e hpa hk
    have hfa : Fits e.args := hpa e (by rw [pre_eq]; simp)
    refine Pure.k mixed Tryz.func25 rfl (by kernel_rfl) ?_
    have hk0 : ¬ ((k + 1 : Nat) : Int) = 0 := by omega
    simp only [encE_eq e]
    have hkw : IntKind.i64.wrap (((k + 1 : Nat) : Int) - 1) = k := by rw [show ((k + 1 : Nat) : Int) - 1 = k by omega]; exact wr (by omega) (by omega)
    by_cases hl : e.args.length ≤ 40
    · have hl' : ¬ (40 : Int) < e.args.length := by omega
      simp [-getElem?_pos, -Int.natCast_add, hk0, hl']
      rw [← encE_eq e]
      obtain ⟨r, hr⟩ : ∃ r, r = shortS e (k + 1) := ⟨_, rfl⟩
      rw [← hr]
      refine kLoop.list e.args (fun d env σ => env 1 = .int .i64 (k + 1 : Nat) ∧ env 2 = .ptr 0 0 ∧ env 5 = .int .i64 d.length ∧ σ = ⟨[.cells (encE e)], []⟩ ∧ (d.all fun a => shortS a k) = true) ?_ ?_ ?_
      · simp
      · rintro d v s env σ hd hv hlt ⟨h1, h2, h5, rfl, hall⟩
        have hw := wr (n := (d.length : Int) + 1) (by omega) (by omega)
        simp [-getElem?_pos, -Int.natCast_add, h1, h2, h5, encE_eq e, hlt, hv, encE_eq v, hkw]
        rw [← encE_eq v]
        have hm := List.mem_of_getElem? hv
        refine kCall.call (G := quiet GG) (ih v (fun x hx => hpa x (by rw [pre_eq]; exact List.mem_cons_of_mem _ (mem_preL.2 ⟨v, hm, hx⟩))) (by omega)) (by simp) ?_
        cases hs : shortS v k
        · have : r = false := by
            rw [hr, Bool.eq_false_iff]
            intro h
            simp only [shortS, Bool.and_eq_true, List.all_eq_true] at h
            have := h.2 v hm
            rw [hs] at this; cases this
          simp [-getElem?_pos, -Int.natCast_add, h1, h2, h5, unA, this]
        · simp [-getElem?_pos, -Int.natCast_add, h1, h2, h5, unA, hw, hs]
          simpa using hall
      · rintro env σ ⟨h1, h2, h5, rfl, hall⟩
        have : r = true := by rw [hr]; simp only [shortS, hall, Bool.and_true, decide_eq_true_eq]; exact hl
        simp [-getElem?_pos, -Int.natCast_add, h1, h2, h5, encE_eq e, this]
    · have hl' : (40 : Int) < e.args.length := by omega
      simp [-getElem?_pos, -Int.natCast_add, hk0, hl', shortS, hl]

/-- The numbers of a width. -/
def numsW (w : Int) : List Int := (List.range (2 ^ w.toNat)).map fun n : Nat => (n : Int)
theorem numsW_len (w : Int) : (numsW w).length = 2 ^ w.toNat := by simp [numsW]
theorem numsW_get {w : Int} {d r : List Int} {v : Int} (h : numsW w = d ++ v :: r) : v = d.length := by
  have h1 : (numsW w)[d.length]? = some v := by rw [h]; simp
  unfold numsW at h1
  rw [List.getElem?_map] at h1
  obtain ⟨m, hm, e⟩ := Option.map_eq_some_iff.1 h1
  obtain ⟨_, hm⟩ := List.getElem?_eq_some_iff.1 hm
  simp at hm
  omega
theorem shl_one {w : Int} (h0 : 0 ≤ w) (h1 : w ≤ 28) : IntKind.i64.wrap (2 ^ (min w.toNat 64)) = ((2 ^ w.toNat : Nat) : Int) := by
  have e : min w.toNat 64 = w.toNat := by omega
  have hp : (2 : Nat) ^ w.toNat ≤ 2 ^ 28 := Nat.pow_le_pow_right (by omega) (by omega)
  rw [e, show ((2 : Int) ^ w.toNat) = ((2 ^ w.toNat : Nat) : Int) by simp]
  generalize 2 ^ w.toNat = N at hp
  exact wr (by omega) (by omega)
theorem app37 (s : List Int) (n : Int) (hs : s.length < 2 ^ 30) : appendA (Dof Tryz.prog) ⟨[], outCT [] s⟩ 37 (outC 1 encInt 0 s) (.sl 1 [[.int .i64 n]] .tight) = some (outC 1 encInt 0 (s ++ [n]), ⟨[], outCT [] (s ++ [n])⟩) :=
  append_outC (D := Dof Tryz.prog) (sz := 1) (T := []) (H := []) (m := [n]) (en := encInt) D37 rfl D3 rfl (by decide) rfl (by decide) (by simp only [List.length_singleton]; omega) 1 (.inl rfl)
theorem filter_snoc {α : Type} (p : α → Bool) (d : List α) (v : α) : (d ++ [v]).filter p = if p v then d.filter p ++ [v] else d.filter p := by
  rw [List.filter_append]
  cases h : p v <;> simp [h]
def notIn (l : List Int) (n : Int) : Bool := !(l.any (n == ·))
def UnJ (N : Nat) (l d : List Int) (env : Env) (σ : St) : Prop :=
  env 1 = .sl 1 (l.map encInt) .none ∧ env 5 = outC 1 encInt 0 (d.filter (notIn l)) ∧ env 8 = .int .i64 N ∧ env 9 = .int .i64 d.length ∧ σ = ⟨[], outCT [] (d.filter (notIn l))⟩
theorem unused57 (w : Int) (h0 : 0 ≤ w) (h1 : w ≤ 28) (l : List Int) (hl : Fits l) : Pure Tryz.prog GG 23 [.int .i64 w, .sl 1 (l.map encInt) .none] (.sl 1 ((restS w l).map encInt) .none) := by
  refine Pure.k mixed Tryz.func23 rfl (by kernel_rfl) ?_
  have hp : (2 : Nat) ^ w.toNat ≤ 2 ^ 28 := Nat.pow_le_pow_right (by omega) (by omega)
  have hs := shl_one h0 h1
  have hw0 : ¬ w < 0 := by omega
  have hlen := numsW_len w
  have hrest : restS w l = (numsW w).filter (notIn l) := rfl
  rw [hrest]
  have hget : ∀ {d r : List Int} {v : Int}, numsW w = d ++ v :: r → v = d.length := numsW_get
  generalize hN : 2 ^ w.toNat = N at hp hs hlen
  simp [-getElem?_pos, hw0, IntKind.bits, hs]
  generalize numsW w = nums at hlen hget
  refine kLoop.list nums (UnJ N l) ?_ ?_ ?_
  · simp [UnJ]
  · rintro d v r env σ hd hv hlt ⟨e1, e5, e8, e9, rfl⟩
    have hvd := hget hd
    subst hvd
    have hlt' : d.length < N := by omega
    have hw := wr (n := (d.length : Int) + 1) (by omega) (by omega)
    simp [-getElem?_pos, e1, e5, e8, e9, hlt']
    refine kCall.call (G := quiet GG) (contains264 GG l d.length hl) (by simp) ?_
    have hfs := filter_snoc (notIn l) d (d.length : Int)
    have hfl : (d.filter (notIn l)).length < 2 ^ 30 := Nat.lt_of_le_of_lt (List.length_filter_le _ _) (by omega)
    cases hc : l.any fun x => (d.length : Int) == x
    · have hni : notIn l d.length = true := by unfold notIn; rw [hc]; rfl
      rw [if_pos hni] at hfs
      simp [-getElem?_pos, e1, e5, e8, e9, unA, hc, app37 _ _ hfl, hw]
      simp [UnJ, hfs, e1, e8]
    · have hni : notIn l d.length = false := by unfold notIn; rw [hc]; rfl
      rw [hni] at hfs
      simp only [Bool.false_eq_true, if_false] at hfs
      simp [-getElem?_pos, e1, e5, e8, e9, unA, hc, hw]
      simp [UnJ, hfs, e1, e5, e8]
  · rintro env σ ⟨e1, e5, e8, e9, rfl⟩
    rw [hlen] at e9
    simp [-getElem?_pos, -fin, -fin1, -fin2, e1, e5, e8, e9]
theorem has116 (l : List Int) (n : Int) (hl : Fits l) : Pure Tryz.prog GG 48 [.sl 1 (l.map encInt) .none, .int .i64 n] (.bool (l.any (n == ·))) := by
  refine Pure.k mixed Tryz.func48 rfl (by kernel_rfl) ?_
  simp [-getElem?_pos]
  obtain ⟨r, hr⟩ : ∃ r, r = l.any (n == ·) := ⟨_, rfl⟩
  rw [← hr]
  refine kLoop.list l (fun d env σ => env 0 = .sl 1 (l.map encInt) .none ∧ env 1 = .int .i64 n ∧ env 5 = .int .i64 d.length ∧ σ = ⟨[], []⟩ ∧ (d.any (n == ·)) = false) ?_ ?_ ?_
  · simp
  · rintro d v s env σ hd hv hlt ⟨e0, e1, e5, rfl, hn⟩
    have hw := wr (n := (d.length : Int) + 1) (by omega) (by omega)
    have hm := List.mem_of_getElem? hv
    by_cases hvn : v = n
    · have : r = true := by rw [hr, List.any_eq_true]; exact ⟨v, hm, by simp [hvn]⟩
      simp [-getElem?_pos, e0, e1, e5, hlt, hv, hvn, this]
    · have h2 : (n == v) = false := by simp; omega
      simp [-getElem?_pos, e0, e1, e5, hlt, hv, hvn, hw]
      exact ⟨by simpa using hn, by omega⟩
  · rintro env σ ⟨e0, e1, e5, rfl, hn⟩
    have : r = false := by rw [hr]; exact hn
    simp [-getElem?_pos, e0, e1, e5, this]
theorem shl_u {w : Int} (h0 : 0 ≤ w) (h1 : w ≤ 28) : IntKind.u64.wrap w = w := by
  unfold IntKind.wrap
  simp [IntKind.bits, IntKind.signed]
  omega
def RestJ (w : Int) (l d : List Int) (p : Int → Bool) (env : Env) (σ : St) : Prop :=
  env 0 = .sl 1 (l.map encInt) .none ∧ env 1 = .int .i64 w ∧ env 5 = outC 1 encInt 0 (d.filter p) ∧ env 6 = .int .i64 d.length ∧ σ = ⟨[], outCT [] (d.filter p)⟩
theorem rest58 (w : Int) (h0 : 0 ≤ w) (h1 : w ≤ 28) (l : List Int) (hl : Fits l) : Pure Tryz.prog GG 24 [.sl 1 (l.map encInt) .none, .int .i64 w] (.sl 1 ((restR w l).map encInt) .none) := by
  refine Pure.k mixed Tryz.func24 rfl (by kernel_rfl) ?_
  have hp : (2 : Nat) ^ w.toNat ≤ 2 ^ 28 := Nat.pow_le_pow_right (by omega) (by omega)
  have hs := shl_one h0 h1
  have hu := shl_u h0 h1
  have hw0 : ¬ w < 0 := by omega
  have hlen := numsW_len w
  obtain ⟨p, hpp⟩ : ∃ p : Int → Bool, p = fun n => decide (l.length = 2 ^ w.toNat) || !(l.any (n == ·)) := ⟨_, rfl⟩
  have hrest : restR w l = (numsW w).filter p := by rw [hpp]; rfl
  rw [hrest]
  have hget : ∀ {d r : List Int} {v : Int}, numsW w = d ++ v :: r → v = d.length := numsW_get
  generalize hN : 2 ^ w.toNat = N at hp hs hlen hpp
  generalize numsW w = nums at hlen hget
  simp [-getElem?_pos]
  refine kLoop.list nums (fun d => RestJ w l d p) ?_ ?_ ?_
  · simp [RestJ]
  · rintro d v r env σ hd hv hlt ⟨e0, e1, e5, e6, rfl⟩
    have hvd := hget hd
    subst hvd
    have hlt' : d.length < N := by omega
    have hw := wr (n := (d.length : Int) + 1) (by omega) (by omega)
    have hfs := filter_snoc p d (d.length : Int)
    have hfl : (d.filter p).length < 2 ^ 30 := Nat.lt_of_le_of_lt (List.length_filter_le _ _) (by omega)
    by_cases hlN : l.length = N
    · have hpt : p d.length = true := by rw [hpp]; simp [hlN]
      rw [if_pos hpt] at hfs
      simp [-getElem?_pos, e0, e1, e5, e6, hlt', hw0, IntKind.bits, hs, hu, convA, hlN, app37 _ _ hfl, hw]
      simp [RestJ, hfs, e0, e1]
    · have hlN' : ¬ (l.length : Int) = N := by omega
      simp [-getElem?_pos, e0, e1, e5, e6, hlt', hw0, IntKind.bits, hs, hu, convA, hlN]
      refine ⟨fun _ => ?_, fun h => absurd h hlN'⟩
      refine kCall.call (G := quiet GG) (has116 l d.length hl) (by simp) ?_
      cases hc : l.any fun x => (d.length : Int) == x
      · have hpt : p d.length = true := by rw [hpp]; simp [hlN]; simpa using hc
        rw [if_pos hpt] at hfs
        simp [-getElem?_pos, e0, e1, e5, e6, unA, app37 _ _ hfl, hw]
        simp [RestJ, hfs, e0, e1]
      · have hpt : p d.length = false := by rw [hpp]; simp only [hlN, decide_false, Bool.false_or, hc, Bool.not_true]
        rw [hpt] at hfs
        simp only [Bool.false_eq_true, if_false] at hfs
        simp [-getElem?_pos, e0, e1, e5, e6, unA, hw]
        simp [RestJ, hfs, e0, e1, e5]
  · rintro env σ ⟨e0, e1, e5, e6, rfl⟩
    rw [hlen] at e6
    simp [-getElem?_pos, -fin, -fin1, -fin2, e0, e1, e5, e6, hw0, IntKind.bits, hs, hu, convA]

@[simp] def encCyc (c : List (List Int)) : List AV := [.sl 1 (c.map encInts) .none]
theorem okL_take {w : Int} {l : List Int} : okL w l = true ↔ ∀ k n, l[k]? = some n → okN w (l.take k) n = true := by
  simp only [okL, List.all_eq_true, List.mem_range]
  constructor
  · intro h k n e
    have hk := (List.getElem?_eq_some_iff.1 e).1
    have := h k hk
    rwa [List.getD_eq_getElem?_getD, e] at this
  · intro h k hk
    have := h k l[k] (List.getElem?_eq_getElem hk)
    rwa [List.getD_eq_getElem?_getD, List.getElem?_eq_getElem hk]
theorem fits_iff {vs : List Var} {c : List (List Int)} (hl : c.length = vs.length) : fitsS vs c = true ↔ ∀ (k : Nat) (v : Var) (l : List Int), vs[k]? = some v → c[k]? = some l → okV v l = true := by
  simp only [fitsS, hl, decide_true, Bool.true_and, List.all_eq_true]
  constructor
  · intro h k v l h1 h2
    exact h (v, l) (List.mem_of_getElem? (i := k) (by rw [List.getElem?_zip_eq_some]; exact ⟨h1, h2⟩))
  · rintro h ⟨v, l⟩ hm
    obtain ⟨k, hk⟩ := List.getElem?_of_mem hm
    rw [List.getElem?_zip_eq_some] at hk
    exact h k v l hk.1 hk.2
def FitJ (p : Problem) (c : List (List Int)) (n : Nat) (env : Env) (σ : St) : Prop :=
  env 2 = .ptr 0 0 ∧ env 3 = .ptr 1 0 ∧ env 18 = .sl 1 (c.map encInts) .none ∧ env 19 = .int .i64 c.length ∧ env 20 = .int .i64 n ∧ ∃ H, σ = ⟨H, []⟩ ∧ H[0]? = some (.cells (encP p)) ∧ H[1]? = some (.cells (encCyc c))
theorem fits55 (p : Problem) (c : List (List Int)) (hv : Fits p.vars) (hc : Fits c) (hcl : ∀ l ∈ c, Fits l) (hw : ∀ v ∈ p.vars, 0 ≤ v.width ∧ v.width ≤ 28) :
    Pure Tryz.prog GG 21 [.agg (encP p), .agg (encCyc c)] (.bool (fitsS p.vars c)) := by
  refine Pure.k mixed Tryz.func21 rfl (by kernel_rfl) ?_
  by_cases hlen : c.length = p.vars.length
  case neg =>
    have h1 : ¬ (c.length : Int) = p.vars.length := by omega
    have h2 : fitsS p.vars c = false := by simp [fitsS, hlen]
    simp [-getElem?_pos, h1, h2]
  have hlen' : (c.length : Int) = p.vars.length := by omega
  simp [-getElem?_pos, hlen']
  rw [← hlen']
  obtain ⟨r, hr⟩ : ∃ r, r = fitsS p.vars c := ⟨_, rfl⟩
  rw [← hr]
  refine kLoop.list c (fun d env σ => FitJ p c d.length env σ ∧ ∀ (k : Nat) (v : Var) (l : List Int), k < d.length → p.vars[k]? = some v → c[k]? = some l → okV v l = true) ?_ ?_ ?_
  · simp [FitJ]
  · rintro d l s env σ hd hl hlt ⟨⟨e2, e3, e18, e19, e20, H, rfl, H0, H1⟩, hall⟩
    have hlv : d.length < p.vars.length := by omega
    obtain ⟨v, hvv⟩ : ∃ v, p.vars[d.length]? = some v := ⟨_, List.getElem?_eq_getElem hlv⟩
    have hvm := List.mem_of_getElem? hvv
    have hwv := hw v hvm
    have hlm := List.mem_of_getElem? hl
    have hfl := hcl l hlm
    have hw1 := wr (n := (d.length : Int) + 1) (by omega) (by omega)
    have hbad : okV v l = false → r = false := by
      intro h
      rw [hr, Bool.eq_false_iff]
      intro h2
      have := (fits_iff hlen).1 h2 _ v l hvv hl
      rw [h] at this; cases this
    by_cases hm : v.mode = 2 ∨ l = []
    case neg =>
      have hm1 : ¬ v.mode = 2 := fun h => hm (.inl h)
      have hl0 : (0 : Int) < l.length := by have : l ≠ [] := fun h => hm (.inr h); have := List.length_pos_iff.2 this; omega
      have hb : r = false := hbad (by simp only [okV, Bool.and_eq_false_iff, Bool.or_eq_false_iff]; left; exact ⟨by simpa using hm1, by simpa using fun h => hm (.inr h)⟩)
      simp [-getElem?_pos, e2, e3, e18, e19, e20, H0, hlt, hl, hvv, hm1, hl0, hb, show ¬ l = [] from fun h => hm (.inr h)]
    have hnl : ¬ v.mode = 2 → l = [] := fun h => hm.resolve_left h
    have hHl : 1 < H.length := (List.getElem?_eq_some_iff.1 H1).1
    have hok : okL v.width l = true → okV v l = true := by
      intro h
      unfold okV
      rcases hm with hm | hm <;> simp [hm, h]
      rw [hm] at h; exact h
    have hnext : okV v l = true → ∀ (k : Nat) (v : Var) (l : List Int), k < d.length + 1 → p.vars[k]? = some v → c[k]? = some l → okV v l = true := by
      intro h k v' l' hk h1 h2
      by_cases hkd : k < d.length
      · exact hall k v' l' hkd h1 h2
      · obtain rfl : k = d.length := by omega
        rw [hvv] at h1; rw [hl] at h2
        cases h1; cases h2
        exact h
    by_cases h2 : v.mode = 2
    · simp [-getElem?_pos, e2, e3, e18, e19, e20, H0, hlt, hl, hvv, h2]
      have hs := shl_one hwv.1 hwv.2
      have hp : (2 : Nat) ^ v.width.toNat ≤ 2 ^ 28 := Nat.pow_le_pow_right (by omega) (by omega)
      have hw0 : ¬ v.width < 0 := by omega
      refine kLoop.list l (fun e env τ => FitJ p c d.length env τ ∧ env 6 = .sl 1 (l.map encInt) .none ∧ env 38 = .sl 1 (l.map encInt) .none ∧ env 39 = .int .i64 l.length ∧ env 40 = .int .i64 e.length ∧ (∃ b, env 7 = .ptr b 0 ∧ 1 < b ∧ τ.H[b]? = some (.cells (encVar v))) ∧ ∀ k n, k < e.length → l[k]? = some n → okN v.width (l.take k) n = true) ?_ ?_ ?_
      · refine ⟨⟨by simpa using e2, by simpa using e3, by simpa using e18, by simpa using e19, by simpa using e20, _, rfl, ?_, ?_⟩, by simp, by simp, by simp, by simp, ⟨H.length, by simp, by omega, ?_⟩, by simp⟩
        · rw [List.getElem?_append_left (by omega)]; exact H0
        · rw [List.getElem?_append_left (by omega)]; exact H1
        · simp [h2]
      · rintro e n s' env τ he hn hle ⟨⟨f2, f3, f18, f19, f20, H', rfl, H0', H1'⟩, f6, f38, f39, f40, ⟨b, f7, hb1, hb⟩, hk⟩
        have hwe := wr (n := (e.length : Int) + 1) (by omega) (by omega)
        simp only at hb
        have hbadn : okN v.width (l.take e.length) n = false → r = false := by
          intro h
          refine hbad ?_
          rw [Bool.eq_false_iff]
          intro h3
          have h4 : okL v.width l = true := by
            simp only [okV, Bool.and_eq_true] at h3; exact h3.2
          have := okL_take.1 h4 _ _ hn
          rw [h] at this; cases this
        by_cases n0 : n < 0
        · have hr0 : r = false := hbadn (by simp [okN]; omega)
          simp [-getElem?_pos, f2, f3, f6, f7, f18, f19, f20, f38, f39, f40, hle, hn, hb, n0, hr0]
        · by_cases n1 : n < 2 ^ v.width.toNat
          case neg =>
            have n1' : ((2 ^ v.width.toNat : Nat) : Int) ≤ n := by simp only [Int.natCast_pow, Int.cast_ofNat_Int]; omega
            have hr0 : r = false := hbadn (by simp [okN, n1])
            simp [-getElem?_pos, -Int.natCast_pow, f2, f3, f6, f7, f18, f19, f20, f38, f39, f40, hle, hn, hb, n0, hr0, hw0, IntKind.bits, hs, n1']
          have n1' : ¬ ((2 ^ v.width.toNat : Nat) : Int) ≤ n := by simp only [Int.natCast_pow, Int.cast_ofNat_Int]; omega
          simp [-getElem?_pos, -Int.natCast_pow, f2, f3, f6, f7, f18, f19, f20, f38, f39, f40, hle, hn, hb, n0, hw0, IntKind.bits, hs, n1', sliceA, boundA, thirdA, sliceTok, Int.le_of_lt (Int.ofNat_lt.2 hle)]
          rw [← List.map_take]
          refine kCall.call (G := quiet GG) (contains264 GG (l.take e.length) n (Nat.lt_of_le_of_lt (List.length_take_le' _ _) hfl)) (by simp [-List.map_take, noRefs, noRef]) ?_
          cases hany : (l.take e.length).any fun x => n == x
          · have hgn : okN v.width (l.take e.length) n = true := by simp only [okN, hany, Bool.not_false, Bool.and_true, n1, decide_true]; simpa using n0
            simp [-getElem?_pos, -Int.natCast_pow, f2, f3, f6, f7, f18, f19, f20, f38, f39, f40, hany, hwe]
            refine ⟨⟨by simpa using f2, by simpa using f3, by simpa using f18, by simpa using f19, by simpa using f20, H', rfl, H0', H1'⟩, ⟨hb1, by simpa using hb⟩, fun k n' hk' hn' => ?_⟩
            by_cases hke : k < e.length
            · exact hk k n' hke hn'
            · obtain rfl : k = e.length := by omega
              rw [hn] at hn'
              cases hn'
              exact hgn
          · have hr0 : r = false := hbadn (by simp only [okN, hany, Bool.not_true, Bool.and_false])
            simp [-getElem?_pos, -Int.natCast_pow, f2, f3, f6, f7, f18, f19, f20, f38, f39, f40, hany, hr0]
      · rintro env τ ⟨⟨f2, f3, f18, f19, f20, H', rfl, H0', H1'⟩, f6, f38, f39, f40, ⟨b, f7, hb1, hb⟩, hk⟩
        have hgood := hnext (hok (okL_take.2 fun k n e => hk k n (List.getElem?_eq_some_iff.1 e).1 e))
        simp [-getElem?_pos, f2, f3, f6, f7, f18, f19, f20, f38, f39, f40, hw1]
        exact ⟨⟨by simpa using f2, by simpa using f3, by simpa using f18, by simpa using f19, by simp, H', rfl, H0', H1'⟩, hgood⟩
    · obtain rfl := hnl h2
      simp [-getElem?_pos, e2, e3, e18, e19, e20, H0, hlt, hl, hvv, h2]
      refine kLoop.list ([] : List Int) (fun e env τ => FitJ p c d.length env τ ∧ env 39 = .int .i64 0 ∧ env 40 = .int .i64 0) ?_ ?_ ?_
      · refine ⟨⟨by simpa using e2, by simpa using e3, by simpa using e18, by simpa using e19, by simpa using e20, _, rfl, ?_, ?_⟩, by simp, by simp⟩
        · rw [List.getElem?_append_left (by omega)]; exact H0
        · rw [List.getElem?_append_left (by omega)]; exact H1
      · rintro e n s' env τ he; simp at he
      · rintro env τ ⟨⟨f2, f3, f18, f19, f20, H', rfl, H0', H1'⟩, f39, f40⟩
        have hgood := hnext (hok (by simp [okL]))
        simp [-getElem?_pos, f2, f3, f18, f19, f20, f39, f40, hw1]
        exact ⟨⟨by simpa using f2, by simpa using f3, by simpa using f18, by simpa using f19, by simp, H', rfl, H0', H1'⟩, hgood⟩
  · rintro env σ ⟨⟨e2, e3, e18, e19, e20, H, rfl, H0, H1⟩, hall⟩
    have : r = true := by
      rw [hr]
      exact (fits_iff hlen).2 fun k v l h1 h2 => hall k v l (List.getElem?_eq_some_iff.1 h2).1 h1 h2
    simp [-getElem?_pos, e2, e3, e18, e19, e20, this]

def FitR (p : Problem) (c : List (List Int)) (n : Nat) (env : Env) (σ : St) : Prop :=
  env 2 = .ptr 0 0 ∧ env 3 = .ptr 1 0 ∧ env 5 = .int .i64 n ∧ σ = ⟨[.cells (encP p), .cells (encCyc c)], []⟩
theorem fits56 (p : Problem) (c : List (List Int)) (hv : Fits p.vars) (hc : Fits c) (hcl : ∀ l ∈ c, Fits l) (hw : ∀ v ∈ p.vars, 0 ≤ v.width ∧ v.width ≤ 28) :
    Pure Tryz.prog GG 22 [.agg (encP p), .agg (encCyc c)] (.bool (fitsS p.vars c)) := by
  refine Pure.k mixed Tryz.func22 rfl (by kernel_rfl) ?_
  by_cases hlen : c.length = p.vars.length
  case neg =>
    have h1 : ¬ (c.length : Int) = p.vars.length := by omega
    have h2 : fitsS p.vars c = false := by simp [fitsS, hlen]
    simp [-getElem?_pos, h1, h2]
  have hlen' : (c.length : Int) = p.vars.length := by omega
  simp [-getElem?_pos, hlen']
  obtain ⟨r, hr⟩ : ∃ r, r = fitsS p.vars c := ⟨_, rfl⟩
  rw [← hr]
  refine kLoop.list c (fun d env σ => FitR p c d.length env σ ∧ ∀ (k : Nat) (v : Var) (l : List Int), k < d.length → p.vars[k]? = some v → c[k]? = some l → okV v l = true) ?_ ?_ ?_
  · simp [FitR]
  · rintro d l s env σ hd hl hlt ⟨⟨e2, e3, e5, rfl⟩, hall⟩
    have hlv : d.length < p.vars.length := by omega
    obtain ⟨v, hvv⟩ : ∃ v, p.vars[d.length]? = some v := ⟨_, List.getElem?_eq_getElem hlv⟩
    have hvm := List.mem_of_getElem? hvv
    have hwv := hw v hvm
    have hlm := List.mem_of_getElem? hl
    have hfl := hcl l hlm
    have hw1 := wr (n := (d.length : Int) + 1) (by omega) (by omega)
    have hbad : okV v l = false → r = false := by
      intro h
      rw [hr, Bool.eq_false_iff]
      intro h2
      have := (fits_iff hlen).1 h2 _ v l hvv hl
      rw [h] at this; cases this
    by_cases hm : v.mode = 2 ∨ l = []
    case neg =>
      have hm1 : ¬ v.mode = 2 := fun h => hm (.inl h)
      have hl0 : (0 : Int) < l.length := by have : l ≠ [] := fun h => hm (.inr h); have := List.length_pos_iff.2 this; omega
      have hb : r = false := hbad (by simp only [okV, Bool.and_eq_false_iff, Bool.or_eq_false_iff]; left; exact ⟨by simpa using hm1, by simpa using fun h => hm (.inr h)⟩)
      simp [-getElem?_pos, e2, e3, e5, hlt, hlv, hl, hvv, hm1, hl0, hb, show ¬ l = [] from fun h => hm (.inr h)]
    have hnl : ¬ v.mode = 2 → l = [] := fun h => hm.resolve_left h
    have hok : okL v.width l = true → okV v l = true := by
      intro h
      unfold okV
      rcases hm with hm | hm <;> simp [hm, h]
      rw [hm] at h; exact h
    have hnext : okV v l = true → ∀ (k : Nat) (v : Var) (l : List Int), k < d.length + 1 → p.vars[k]? = some v → c[k]? = some l → okV v l = true := by
      intro h k v' l' hk h1 h2
      by_cases hkd : k < d.length
      · exact hall k v' l' hkd h1 h2
      · obtain rfl : k = d.length := by omega
        rw [hvv] at h1; rw [hl] at h2
        cases h1; cases h2
        exact h
    by_cases h2 : v.mode = 2
    · simp [-getElem?_pos, e2, e3, e5, hlt, hlv, hl, hvv, h2]
      have hs := shl_one hwv.1 hwv.2
      have hu := shl_u hwv.1 hwv.2
      have hw0 : ¬ v.width < 0 := by omega
      refine kLoop.list l (fun e env τ => FitR p c d.length env τ ∧ env 6 = .sl 1 (l.map encInt) .none ∧ env 7 = .int .i64 e.length ∧ ∀ k n, k < e.length → l[k]? = some n → okN v.width (l.take k) n = true) ?_ ?_ ?_
      · exact ⟨⟨by simpa using e2, by simpa using e3, by simpa using e5, rfl⟩, by simp, by simp, by simp⟩
      · rintro e n s' env τ he hn hle ⟨⟨f2, f3, f5, rfl⟩, f6, f7, hk⟩
        have hwe := wr (n := (e.length : Int) + 1) (by omega) (by omega)
        have hbadn : okN v.width (l.take e.length) n = false → r = false := by
          intro h
          refine hbad ?_
          rw [Bool.eq_false_iff]
          intro h3
          have h4 : okL v.width l = true := by
            simp only [okV, Bool.and_eq_true] at h3; exact h3.2
          have := okL_take.1 h4 _ _ hn
          rw [h] at this; cases this
        by_cases n0 : n < 0
        · have hr0 : r = false := hbadn (by simp [okN]; omega)
          simp [-getElem?_pos, f2, f3, f5, f6, f7, hle, hn, hvv, n0, hr0]
        · by_cases n1 : n < 2 ^ v.width.toNat
          case neg =>
            have n1' : ((2 ^ v.width.toNat : Nat) : Int) ≤ n := by simp only [Int.natCast_pow, Int.cast_ofNat_Int]; omega
            have hr0 : r = false := hbadn (by simp [okN, n1])
            simp [-getElem?_pos, -Int.natCast_pow, f2, f3, f5, f6, f7, hle, hn, hvv, n0, hr0, hw0, IntKind.bits, hs, hu, convA, n1']
          have n1' : ¬ ((2 ^ v.width.toNat : Nat) : Int) ≤ n := by simp only [Int.natCast_pow, Int.cast_ofNat_Int]; omega
          simp [-getElem?_pos, -Int.natCast_pow, f2, f3, f5, f6, f7, hle, hn, hvv, n0, hw0, IntKind.bits, hs, hu, convA, n1', sliceA, boundA, thirdA, sliceTok, Int.le_of_lt (Int.ofNat_lt.2 hle)]
          rw [← List.map_take]
          refine kCall.call (G := quiet GG) (has116 (l.take e.length) n (Nat.lt_of_le_of_lt (List.length_take_le' _ _) hfl)) (by simp [-List.map_take, noRefs, noRef]) ?_
          cases hany : (l.take e.length).any fun x => n == x
          · have hgn : okN v.width (l.take e.length) n = true := by simp only [okN, hany, Bool.not_false, Bool.and_true, n1, decide_true]; simpa using n0
            simp [-getElem?_pos, -Int.natCast_pow, f2, f3, f5, f6, f7, hany, hwe]
            refine ⟨⟨by simpa using f2, by simpa using f3, by simpa using f5, rfl⟩, fun k n' hk' hn' => ?_⟩
            by_cases hke : k < e.length
            · exact hk k n' hke hn'
            · obtain rfl : k = e.length := by omega
              rw [hn] at hn'
              cases hn'
              exact hgn
          · have hr0 : r = false := hbadn (by simp only [okN, hany, Bool.not_true, Bool.and_false])
            simp [-getElem?_pos, -Int.natCast_pow, f2, f3, f5, f6, f7, hany, hr0]
      · rintro env τ ⟨⟨f2, f3, f5, rfl⟩, f6, f7, hk⟩
        have hgood := hnext (hok (okL_take.2 fun k n e => hk k n (List.getElem?_eq_some_iff.1 e).1 e))
        simp [-getElem?_pos, f2, f3, f5, f6, f7, hw1]
        exact ⟨⟨by simpa using f2, by simpa using f3, by simp, rfl⟩, hgood⟩
    · obtain rfl := hnl h2
      simp [-getElem?_pos, e2, e3, e5, hlt, hlv, hl, hvv, h2]
      refine kLoop.list ([] : List Int) (fun e env τ => FitR p c d.length env τ ∧ env 6 = .sl 1 [] .none ∧ env 7 = .int .i64 0) ?_ ?_ ?_
      · exact ⟨⟨by simpa using e2, by simpa using e3, by simpa using e5, rfl⟩, by simp, by simp⟩
      · rintro e n s' env τ he; simp at he
      · rintro env τ ⟨⟨f2, f3, f5, rfl⟩, f6, f7⟩
        have hgood := hnext (hok (by simp [okL]))
        simp [-getElem?_pos, f2, f3, f5, f6, f7, hw1]
        exact ⟨⟨by simpa using f2, by simpa using f3, by simp, rfl⟩, hgood⟩
  · rintro env σ ⟨⟨e2, e3, e5, rfl⟩, hall⟩
    have : r = true := by
      rw [hr]
      exact (fits_iff hlen).2 fun k v l h1 h2 => hall k v l (List.getElem?_eq_some_iff.1 h2).1 h1 h2
    simp [-getElem?_pos, e2, e3, e5, this, hlen']

@[simp] def encCy (c : List (List Int)) : List AV := [.sl 1 (c.map encInts) .none]

theorem numbers23 (a b : List Int) (ha : Fits a) (hb : Fits b) : Pure Tryz.prog GG 12 [.sl 1 (a.map encInt) .none, .sl 1 (b.map encInt) .none] (.bool (decide (a = b))) := by
  refine Pure.k mixed Tryz.func12 rfl (by kernel_rfl) ?_
  simp [-getElem?_pos]
  refine ⟨fun hne => ?_, fun heq => ?_⟩
  · intro e; exact hne (by rw [e])
  have hab : a.length = b.length := by omega
  refine kLoop.list a (fun d env σ => env 0 = .sl 1 (a.map encInt) .none ∧ env 1 = .sl 1 (b.map encInt) .none ∧ env 5 = .int .i64 d.length ∧ σ = ⟨[], []⟩ ∧ b.take d.length = d) ?_ ?_ ?_
  · simp
  · rintro d v r env σ hd hv hlt ⟨h0, h1, h5, rfl, ht⟩
    have hb' : d.length < b.length := by omega
    obtain ⟨u, hu⟩ : ∃ u, b[d.length]? = some u := ⟨_, List.getElem?_eq_getElem hb'⟩
    have hw := wr (n := (d.length : Int) + 1) (by omega) (by omega)
    simp [-getElem?_pos, h0, h1, h5, hlt, hv, hu, hw]
    refine ⟨fun h e => h ?_, fun h => ?_⟩
    · rw [e, hu] at hv; exact (Option.some.inj hv).symm
    · rw [List.take_add_one, hu, ht, h]; rfl
  · rintro env σ ⟨h0, h1, h5, rfl, ht⟩
    have hl : ¬ (a.length : Int) < a.length := by omega
    simp [-getElem?_pos, h0, h1, h5]
    rw [hab, List.take_length] at ht; exact ht.symm

theorem chunk_reps (v : AV) : ∀ (n : Nat), chunk 1 n (List.replicate n v) = List.replicate n [v]
  | 0 => rfl
  | n + 1 => by
    simp only [List.replicate_succ, chunk]
    rw [show (v :: List.replicate n v).drop 1 = List.replicate n v from rfl, chunk_reps v n]
    rfl
def StartR (p : Problem) : List AV := encCy (List.replicate p.vars.length [])
theorem frz_nils (H : List Blk) (k n b : Nat) (hb : H[b]? = some (.cells (List.replicate n (.sl 0 [] .nil)))) : frz H (k + 2) (.agg [.ms b 0 n 1]) = .agg [.sl 1 (List.replicate n [.sl 0 [] .nil]) .none] := by
  rw [frz]
  simp only [noRef, noRefs, Bool.false_and, Bool.false_eq_true, if_false, List.map_cons, List.map_nil]
  rw [frz]
  simp only [noRef, Bool.false_eq_true, if_false, hb, List.drop_zero, chunk_reps]
  have e : (List.replicate n [AV.sl 0 [] .nil]).map (·.map (frz H k)) = List.replicate n [.sl 0 [] .nil] := by
    rw [List.map_replicate]
    congr 1
    simp only [List.map_cons, List.map_nil]
    rw [frz_noRef (by simp [noRef, noRefss])]
  rw [e]
  simp
theorem start_main (p : Problem) (hl : p.vars.length ≤ 1000) (hv : ¬ p.vars = []) : Leq (.agg [.sl 1 (List.replicate p.vars.length [.sl 0 [] .nil]) .none]) (.agg (encCy (List.replicate p.vars.length []))) := by
  simp only [Leq, LeqL, encCy, encInts, List.map_replicate, List.map_nil, and_true]
  refine .inr ⟨trivial, ?_, .inl trivial⟩
  have : ∀ n : Nat, LeqR (List.replicate n [AV.sl 0 [] .nil]) (List.replicate n [AV.sl 1 [] .none]) := by
    intro n
    induction n with
    | zero => simp [LeqR]
    | succ n ih =>
      simp only [List.replicate_succ, LeqR]
      refine ⟨.inr ⟨?_, by simp [AV.atom]⟩, ih⟩
      simp only [LeqL, and_true]
      simp [Leq]
  exact this _
theorem start19 (p : Problem) (hl : p.vars.length ≤ 1000) : Pure Tryz.prog GG 8 [.agg (encP p)] (.agg (encCy (List.replicate p.vars.length []))) := by
  refine Pure.kO o0 true mixed Tryz.func8 rfl (by kernel_rfl) ?_
  have hl2 : (p.vars.length : Int) ≤ 549755813888 := by omega
  by_cases hv : p.vars = []
  · simp [-getElem?_pos, makeSliceA, buildA, fillA, stPlace, hv]
    simp [frz, noRef, noRefs, noRefss, Leq, LeqL]
  · simp [-getElem?_pos, makeSliceA, buildA, fillA, stPlace, hl2, hv]
    rw [frz_nils _ 6 p.vars.length 2 rfl]
    refine ⟨?_, by simpa using start_main p hl hv⟩
    have : ∀ n : Nat, noRefss (List.replicate n [AV.sl 0 [] .nil]) = true := by
      intro n
      induction n with
      | zero => rfl
      | succ n ih => simp [List.replicate_succ, noRefss, noRefs, noRef, ih]
    simp [noRef, noRefs, this]
theorem few16 (c : List (List Int)) (hc : Fits c) (hl : ∀ l ∈ c, Fits l) : Pure Tryz.prog GG 5 [.agg (encCy c)] (.bool (decide (c.length ≤ 6) && (c.take 7).all fun l => decide (l.length ≤ 40))) := by
  refine Pure.k mixed Tryz.func5 rfl (by kernel_rfl) ?_
  simp [-getElem?_pos]
  refine kLoop.list (c.take 7) (fun d env σ => env 1 = .ptr 0 0 ∧ env 3 = .int .i64 d.length ∧ σ = ⟨[.cells (encCy c)], []⟩ ∧ (d.all fun l => decide (l.length ≤ 40)) = true) ?_ ?_ ?_
  · simp
  · rintro d v r env σ hd hv hlt ⟨h1, h3, rfl, hg⟩
    have hlt' : d.length < 7 ∧ d.length < c.length := by simp at hlt; omega
    have hv' : c[d.length]? = some v := by rw [List.getElem?_take] at hv; split at hv <;> first | exact hv | cases hv
    have hw := wr (n := (d.length : Int) + 1) (by omega) (by omega)
    have h7 : (d.length : Int) < 7 := by omega
    simp [-getElem?_pos, h1, h3, hlt'.2, h7, hv', hw]
    have hmem : v ∈ c.take 7 := List.mem_of_getElem? hv
    refine ⟨fun h _ => ⟨v, hmem, by omega⟩, fun h => ⟨by simpa using hg, by omega⟩⟩
  · rintro env σ ⟨h1, h3, rfl, hg⟩
    by_cases h7 : c.length ≤ 6
    · have hm : (c.take 7).length = c.length := by simp; omega
      rw [hm] at h3
      simp [-getElem?_pos, h1, h3, h7, hg]
      omega
    · have hm : (c.take 7).length = 7 := by simp; omega
      rw [hm] at h3
      simp [-getElem?_pos, h1, h3, h7]
      omega

theorem start20 (p : Problem) (hl : p.vars.length ≤ 1000) : Pure Tryz.prog GG 9 [.agg (encP p)] (.agg (encCy (List.replicate p.vars.length []))) := by
  refine Pure.kO o0 true mixed Tryz.func9 rfl (by kernel_rfl) ?_
  have hl2 : (p.vars.length : Int) ≤ 549755813888 := by omega
  by_cases hv : p.vars = []
  · simp [-getElem?_pos, makeSliceA, buildA, fillA, stPlace, hv]
    simp [frz, noRef, noRefs, noRefss, Leq, LeqL]
  · simp [-getElem?_pos, makeSliceA, buildA, fillA, stPlace, hl2, hv]
    rw [frz_nils _ 6 p.vars.length 2 rfl]
    refine ⟨?_, by simpa using start_main p hl hv⟩
    have : ∀ n : Nat, noRefss (List.replicate n [AV.sl 0 [] .nil]) = true := by
      intro n
      induction n with
      | zero => rfl
      | succ n ih => simp [List.replicate_succ, noRefss, noRefs, noRef, ih]
    simp [noRef, noRefs, this]
theorem same18 (a b : List (List Int)) (ha : Fits a) (hb : Fits b) (hal : ∀ l ∈ a, Fits l) (hbl : ∀ l ∈ b, Fits l) : Pure Tryz.prog GG 7 [.agg (encCy a), .agg (encCy b)] (.bool (decide (a = b))) := by
  refine Pure.k mixed Tryz.func7 rfl (by kernel_rfl) ?_
  by_cases hlen : a.length = b.length
  case neg =>
    have h1 : ¬ (a.length : Int) = b.length := by omega
    have h2 : ¬ a = b := fun e => hlen (by rw [e])
    simp [-getElem?_pos, h1, h2]
  have hlen' : (a.length : Int) = b.length := by omega
  simp [-getElem?_pos, hlen']
  obtain ⟨r, hr⟩ : ∃ r, r = decide (a = b) := ⟨_, rfl⟩
  rw [← hr]
  refine kLoop.list a (fun d env σ => env 2 = .ptr 0 0 ∧ env 3 = .ptr 1 0 ∧ env 5 = .int .i64 d.length ∧ σ = ⟨[.cells (encCy a), .cells (encCy b)], []⟩ ∧ b.take d.length = d) ?_ ?_ ?_
  · simp
  · rintro d l s env σ hd hl hlt ⟨e2, e3, e5, rfl, ht⟩
    obtain ⟨m, hm⟩ : ∃ m, b[d.length]? = some m := ⟨_, List.getElem?_eq_getElem (by omega)⟩
    have hw1 := wr (n := (d.length : Int) + 1) (by omega) (by omega)
    have hfl := hal l (List.mem_of_getElem? hl)
    have hfm := hbl m (List.mem_of_getElem? hm)
    have hltb : d.length < b.length := by omega
    have hbad : l ≠ m → r = false := by
      intro h
      rw [hr, decide_eq_false_iff_not]
      intro e
      rw [e, hm] at hl
      exact h (Option.some.inj hl).symm
    by_cases hlm : l.length = m.length
    case neg =>
      have h1 : ¬ (l.length : Int) = m.length := by omega
      have hr0 := hbad fun e => hlm (by rw [e])
      simp [-getElem?_pos, e2, e3, e5, hlt, hltb, hl, hm, h1, hr0]
    have hlm' : (l.length : Int) = m.length := by omega
    simp [-getElem?_pos, e2, e3, e5, hlt, hltb, hl, hm, hlm']
    refine kLoop.list l (fun e env τ => env 2 = .ptr 0 0 ∧ env 3 = .ptr 1 0 ∧ env 5 = .int .i64 d.length ∧ env 6 = .int .i64 e.length ∧ τ = ⟨[.cells (encCy a), .cells (encCy b)], []⟩ ∧ m.take e.length = e) ?_ ?_ ?_
    · simp [e2, e3, e5]
    · rintro e n s' env τ he hn hle ⟨f2, f3, f5, f6, rfl, hte⟩
      obtain ⟨u, hu⟩ : ∃ u, m[e.length]? = some u := ⟨_, List.getElem?_eq_getElem (by omega)⟩
      have hwe := wr (n := (e.length : Int) + 1) (by omega) (by omega)
      by_cases hnu : n = u
      · simp [-getElem?_pos, f2, f3, f5, f6, hl, hm, hle, hn, hu, hnu, hwe]
        rw [List.take_add_one, hu, hte]; rfl
      · have hr0 := hbad fun e' => by rw [e', hu] at hn; exact hnu (Option.some.inj hn).symm
        simp [-getElem?_pos, f2, f3, f5, f6, hl, hm, hle, hn, hu, hnu, hr0]
    · rintro env τ ⟨f2, f3, f5, f6, rfl, hte⟩
      have hlme : l = m := by rw [hlm, List.take_length] at hte; exact hte.symm
      simp [-getElem?_pos, f2, f3, f5, f6, hl, hm, hw1]
      rw [List.take_add_one, hm, ht, hlme]; rfl
  · rintro env σ ⟨e2, e3, e5, rfl, ht⟩
    have : r = true := by
      rw [hr, decide_eq_true_eq]
      rw [hlen, List.take_length] at ht; exact ht.symm
    simp [-getElem?_pos, e2, e3, e5, this, hlen']
end Go.Proofs.YtpjdjolphpfanaaGreatDoor
end
