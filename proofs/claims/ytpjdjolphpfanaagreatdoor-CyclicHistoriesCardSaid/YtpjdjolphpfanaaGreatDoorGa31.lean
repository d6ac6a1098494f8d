/- A part of the proof. -/
import Derived.Test.YtpjdjolphpfanaaGreatDoorGa24
import Derived.Test.YtpjdjolphpfanaaGreatDoorGa25
import Derived.Test.YtpjdjolphpfanaaGreatDoorGa26
import Derived.Test.YtpjdjolphpfanaaGreatDoorGa30
import Derived.Test.YtpjdjolphpfanaaGreatDoorGa19
set_option linter.unusedVariables false
set_option linter.unusedSimpArgs false
set_option maxRecDepth 100000
set_option linter.defProp false
section
namespace Go.Proofs.YtpjdjolphpfanaaGreatDoor
open Go Go.Abs

/-- What a problem of a class comes to. -/
structure VQ (p : Problem) : Prop where
  vars : p.vars.length ≤ 1000
  names : ∀ v ∈ p.vars, Fits v.name
  hard : p.hard.length ≤ 10000
  soft : p.soft.length ≤ 10000
  exprs : ∀ e ∈ p.hard ++ p.soft, Wen e ∧ hgt e ≤ 1000 ∧ (pre e).length ≤ 100000
  dists : Fits p.dists
  weights : ∀ d ∈ p.dists, Fits d.weights
  groups : Fits p.groups
  group : ∀ g ∈ p.groups, Fits g
/-- What a problem that is small comes to. -/
structure VP (p : Problem) : Prop where
  vars20 : p.vars.length ≤ 20
  names : ∀ v ∈ p.vars, Fits v.name
  hard20 : p.hard.length ≤ 20
  soft20 : p.soft.length ≤ 20
  exprs : ∀ e ∈ p.hard ++ p.soft, Wen e ∧ hgt e ≤ 1000 ∧ (pre e).length ≤ 100000
  dists : Fits p.dists
  weights : ∀ d ∈ p.dists, Fits d.weights
  groups : Fits p.groups
  group : ∀ g ∈ p.groups, Fits g
  flat : p.groups.flatten.length < 1000000

theorem VP.q {p : Problem} (h : VP p) : VQ p := ⟨by have := h.vars20; omega, h.names, by have := h.hard20; omega, by have := h.soft20; omega, h.exprs, h.dists, h.weights, h.groups, h.group⟩

theorem checks50 (fs : List (FuncId × Int)) (c : AV) (hc : noRef c = true) (hl : Fits fs) (h : ∀ q ∈ fs, Pure Tryz.prog GG q.1 [c] (.int .i64 q.2)) : Pure Tryz.prog GG 38 [.sl 1 (fs.map fun q => [.fn q.1 [] [c]]) .none] (.int .i64 (firstE (fun q => q.2) fs)) := by
  refine Pure.vc mixed Tryz.func38 rfl (by kernel_rfl) ?_
  simp
  refine vcLoop.intro (fun n env σ => ∃ i, i ≤ fs.length ∧ n = fs.length - i ∧ env 6 = .sl 1 (fs.map fun q => [.fn q.1 [] [c]]) .none ∧ env 7 = .int .i64 fs.length ∧ env 8 = .int .i64 i ∧ σ = ⟨[], []⟩ ∧ ∀ q ∈ fs.take i, q.2 = 0) fs.length ⟨0, by simp⟩ ?_
  rintro n env σ ⟨i, hi, rfl, h6, h7, h8, rfl, hz⟩
  cases hv : fs[i]? with
  | some q =>
    obtain ⟨hc1, hv'⟩ := List.getElem?_eq_some_iff.1 hv
    have hm := List.mem_of_getElem? hv
    simp [h6, h7, h8, hc1, hv']
    refine vcCall.call (h q hm) (by simp [hc]) ?_
    by_cases h0 : q.2 = 0
    · simp [h0, h6, h7, h8]
      exact ⟨_, by omega, i + 1, by omega, rfl, wr (by omega) (by omega), by simpa using take_succ_all (p := fun q : FuncId × Int => q.2 = 0) hv hz h0⟩
    · rw [firstE_of hv hz h0]
      simp [h0]
  | none =>
    have hc1 : ¬ i < fs.length := by simp at hv; omega
    have ht : fs.take i = fs := List.take_of_length_le (by omega)
    rw [ht] at hz
    rw [firstE_zero.2 hz]
    simp [h6, h7, h8, hc1]

theorem c61 (p : Problem) (h : VQ p) : Pure Tryz.prog GG 39 [.rptr (encP p)] (.int .i64 (varsS p.vars)) := by
  refine Pure.vc mixed Tryz.func39 rfl (by kernel_rfl) ?_
  simp
  refine vcCall.call (vars62 p.vars (by have := h.vars; omega) h.names) (by simp) ?_
  simp
theorem c63 (p : Problem) (h : VQ p) : Pure Tryz.prog GG 41 [.rptr (encP p)] (.int .i64 (firstE (exprE p.vars) (p.hard ++ p.soft))) := by
  refine Pure.vc mixed Tryz.func41 rfl (by kernel_rfl) ?_
  have := exprs64 p (by have := h.vars; omega) h.hard h.soft h.exprs
  simp only [encP] at this
  simp
  refine vcCall.call this (by simp) ?_
  simp
theorem c65 (p : Problem) (h : VQ p) : Pure Tryz.prog GG 43 [.rptr (encP p)] (.int .i64 (distsS p.vars p.dists)) := by
  refine Pure.vc mixed Tryz.func43 rfl (by kernel_rfl) ?_
  have := dists66 p h.dists h.weights
  simp only [encP] at this
  simp
  refine vcCall.call this (by simp) ?_
  simp
theorem c67 (p : Problem) (h : VQ p) : Pure Tryz.prog GG 45 [.rptr (encP p)] (.int .i64 (groupsS p.vars p.groups)) := by
  refine Pure.vc mixed Tryz.func45 rfl (by kernel_rfl) ?_
  have := groups68 p h.vars h.groups h.group
  simp only [encP] at this
  simp
  refine vcCall.call this (by simp) ?_
  simp

theorem validP_first (p : Problem) : firstE (fun q : FuncId × Int => q.2) [(39, varsS p.vars), (41, firstE (exprE p.vars) (p.hard ++ p.soft)), (43, distsS p.vars p.dists), (45, groupsS p.vars p.groups)] = validP p := by
  simp only [firstE, validP]
  by_cases h1 : varsS p.vars = 0
  · by_cases h2 : firstE (exprE p.vars) (p.hard ++ p.soft) = 0
    · by_cases h3 : distsS p.vars p.dists = 0
      · by_cases h4 : groupsS p.vars p.groups = 0 <;> simp [h1, h2, h3, h4]
      · simp [h1, h2, h3]
    · simp [h1, h2]
  · simp [h1]
theorem valid14q (p : Problem) (h : VQ p) : Pure Tryz.prog GG 20 [.agg (encP p)] (.int .i64 (validP p)) := by
  refine Pure.vc mixed Tryz.func20 rfl (by kernel_rfl) ?_
  have hk := checks50 [(39, varsS p.vars), (41, firstE (exprE p.vars) (p.hard ++ p.soft)), (43, distsS p.vars p.dists), (45, groupsS p.vars p.groups)] (.rptr (encP p)) (by simp) (by simp) (by
    intro q hq
    simp only [List.mem_cons, List.not_mem_nil, or_false] at hq
    rcases hq with rfl | rfl | rfl | rfl
    · exact c61 p h
    · exact c63 p h
    · exact c65 p h
    · exact c67 p h)
  rw [validP_first] at hk
  simp [buildSliceA, rowsFill]
  refine vcCall.lent hk rfl ?_ ?_
  · simp [frz]
  · simp

theorem valid14' (p : Problem) (h : VP p) : Pure Tryz.prog GG 20 [.agg (encP p)] (.int .i64 (validP p)) := valid14q p h.q

theorem valid23q (p : Problem) (h : VQ p) (hfl : p.groups.flatten.length < 4611686018427387904) : Pure Tryz.prog GG 16 [.agg (encP p)] (.int .i64 (validP p)) := by
  refine Pure.vc mixed Tryz.func16 rfl (by kernel_rfl) ?_
  have hlv : Fits p.vars := by have := h.vars; omega
  simp
  refine vcCall.call (variables79 p.vars hlv h.names) (by simp) ?_
  by_cases h1 : varsS p.vars = 0
  · simp [h1]
    refine vcCall.call (expressions80 p.vars hlv p.hard (by have := h.hard; omega) fun e he => h.exprs e (List.mem_append_left _ he)) (by simp) ?_
    by_cases h2 : firstE (exprE p.vars) p.hard = 0
    · simp [h2]
      refine vcCall.call (expressions80 p.vars hlv p.soft (by have := h.soft; omega) fun e he => h.exprs e (List.mem_append_right _ he)) (by simp) ?_
      by_cases h3 : firstE (exprE p.vars) p.soft = 0
      · have h23 : firstE (exprE p.vars) (p.hard ++ p.soft) = 0 := by rw [firstE_append, if_pos h2, h3]
        simp [h3]
        refine vcCall.call (dists81 p.vars p.dists hlv h.dists h.weights) (by simp) ?_
        by_cases h4 : distsS p.vars p.dists = 0
        · simp [h4]
          have hv20 : p.vars.length ≤ 20 := by
            apply Classical.byContradiction
            intro hn
            have h16 : 16 < p.vars.length := by omega
            have e : varsS p.vars = 2 := by simp [varsS, h16]
            omega
          refine vcCall.call (groups82 p.vars p.groups hv20 h.groups h.group hfl) (by simp) ?_
          have x : validP p = groupsS p.vars p.groups := by unfold validP; simp [h1, h23, h4]
          rw [x]
          by_cases hg : GroupsOk p.vars p.groups
          · rw [okG_good hg, show groupsS p.vars p.groups = 0 by unfold groupsS; rw [if_pos hg]]
            simp
          · rw [okG_bad hg, show groupsS p.vars p.groups = 1 by unfold groupsS; rw [if_neg hg]]
            simp
        · have x : validP p = distsS p.vars p.dists := by unfold validP; simp [h1, h23, h4]
          rw [x]
          simp [h4]
      · have x : validP p = firstE (exprE p.vars) p.soft := by
          have h23 : firstE (exprE p.vars) (p.hard ++ p.soft) = firstE (exprE p.vars) p.soft := by rw [firstE_append, if_pos h2]
          unfold validP; rw [h23]; simp [h1, h3]
        rw [x]
        simp [h3]
    · have x : validP p = firstE (exprE p.vars) p.hard := by
        have h23 : firstE (exprE p.vars) (p.hard ++ p.soft) = firstE (exprE p.vars) p.hard := by rw [firstE_append, if_neg h2]
        unfold validP; rw [h23]; simp [h1, h2]
      rw [x]
      simp [h2]
  · have x : validP p = varsS p.vars := by unfold validP; simp [h1]
    rw [x]
    simp [h1]
theorem valid23 (p : Problem) (h : VP p) : Pure Tryz.prog GG 16 [.agg (encP p)] (.int .i64 (validP p)) := valid23q p h.q (by have := h.flat; omega)

theorem valid_vars {p : Problem} (h : validP p = 0) : p.vars.length ≤ 16 ∧ ∀ v ∈ p.vars, 1 ≤ v.width ∧ v.width ≤ 8 := by
  have hv : varsS p.vars = 0 := by
    unfold validP at h
    split at h
    · exact absurd h (by assumption)
    · rename_i h1; exact Classical.not_not.1 h1
  unfold varsS at hv
  split at hv
  · cases hv
  · rename_i h16
    split at hv
    · rename_i h1; exact absurd hv h1
    · rename_i h1
      have h1 := Classical.not_not.1 h1
      refine ⟨by omega, fun v hm => ?_⟩
      have : varE v = 0 := firstE_zero.1 h1 v hm
      exact (varE_zero this).2
structure HC (p : Problem) (c : List (List Int)) : Prop where
  fits : Fits c
  each : ∀ l ∈ c, Fits l
theorem wid28 {p : Problem} (h : validP p = 0) : ∀ v ∈ p.vars, 0 ≤ v.width ∧ v.width ≤ 28 := fun v hv => by
  have := (valid_vars h).2 v hv; omega
noncomputable def validC (p : Problem) (c : List (List Int)) : Bool := decide (validP p = 0) && fitsS p.vars c
theorem valid21 (p : Problem) (c : List (List Int)) (h : VQ p) (hc : HC p c) : Pure Tryz.prog GG 10 [.agg (encP p), .agg (encCyc c)] (.bool (validC p c)) := by
  refine Pure.k mixed Tryz.func10 rfl (by kernel_rfl) ?_
  have h54 := valid14q p h
  have hfv : Fits p.vars := by have := h.vars; show p.vars.length < _; omega
  unfold validC
  by_cases hv : validP p = 0
  · have h55 := fits55 p c hfv hc.fits hc.each (wid28 hv)
    rw [hv] at h54
    simp [-getElem?_pos]
    refine kCall.call (G := quiet GG) (by simpa using h54) (by simp) ?_
    simp [-getElem?_pos]
    refine kCall.call (G := quiet GG) (by simpa using h55) (by simp) ?_
    simp [-getElem?_pos, hv]
  · simp [-getElem?_pos]
    refine kCall.call (G := quiet GG) (by simpa using h54) (by simp) ?_
    simp [-getElem?_pos, hv]
theorem valid22 (p : Problem) (c : List (List Int)) (h : VQ p) (hf : p.groups.flatten.length < 4611686018427387904) (hc : HC p c) : Pure Tryz.prog GG 11 [.agg (encP p), .agg (encCyc c)] (.bool (validC p c)) := by
  refine Pure.k mixed Tryz.func11 rfl (by kernel_rfl) ?_
  have h54 := valid23q p h hf
  have hfv : Fits p.vars := by have := h.vars; show p.vars.length < _; omega
  unfold validC
  by_cases hv : validP p = 0
  · have h55 := fits56 p c hfv hc.fits hc.each (wid28 hv)
    rw [hv] at h54
    simp [-getElem?_pos]
    refine kCall.call (G := quiet GG) (by simpa using h54) (by simp) ?_
    simp [-getElem?_pos]
    refine kCall.call (G := quiet GG) (by simpa using h55) (by simp) ?_
    simp [-getElem?_pos, hv]
  · simp [-getElem?_pos]
    refine kCall.call (G := quiet GG) (by simpa using h54) (by simp) ?_
    simp [-getElem?_pos, hv]

/-- What Left returns. -/
noncomputable def leftP (p : Problem) (c : List (List Int)) (v : Int) : List Int :=
  if validC p c = true ∧ 0 ≤ v then
    match p.vars[v.toNat]?, c[v.toNat]? with
    | some x, some l => if x.mode = 2 then leftS x.width l else []
    | _, _ => []
  else []
theorem validC_spec {p : Problem} {c : List (List Int)} (h : validC p c = true) : validP p = 0 ∧ c.length = p.vars.length ∧ ∀ (k : Nat) (v : Var) (l : List Int), p.vars[k]? = some v → c[k]? = some l → okV v l = true := by
  simp only [validC, Bool.and_eq_true, decide_eq_true_eq] at h
  have hl : c.length = p.vars.length := by
    have := h.2
    simp only [fitsS, Bool.and_eq_true, decide_eq_true_eq] at this
    exact this.1
  exact ⟨h.1, hl, (fits_iff hl).1 h.2⟩
theorem leq_nil : Leq (.sl 0 [] .nil) (.sl 1 [] .none) := by simp [Leq]
theorem left24 (p : Problem) (c : List (List Int)) (v : Int) (h : VQ p) (hc : HC p c) : Pure Tryz.prog GG 13 [.agg (encP p), .agg (encCyc c), .int .i64 v] (.sl 1 ((leftP p c v).map encInt) .none) := by
  refine Pure.k mixed Tryz.func13 rfl (by kernel_rfl) ?_
  have h21 := valid21 p c h hc
  simp only [encP, encCyc] at h21
  simp [-getElem?_pos]
  refine kCall.call (G := quiet GG) h21 (by simp) ?_
  cases hv : validC p c
  case false =>
    have : leftP p c v = [] := by simp [leftP, hv]
    simp [-getElem?_pos, this]
  obtain ⟨hv0, hl, hok⟩ := validC_spec hv
  by_cases v0 : v < 0
  · have : leftP p c v = [] := by simp only [leftP]; rw [if_neg (by omega)]
    simp [-getElem?_pos, this, v0]
  by_cases v1 : (p.vars.length : Int) ≤ v
  · have hn : p.vars[v.toNat]? = none := by rw [List.getElem?_eq_none_iff]; omega
    have : leftP p c v = [] := by simp only [leftP, hn]; split <;> rfl
    simp [-getElem?_pos, this, v0, v1]
  obtain ⟨n, rfl⟩ := Int.eq_ofNat_of_zero_le (a := v) (by omega)
  have hn : n < p.vars.length := by omega
  obtain ⟨x, hx⟩ : ∃ x, p.vars[n]? = some x := ⟨_, List.getElem?_eq_getElem hn⟩
  obtain ⟨l, hlx⟩ : ∃ l, c[n]? = some l := ⟨_, List.getElem?_eq_getElem (by omega)⟩
  have hw := wid28 hv0 x (List.mem_of_getElem? hx)
  have hfl := hc.each l (List.mem_of_getElem? hlx)
  by_cases hm : x.mode = 2
  case neg =>
    have : leftP p c n = [] := by simp [leftP, hx, hlx, hm]
    simp [-getElem?_pos, this, v0, v1, hx, hm]
  have hL : leftP p c n = leftS x.width l := by simp [leftP, hx, hlx, hm, hv]
  rw [hL]
  have hu := unused57 x.width hw.1 hw.2 l hfl
  have hu0 := unused57 x.width hw.1 hw.2 [] (by simp)
  simp [-getElem?_pos, v0, v1, hx, hm, hlx]
  refine kCall.call (G := quiet GG) hu (by simp) ?_
  unfold leftS
  by_cases hr : restS x.width l = []
  · rw [if_pos hr]
    simp [-getElem?_pos, v0, v1, hx, hm, hlx, hr]
    refine kCall.less (G := quiet GG) hu0 (by simp [noRef, noRefs, noRefss]) (by simp only [LeqL, List.map_nil]; exact ⟨Leq.refl _, leq_nil, trivial⟩) ?_
    simp [-getElem?_pos]
  · have hpos : (0 : Int) < (restS x.width l).length := by have := List.length_pos_iff.2 hr; omega
    rw [if_neg hr]
    simp [-getElem?_pos, v0, v1, hx, hm, hlx, hr, hpos]
theorem left25 (p : Problem) (c : List (List Int)) (v : Int) (h : VQ p) (hf : p.groups.flatten.length < 4611686018427387904) (hc : HC p c) : Pure Tryz.prog GG 14 [.agg (encP p), .agg (encCyc c), .int .i64 v] (.sl 1 ((leftP p c v).map encInt) .none) := by
  refine Pure.k mixed Tryz.func14 rfl (by kernel_rfl) ?_
  have h21 := valid22 p c h hf hc
  simp only [encP, encCyc] at h21
  simp [-getElem?_pos]
  refine kCall.call (G := quiet GG) h21 (by simp) ?_
  cases hv : validC p c
  case false =>
    have : leftP p c v = [] := by simp [leftP, hv]
    simp [-getElem?_pos, this]
  obtain ⟨hv0, hl, hok⟩ := validC_spec hv
  by_cases v0 : v < 0
  · have : leftP p c v = [] := by simp only [leftP]; rw [if_neg (by omega)]
    simp [-getElem?_pos, this, v0]
  by_cases v1 : (p.vars.length : Int) ≤ v
  · have hn : p.vars[v.toNat]? = none := by rw [List.getElem?_eq_none_iff]; omega
    have : leftP p c v = [] := by simp only [leftP, hn]; split <;> rfl
    simp [-getElem?_pos, this, v0, v1]
  obtain ⟨n, rfl⟩ := Int.eq_ofNat_of_zero_le (a := v) (by omega)
  have hn : n < p.vars.length := by omega
  obtain ⟨x, hx⟩ : ∃ x, p.vars[n]? = some x := ⟨_, List.getElem?_eq_getElem hn⟩
  obtain ⟨l, hlx⟩ : ∃ l, c[n]? = some l := ⟨_, List.getElem?_eq_getElem (by omega)⟩
  have hw := wid28 hv0 x (List.mem_of_getElem? hx)
  have hfl := hc.each l (List.mem_of_getElem? hlx)
  by_cases hm : x.mode = 2
  case neg =>
    have : leftP p c n = [] := by simp [leftP, hx, hlx, hm]
    simp [-getElem?_pos, this, v0, v1, hx, hm]
  have hkL : okL x.width l = true := by
    have := hok n x l hx hlx
    simp only [okV, Bool.and_eq_true] at this
    exact this.2
  have hL : leftP p c n = restR x.width l := by rw [← left_rest hkL]; simp [leftP, hx, hlx, hm, hv]
  rw [hL]
  have hu := rest58 x.width hw.1 hw.2 l hfl
  simp [-getElem?_pos, v0, v1, hx, hm, hlx]
  refine kCall.call (G := quiet GG) hu (by simp) ?_
  simp [-getElem?_pos]

/-- The random variables before the i-th. -/
def rndL (l : List Var) (i : Nat) : List Int := ((List.range i).filter fun (j : Nat) => rndS l (j : Int)).map fun (j : Nat) => (j : Int)
theorem rndL_succ {l : List Var} {i : Nat} : rndL l (i + 1) = if rndS l (i : Int) = true then rndL l i ++ [(i : Int)] else rndL l i := by
  unfold rndL
  rw [List.range_succ, List.filter_append]
  by_cases h : rndS l (i : Int) = true
  · simp [h]
  · simp [h]
theorem rndL_len {l : List Var} {i : Nat} : (rndL l i).length ≤ i := by
  unfold rndL
  rw [List.length_map]
  exact Nat.le_trans (List.length_filter_le _ _) (by simp)
noncomputable def randomI (p : Problem) : List Int := if validP p ≠ 0 then [] else rndL p.vars p.vars.length
/-- What an appended list of numbers looks like. -/
def outI (s : List Int) : AV := match s with
  | [] => .sl 0 [] .nil
  | a :: r => .sl 1 ((a :: r).map encInt) (.chain 0 (r.length + 1))
theorem outI_end (s : List Int) (H : List Blk) : noRef (fin H (outI s)) = true ∧ Leq (fin H (outI s)) (.sl 1 (s.map encInt) .none) := by
  cases s with
  | nil => simp [outI, Leq]
  | cons a r => simp [outI, Leq]
def outTI (s : List Int) : List (Option Nat) := match s with
  | [] => []
  | _ :: r => [some (r.length + 1)]

theorem random27q (p : Problem) (h : VQ p) : Pure Tryz.prog GG 157 [.agg (encP p)] (.sl 1 ((randomI p).map encInt) .none) := by
  refine Pure.vc mixed Tryz.func157 rfl (by kernel_rfl) ?_
  have hv := valid14q p h
  have hr : ∀ i, Pure Tryz.prog GG 75 [.agg [.sl 4 (p.vars.map encVar) .none, .sl 4 (p.hard.map encE) .none, .sl 4 (p.soft.map encE) .none, .sl 2 (p.dists.map encDist) .none, .sl 1 (p.groups.map encInts) .none], .int .i64 i] (.bool (rndS p.vars i)) := fun i => by
    have hr := random GG p i
    rw [rndS_eq] at hr
    simpa only [encP] using hr
  simp only [encP] at hv
  have hv20 := h.vars
  simp
  refine vcCall.call hv (by simp) ?_
  by_cases h0 : validP p = 0
  · have x : randomI p = rndL p.vars p.vars.length := by simp [randomI, h0]
    rw [x]
    simp [h0]
    refine vcLoop.intro (fun q env σ => ∃ i, i ≤ p.vars.length ∧ q = p.vars.length - i ∧ env 1 = .ptr 0 0 ∧ env 3 = outI (rndL p.vars i) ∧ env 10 = .int .i64 p.vars.length ∧ env 11 = .int .i64 i ∧ σ = ⟨[.cells (encP p)], outTI (rndL p.vars i)⟩) p.vars.length ⟨0, by simp [rndL, outI, outTI]⟩ ?_
    rintro q env σ ⟨i, hi, rfl, h1, h3, h10, h11, rfl⟩
    by_cases hc : i < p.vars.length
    · have hc' : (i : Int) < p.vars.length := by omega
      have hlen := rndL_len (l := p.vars) (i := i)
      have hs := rndL_succ (l := p.vars) (i := i)
      simp [h1, h3, h10, h11, hc]
      refine vcCall.call (hr i) (by simp) ?_
      cases hri : rndS p.vars (i : Int)
      · rw [hri] at hs
        simp [h1, h3, h10, h11]
        exact ⟨_, by omega, i + 1, by omega, rfl, by rw [hs]; rfl, wr (by omega) (by omega), by rw [hs]; rfl⟩
      · rw [hri, if_pos rfl] at hs
        generalize hR : rndL p.vars i = R at h3 hlen hs ⊢
        cases R with
        | nil =>
          simp only [outI] at h3
          simp [h1, h3, h10, h11, outTI, appendA, buildSliceA, rowsFill, rowsOf]
          exact ⟨_, by omega, i + 1, by omega, rfl, by rw [hs]; simp [outI], wr (by omega) (by omega), by rw [hs]; simp [outTI]⟩
        | cons a r =>
          have hb : r.length ≤ 549755813886 := by simp at hlen; omega
          simp only [outI] at h3
          simp [h1, h3, h10, h11, outTI, appendA, buildSliceA, rowsFill, rowsOf, hb]
          exact ⟨_, by omega, i + 1, by omega, rfl, by rw [hs]; simp [outI], wr (by omega) (by omega), by rw [hs]; simp [outTI]⟩
    · have hi' : i = p.vars.length := by omega
      subst hi'
      have he := outI_end (rndL p.vars p.vars.length) [.cells (encP p)]
      simp [h1, h3, h10, h11]
      simpa using he
  · have x : randomI p = [] := by simp [randomI, h0]
    rw [x]
    simp [h0, Leq]
theorem random27 (p : Problem) (h : VP p) : Pure Tryz.prog GG 157 [.agg (encP p)] (.sl 1 ((randomI p).map encInt) .none) := random27q p h.q

theorem random28q (p : Problem) (h : VQ p) (hv20 : p.vars.length ≤ 20) (hfl : p.groups.flatten.length < 4611686018427387904) : Pure Tryz.prog GG 31 [.agg (encP p)] (.sl 1 ((randomI p).map encInt) .none) := by
  refine Pure.vc mixed Tryz.func31 rfl (by kernel_rfl) ?_
  have hv := valid23q p h hfl
  simp only [encP] at hv
  simp
  refine vcCall.call hv (by simp) ?_
  by_cases h0 : validP p = 0
  · have x : randomI p = rndL p.vars p.vars.length := by simp [randomI, h0]
    rw [x]
    simp [h0]
    refine vcLoop.intro (fun q env σ => ∃ i, i ≤ p.vars.length ∧ q = p.vars.length - i ∧ env 1 = .ptr 0 0 ∧ env 3 = outI (rndL p.vars i) ∧ env 4 = .int .i64 i ∧ σ = ⟨[.cells (encP p)], outTI (rndL p.vars i)⟩) p.vars.length ⟨0, by simp [rndL, outI, outTI]⟩ ?_
    rintro q env σ ⟨i, hi, rfl, h1, h3, h4, rfl⟩
    by_cases hc : i < p.vars.length
    · have hc' : (i : Int) < p.vars.length := by omega
      have hlen := rndL_len (l := p.vars) (i := i)
      have hs := rndL_succ (l := p.vars) (i := i)
      have hrr : rndS p.vars (i : Int) = (p.vars[i].mode != 0) := by simp [rndS, List.getElem?_eq_getElem hc]
      by_cases m0 : p.vars[i].mode = 0
      · have hri : rndS p.vars (i : Int) = false := by rw [hrr]; simp [m0]
        rw [hri] at hs
        simp [h1, h3, h4, hc, m0]
        exact ⟨_, by omega, i + 1, by omega, rfl, by rw [hs]; rfl, wr (by omega) (by omega), by rw [hs]; rfl⟩
      · have hri : rndS p.vars (i : Int) = true := by rw [hrr]; simp [m0]
        rw [hri, if_pos rfl] at hs
        generalize hR : rndL p.vars i = R at h3 hlen hs ⊢
        cases R with
        | nil =>
          simp only [outI] at h3
          simp [h1, h3, h4, hc, m0, outTI, appendA, buildSliceA, rowsFill, rowsOf]
          exact ⟨_, by omega, i + 1, by omega, rfl, by rw [hs]; simp [outI], wr (by omega) (by omega), by rw [hs]; simp [outTI]⟩
        | cons a r =>
          have hb : r.length ≤ 549755813886 := by simp at hlen; omega
          simp only [outI] at h3
          simp [h1, h3, h4, hc, m0, outTI, appendA, buildSliceA, rowsFill, rowsOf, hb]
          exact ⟨_, by omega, i + 1, by omega, rfl, by rw [hs]; simp [outI], wr (by omega) (by omega), by rw [hs]; simp [outTI]⟩
    · have hi' : i = p.vars.length := by omega
      subst hi'
      have he := outI_end (rndL p.vars p.vars.length) [.cells (encP p)]
      simp [h1, h3, h4]
      simpa using he
  · have x : randomI p = [] := by simp [randomI, h0]
    rw [x]
    simp [h0, Leq]
theorem random28 (p : Problem) (h : VP p) : Pure Tryz.prog GG 31 [.agg (encP p)] (.sl 1 ((randomI p).map encInt) .none) := random28q p h.q h.vars20 (by have := h.flat; omega)

/-- What memory can hold of a problem. -/
structure VH (p : Problem) : Prop where
  names : ∀ v ∈ p.vars, Fits v.name
  exprs : ∀ e ∈ p.hard ++ p.soft, Wen e
  dists : Fits p.dists
  weights : ∀ d ∈ p.dists, Fits d.weights
  groups : Fits p.groups
  group : ∀ g ∈ p.groups, Fits g
theorem VH.small {p : Problem} (h : VH p) (hs : smallS p = true) : VP p := by
  simp only [smallS, Bool.and_eq_true, Bool.not_eq_true', Bool.or_eq_false_iff, decide_eq_false_iff_not, List.all_eq_true, decide_eq_true_eq] at hs
  obtain ⟨⟨⟨⟨⟨⟨⟨⟨a1, a2⟩, a3⟩, a4⟩, a5⟩, b1⟩, b2⟩, b3⟩, b4⟩ := hs
  refine ⟨by omega, h.names, by omega, by omega, fun e he => ?_, h.dists, h.weights, h.groups, h.group, ?_⟩
  · have hb : briefS e 0 = true := by
      rcases List.mem_append.1 he with he | he
      · exact b1 e he
      · exact b2 e he
    have h1 := brief_hgt e 0 hb
    have h2 := brief_few hb
    exact ⟨h.exprs e he, by omega, by omega⟩
  · have : ∀ (g : List (List Int)), (∀ x ∈ g, x.length ≤ 20) → g.flatten.length ≤ g.length * 20 := by
      intro g
      induction g with
      | nil => simp
      | cons a r ih =>
        intro h
        have h1 := h a (by simp)
        have h2 := ih fun x hx => h x (by simp [hx])
        simp only [List.flatten_cons, List.length_append, List.length_cons]
        omega
    have := this p.groups b4
    omega

theorem widthAt_get {l : List Var} {i : Nat} (h : i < l.length) : widthAt l i = l[i].width := by simp [widthAt, List.getElem?_eq_getElem h]
/-- The number of random bits, as a machine adds. -/
def sumW (l : List Var) (s : List Int) : Int := s.foldl (fun n i => IntKind.i64.wrap (n + widthAt l i.toNat)) 0
theorem randomI_range {p : Problem} {i : Int} (h : i ∈ randomI p) : 0 ≤ i ∧ i < p.vars.length := by
  unfold randomI at h
  split at h
  · cases h
  · unfold rndL at h
    obtain ⟨j, hj, rfl⟩ := List.mem_map.1 h
    have := List.mem_range.1 (List.mem_filter.1 hj).1
    omega
theorem randomI_lenq (p : Problem) (h : p.vars.length ≤ 20) : (randomI p).length ≤ 20 := by
  unfold randomI
  split
  · simp
  · exact Nat.le_trans rndL_len h
theorem randomI_len (p : Problem) (h : VP p) : (randomI p).length ≤ 20 := randomI_lenq p h.vars20
theorem sum_succ {l : List Var} {s : List Int} {i : Nat} {v : Int} (h : s[i]? = some v) : sumW l (s.take (i + 1)) = IntKind.i64.wrap (sumW l (s.take i) + widthAt l v.toNat) := by
  unfold sumW
  rw [List.take_add_one, h, List.foldl_append]
  rfl

theorem bits24 (p : Problem) (h : VP p) : Pure Tryz.prog GG 156 [.agg (encP p)] (.int .i64 (sumW p.vars (randomI p))) := by
  refine Pure.vc mixed Tryz.func156 rfl (by kernel_rfl) ?_
  have hv := random27 p h
  have hlen := randomI_len p h
  have hrg : ∀ i ∈ randomI p, 0 ≤ i ∧ i < p.vars.length := fun i hi => randomI_range hi
  simp only [encP] at hv
  generalize randomI p = R at hv hlen hrg ⊢
  simp
  refine vcCall.call hv (by simp) ?_
  try simp
  refine vcLoop.intro (fun q env σ => ∃ i, i ≤ R.length ∧ q = R.length - i ∧ env 1 = .ptr 0 0 ∧ env 3 = .int .i64 (sumW p.vars (R.take i)) ∧ env 7 = .sl 1 (R.map encInt) .none ∧ env 8 = .int .i64 R.length ∧ env 9 = .int .i64 i ∧ σ = ⟨[.cells (encP p)], []⟩) R.length ⟨0, by simp [sumW]⟩ ?_
  rintro q env σ ⟨i, hi, rfl, h1, h3, h7, h8, h9, rfl⟩
  cases hvi : R[i]? with
  | some v =>
    obtain ⟨hc, hv'⟩ := List.getElem?_eq_some_iff.1 hvi
    obtain ⟨r1, r2⟩ := hrg v (List.mem_of_getElem? hvi)
    obtain ⟨j, rfl⟩ := Int.eq_ofNat_of_zero_le r1
    have hj : j < p.vars.length := by omega
    have hs := sum_succ (l := p.vars) hvi
    simp only [Int.toNat_natCast] at hs
    rw [widthAt_get hj] at hs
    simp [h1, h3, h7, h8, h9, hc, hv', hj]
    exact ⟨_, by omega, i + 1, by omega, rfl, by rw [hs], wr (by omega) (by omega)⟩
  | none =>
    have hc : ¬ i < R.length := by simp at hvi; omega
    have ht : R.take i = R := List.take_of_length_le (by omega)
    rw [ht] at h3
    simp [h1, h3, h7, h8, h9, hc]

theorem bits25q (p : Problem) (h : VQ p) (hv20 : p.vars.length ≤ 20) (hfl : p.groups.flatten.length < 4611686018427387904) : Pure Tryz.prog GG 17 [.agg (encP p)] (.int .i64 (sumW p.vars (randomI p))) := by
  refine Pure.vc mixed Tryz.func17 rfl (by kernel_rfl) ?_
  have hv := random28q p h hv20 hfl
  have hlen := randomI_lenq p hv20
  have hrg : ∀ i ∈ randomI p, 0 ≤ i ∧ i < p.vars.length := fun i hi => randomI_range hi
  simp only [encP] at hv
  generalize randomI p = R at hv hlen hrg ⊢
  simp
  refine vcCall.call hv (by simp) ?_
  try simp
  refine vcLoop.intro (fun q env σ => ∃ i, i ≤ R.length ∧ q = R.length - i ∧ env 1 = .ptr 0 0 ∧ env 3 = .sl 1 (R.map encInt) .none ∧ env 4 = .int .i64 (sumW p.vars (R.take i)) ∧ env 5 = .int .i64 i ∧ σ = ⟨[.cells (encP p)], []⟩) R.length ⟨0, by simp [sumW]⟩ ?_
  rintro q env σ ⟨i, hi, rfl, h1, h3, h4, h5, rfl⟩
  cases hvi : R[i]? with
  | some v =>
    obtain ⟨hc, hv'⟩ := List.getElem?_eq_some_iff.1 hvi
    obtain ⟨r1, r2⟩ := hrg v (List.mem_of_getElem? hvi)
    obtain ⟨j, rfl⟩ := Int.eq_ofNat_of_zero_le r1
    have hj : j < p.vars.length := by omega
    have hs := sum_succ (l := p.vars) hvi
    simp only [Int.toNat_natCast] at hs
    rw [widthAt_get hj] at hs
    simp [h1, h3, h4, h5, hc, hv', hj]
    exact ⟨_, by omega, i + 1, by omega, rfl, by rw [hs], wr (by omega) (by omega)⟩
  | none =>
    have hc : ¬ i < R.length := by simp at hvi; omega
    have ht : R.take i = R := List.take_of_length_le (by omega)
    rw [ht] at h4
    simp [h1, h3, h4, h5, hc]
theorem bits25 (p : Problem) (h : VP p) : Pure Tryz.prog GG 17 [.agg (encP p)] (.int .i64 (sumW p.vars (randomI p))) := bits25q p h.q h.vars20 (by have := h.flat; omega)

theorem size105 (e : Ex) (hwe : Wen e) (hh : hgt e ≤ 1000) (hsz : (pre e).length ≤ 200000000000) : Pure Tryz.prog GG 26 [.agg (encE e)] (.int .i64 (sizeS e)) := by
  refine Pure.k mixed Tryz.func26 rfl (by kernel_rfl) ?_
  simp only [encE_eq e]
  simp [-getElem?_pos]
  rw [← encE_eq e]
  refine kCall.acall (over159 e hwe hh hsz _) ?_
  rintro r σ ⟨b, V, A, tv, ta, rfl, hb⟩
  simp [-getElem?_pos, hb]
/-- At most 5 expressions of at most 20 nodes. -/
def exprsS (l : List Ex) : Bool := decide (l.length ≤ 5) && (l.take 6).all fun e => shortS e 8 && decide (sizeS e ≤ 20)
theorem exprs52 (l : List Ex) (hl : Fits l) (hw : ∀ e ∈ l, Wen e) : Pure Tryz.prog GG 15 [.sl 4 (l.map encE) .none] (.bool (exprsS l)) := by
  refine Pure.k mixed Tryz.func15 rfl (by kernel_rfl) ?_
  simp [-getElem?_pos]
  obtain ⟨r, hr⟩ : ∃ r, r = exprsS l := ⟨_, rfl⟩
  rw [← hr]
  refine kLoop.list (l.take 6) (fun d env σ => env 0 = .sl 4 (l.map encE) .none ∧ env 3 = .int .i64 d.length ∧ σ = ⟨[], []⟩ ∧ (d.all fun e => shortS e 8 && decide (sizeS e ≤ 20)) = true) ?_ ?_ ?_
  · simp
  · rintro d e s env σ hd he hlt ⟨e0, e3, rfl, hall⟩
    have hlt' : d.length < 6 ∧ d.length < l.length := by simp at hlt; omega
    have he' : l[d.length]? = some e := by rw [List.getElem?_take] at he; split at he <;> first | exact he | cases he
    have hm6 := List.mem_of_getElem? he
    have hwe := hw e (List.mem_of_getElem? he')
    have hw1 := wr (n := (d.length : Int) + 1) (by omega) (by omega)
    have h6 : (d.length : Int) < 6 := by omega
    have hbad : (shortS e 8 && decide (sizeS e ≤ 20)) = false → r = false := by
      intro h
      rw [hr, Bool.eq_false_iff]
      intro h2
      simp only [exprsS, Bool.and_eq_true, List.all_eq_true] at h2
      have := h2.2 e hm6
      simp only [Bool.and_eq_false_iff] at h
      rcases h with h | h
      · rw [h] at this; cases this.1
      · rw [h] at this; cases this.2
    simp [-getElem?_pos, e0, e3, hlt'.2, h6, he', encE_eq e]
    rw [← encE_eq e]
    refine kCall.call (G := quiet GG) (short104 8 e (fun x hx => (hwe x hx).1) (by omega)) (by simp) ?_
    cases hs : shortS e 8
    · have hr0 : r = false := hbad (by simp [hs])
      simp [-getElem?_pos, e0, e3, unA, hr0]
    · obtain ⟨q1, q2⟩ := short8 hs
      simp [-getElem?_pos, e0, e3, unA, he', encE_eq e]
      rw [← encE_eq e]
      refine kCall.call (G := quiet GG) (size105 e hwe (by omega) q2) (by simp) ?_
      by_cases hz : sizeS e ≤ 20
      · have hz' : ¬ 20 < sizeS e := by omega
        simp [-getElem?_pos, e0, e3, hz', hw1, hs, hz]
        simpa using hall
      · have hz' : 20 < sizeS e := by omega
        have hr0 : r = false := hbad (by simp [hs, hz])
        simp [-getElem?_pos, e0, e3, hz', hr0]
  · rintro env σ ⟨e0, e3, rfl, hall⟩
    by_cases h5 : l.length ≤ 5
    · have hm : (l.take 6).length = l.length := by simp; omega
      rw [hm] at e3
      have hr1 : r = true := by rw [hr]; simp only [exprsS, h5, decide_true, Bool.true_and]; exact hall
      have h5' : (l.length : Int) ≤ 5 := by omega
      simp [-getElem?_pos, e0, e3, hr1, h5']
    · have hm : (l.take 6).length = 6 := by simp; omega
      rw [hm] at e3
      have hr0 : r = false := by rw [hr]; simp [exprsS, h5]
      have h5' : ¬ (l.length : Int) ≤ 5 := by omega
      have h6' : (6 : Int) ≤ l.length := by omega
      simp [-getElem?_pos, e0, e3, hr0, h5']

noncomputable def smallC (p : Problem) : Bool :=
  decide (p.vars.length ≤ 5) && decide (p.dists.length ≤ 5) && decide (p.groups.length ≤ 5) && exprsS p.hard && exprsS p.soft && (p.dists.all fun d => decide (d.weights.length ≤ 20)) && (!decide (validP p = 0) || decide (sumW p.vars (randomI p) ≤ 7))
/-- What memory can hold of a problem of law 24. -/
structure VM (p : Problem) : Prop where
  h : VH p
  vars : Fits p.vars
  hard : Fits p.hard
  soft : Fits p.soft
  grp : ∀ g ∈ p.groups, g.length < 17592186044416
theorem VM.flat {p : Problem} (h : VM p) (hg : p.groups.length ≤ 5) : p.groups.flatten.length < 4611686018427387904 := by
  have : ∀ (g : List (List Int)), (∀ x ∈ g, x.length < 17592186044416) → g.flatten.length ≤ g.length * 17592186044416 := by
    intro g
    induction g with
    | nil => simp
    | cons a r ih =>
      intro h
      have h1 := h a (by simp)
      have h2 := ih fun x hx => h x (by simp [hx])
      simp only [List.flatten_cons, List.length_append, List.length_cons]
      omega
  have := this p.groups h.grp
  omega
theorem exprsS_spec {l : List Ex} (h : exprsS l = true) : l.length ≤ 5 ∧ ∀ e ∈ l, hgt e ≤ 8 ∧ (pre e).length ≤ 20 := by
  simp only [exprsS, Bool.and_eq_true, decide_eq_true_eq, List.all_eq_true] at h
  refine ⟨h.1, fun e he => ?_⟩
  have hm : l.take 6 = l := List.take_of_length_le (by omega)
  rw [hm] at h
  obtain ⟨h1, h2⟩ := h.2 e he
  obtain ⟨q1, q2⟩ := short8 h1
  refine ⟨q1, ?_⟩
  unfold sizeS at h2
  rw [wr (by omega) (by omega)] at h2
  omega
theorem VM.q {p : Problem} (h : VM p) (hv : p.vars.length ≤ 5) (h1 : exprsS p.hard = true) (h2 : exprsS p.soft = true) : VQ p := by
  obtain ⟨a1, a2⟩ := exprsS_spec h1
  obtain ⟨b1, b2⟩ := exprsS_spec h2
  refine ⟨by omega, h.h.names, by omega, by omega, fun e he => ?_, h.h.dists, h.h.weights, h.h.groups, h.h.group⟩
  refine ⟨h.h.exprs e he, ?_⟩
  rcases List.mem_append.1 he with he | he
  · have := a2 e he; omega
  · have := b2 e he; omega
theorem small15 (p : Problem) (h : VM p) : Pure Tryz.prog GG 4 [.agg (encP p)] (.bool (smallC p)) := by
  refine Pure.k mixed Tryz.func4 rfl (by kernel_rfl) ?_
  obtain ⟨r, hr⟩ : ∃ r, r = smallC p := ⟨_, rfl⟩
  rw [← hr]
  by_cases hv : p.vars.length ≤ 5
  case neg =>
    have hv' : (5 : Int) < p.vars.length := by omega
    have hr0 : r = false := by rw [hr]; simp [smallC, hv]
    simp [-getElem?_pos, hv', hr0]
  by_cases hd : p.dists.length ≤ 5
  case neg =>
    have hv' : ¬ (5 : Int) < p.vars.length := by omega
    have hd' : (5 : Int) < p.dists.length := by omega
    have hr0 : r = false := by rw [hr]; simp [smallC, hd]
    simp [-getElem?_pos, hv', hd', hr0]
  by_cases hg : p.groups.length ≤ 5
  case neg =>
    have hv' : ¬ (5 : Int) < p.vars.length := by omega
    have hd' : ¬ (5 : Int) < p.dists.length := by omega
    have hg' : (5 : Int) < p.groups.length := by omega
    have hr0 : r = false := by rw [hr]; simp [smallC, hg]
    simp [-getElem?_pos, hv', hd', hg', hr0]
  have hv' : ¬ (5 : Int) < p.vars.length := by omega
  have hd' : ¬ (5 : Int) < p.dists.length := by omega
  have hg' : ¬ (5 : Int) < p.groups.length := by omega
  have e1 := exprs52 p.hard h.hard fun e he => h.h.exprs e (List.mem_append_left _ he)
  have e2 := exprs52 p.soft h.soft fun e he => h.h.exprs e (List.mem_append_right _ he)
  simp [-getElem?_pos, hv', hd', hg']
  refine kCall.call (G := quiet GG) e1 (by simp) ?_
  cases h1 : exprsS p.hard
  case false =>
    have hr0 : r = false := by rw [hr]; simp [smallC, h1]
    simp [-getElem?_pos, unA, hr0]
  simp [-getElem?_pos, unA]
  refine kCall.call (G := quiet GG) e2 (by simp) ?_
  cases h2 : exprsS p.soft
  case false =>
    have hr0 : r = false := by rw [hr]; simp [smallC, h2]
    simp [-getElem?_pos, unA, hr0]
  have hq := h.q hv h1 h2
  have h28 := valid23q p hq (h.flat hg)
  have h29 := bits25q p hq (by omega) (h.flat hg)
  simp only [encP] at h28 h29
  simp [-getElem?_pos, unA]
  refine kLoop.list p.dists (fun d env σ => env 1 = .ptr 0 0 ∧ env 3 = .int .i64 d.length ∧ σ = ⟨[.cells (encP p)], []⟩ ∧ (d.all fun d => decide (d.weights.length ≤ 20)) = true) ?_ ?_ ?_
  · simp
  · rintro d x s env σ hds hx hlt ⟨f1, f3, rfl, hall⟩
    have hw1 := wr (n := (d.length : Int) + 1) (by omega) (by omega)
    by_cases hwx : x.weights.length ≤ 20
    · have hwx' : ¬ (20 : Int) < x.weights.length := by omega
      simp [-getElem?_pos, f1, f3, hlt, hx, hwx', hw1, hwx]
      simpa using hall
    · have hwx' : (20 : Int) < x.weights.length := by omega
      have hr0 : r = false := by
        rw [hr, Bool.eq_false_iff]
        intro ht
        simp only [smallC, Bool.and_eq_true, List.all_eq_true, decide_eq_true_eq] at ht
        exact hwx (ht.1.2 x (List.mem_of_getElem? hx))
      simp [-getElem?_pos, f1, f3, hlt, hx, hwx', hr0]
  · rintro env σ ⟨f1, f3, rfl, hall⟩
    have hrs : r = (!decide (validP p = 0) || decide (sumW p.vars (randomI p) ≤ 7)) := by
      rw [hr]; unfold smallC; rw [h1, h2, hall]; simp [hv, hd, hg]
    simp [-getElem?_pos, f1, f3]
    refine kCall.call (G := quiet GG) h28 (by simp) ?_
    by_cases h0 : validP p = 0
    · simp [-getElem?_pos, f1, h0]
      refine kCall.call (G := quiet GG) h29 (by simp) ?_
      simp [-getElem?_pos, hrs, h0]
    · simp [-getElem?_pos, f1, h0, hrs]
end Go.Proofs.YtpjdjolphpfanaaGreatDoor
end
