/- A part of the proof. -/
import Derived.Test.YtpjdjolphpfanaaGreatDoorGa21
import Derived.Test.YtpjdjolphpfanaaGreatDoorGa23
set_option linter.unusedVariables false
set_option linter.unusedSimpArgs false
set_option maxRecDepth 100000
set_option linter.defProp false
section
namespace Go.Proofs.YtpjdjolphpfanaaGreatDoor
open Go Go.Abs
def oM : Opts := ⟨true, [], [], []⟩
@[simp] theorem oM_mu : oM.mu = true := rfl
@[simp] theorem oM_lw : oM.lw = [] := rfl

theorem grow197 (n : Nat) (hn : n ≤ 1000000) (σ : St) : ACall Tryz.prog GG 102 [.sl 0 [] .nil, .int .i64 n] σ (fun r σ' => (n = 0 ∧ r = .sl 0 [] .nil ∧ σ' = σ) ∨ (0 < n ∧ r = .ms σ.H.length 0 0 4 ∧ ∃ c, σ' = σ.push (.cells c))) := by
  refine ACall.vcO oM mixed Tryz.func102 rfl (by kernel_rfl) ?_
  have h1 : ¬ (n : Int) < 0 := by omega
  have hw : IntKind.i64.wrap (n : Int) = n := wr (by omega) (by omega)
  have w0 : IntKind.i64.wrap 0 = 0 := by decide
  by_cases h0 : n = 0
  · subst h0
    simp [capA, w0]
  · have h2 : (0 : Int) < n := by omega
    have h3 : 0 < n := by omega
    have h4 : (n : Int) ≤ 549755813888 := by omega
    simp [capA, h1, hw, w0, h2, h3, h4, sliceA, boundA, thirdA, sliceTok, appendX, appendM, plainTD]

/-- What was put together so far. -/
def CR (T R : List Ex) (v : AV) (σ : St) : Prop := (T = [] ∧ v = .sl 0 [] .nil) ∨ ∃ b c, v = .ms b 0 R.length 4 ∧ σ.H[b]? = some (.cells c) ∧ R.length * 4 ≤ c.length ∧ c.take (R.length * 4) = (R.map encE).flatten
@[simp] theorem encE_len (e : Ex) : (encE e).length = 4 := by rw [encE_eq]; rfl
theorem flat_len : ∀ (l : List Ex), ((l.map encE).flatten).length = l.length * 4
  | [] => rfl
  | a :: r => by simp only [List.map_cons, List.flatten_cons, List.length_append, encE_len, flat_len r, List.length_cons]; omega
theorem chunk_flat : ∀ (R : List Ex) (c : List AV), R.length * 4 ≤ c.length → c.take (R.length * 4) = (R.map encE).flatten → chunk 4 R.length c = R.map encE
  | [], c, _, _ => rfl
  | a :: r, c, hl, h => by
    have e1 : c.take 4 = encE a := by
      have := congrArg (List.take 4) h
      rw [List.take_take, List.map_cons, List.flatten_cons, List.take_left' (encE_len a)] at this
      rw [← this]
      congr 1
      simp only [List.length_cons]; omega
    have e2 : (c.drop 4).take (r.length * 4) = (r.map encE).flatten := by
      have := congrArg (List.drop 4) h
      rw [List.map_cons, List.flatten_cons, List.drop_left' (encE_len a), List.drop_take] at this
      rw [← this]
      congr 1
      simp only [List.length_cons]; omega
    rw [List.length_cons, chunk, e1, chunk_flat r (c.drop 4) (by simp only [List.length_drop, List.length_cons] at hl ⊢; omega) e2, List.map_cons]
theorem app_step {T R X : List Ex} {b : Nat} {c : List AV} {σ : St} (hb : σ.H[b]? = some (.cells c)) (hl : R.length * 4 ≤ c.length) (h : c.take (R.length * 4) = (R.map encE).flatten) (hR : R.length + X.length ≤ 1000000) :
    ∃ v' σ', appendX (Dof Tryz.prog) σ 23 23 (.ms b 0 R.length 4) (.sl 4 (X.map encE) .none) = some (v', σ') ∧ CR T (R ++ X) v' σ' := by
  cases X with
  | nil =>
    refine ⟨.ms b 0 R.length 4, σ, ?_, .inr ⟨b, c, by simp, hb, by simpa using hl, by simpa using h⟩⟩
    simp [appendX, appendM, plainTD, srcA]
  | cons x X =>
    refine ⟨.ms σ.H.length 0 (R.length + (X.length + 1)) 4, { σ with H := σ.H.set b .dead ++ [.cells (c.take (R.length * 4) ++ ((x :: X).map encE).flatten)] }, ?_, .inr ⟨σ.H.length, c.take (R.length * 4) ++ ((x :: X).map encE).flatten, by simp, by simp, ?_, ?_⟩⟩
    · have h1 : R.length + (X.length + 1) ≤ 549755813888 := by simp at hR; omega
      simp [appendX, appendM, plainTD, srcA, hb, h1, hl]
    · rw [h]; simp only [List.length_append, flat_len]; omega
    · rw [h, List.take_of_length_le (by simp only [List.length_append, flat_len]; omega), List.map_append, List.flatten_append]

theorem concat127 (h s : List Ex) (hh : h.length ≤ 10000) (hs : s.length ≤ 10000) : Pure Tryz.prog GG 69 [.sl 1 [[.sl 4 (h.map encE) .none], [.sl 4 (s.map encE) .none]] .none] (.sl 4 ((h ++ s).map encE) .none) := by
  refine Pure.vcO oM false mixed Tryz.func69 rfl (by kernel_rfl) ?_
  have w1 : IntKind.i64.wrap (h.length : Int) = h.length := wr (by omega) (by omega)
  have w2 : IntKind.i64.wrap ((h.length : Int) + s.length) = h.length + s.length := wr (by omega) (by omega)
  have n1 : ¬ (h.length : Int) < 0 := by omega
  have n2 : ¬ (h.length : Int) + s.length < 0 := by omega
  have wi : IntKind.i64.wrap 1 = 1 := by decide
  have wi2 : IntKind.i64.wrap 2 = 2 := by decide
  simp
  refine vcLoop.intro (fun n env σ => ∃ i : Nat, i ≤ 2 ∧ n = 2 - i ∧ env 0 = .sl 1 [[.sl 4 (h.map encE) .none], [.sl 4 (s.map encE) .none]] .none ∧ env 3 = .int .i64 (if i = 0 then 0 else if i = 1 then h.length else h.length + s.length) ∧ env 9 = .sl 1 [[.sl 4 (h.map encE) .none], [.sl 4 (s.map encE) .none]] .none ∧ env 10 = .int .i64 2 ∧ env 11 = .int .i64 i ∧ σ = ⟨[], []⟩) 2 ⟨0, by simp⟩ ?_
  rintro n env σ ⟨i, hi, rfl, h0, h3, h9, h10, h11, rfl⟩
  have hcase : i = 0 ∨ i = 1 ∨ i = 2 := by omega
  rcases hcase with rfl | rfl | rfl
  · simp [h0, h3, h9, h10, h11, w1, n1, wi]
    exact ⟨1, by omega, 1, by omega, rfl, rfl, rfl⟩
  · simp [h0, h3, h9, h10, h11, w2, n2, wi2]
    exact ⟨2, by omega, by omega, rfl, rfl⟩
  · have hN : ((h.length : Int) + s.length) = ((h.length + s.length : Nat) : Int) := by omega
    simp [h0, h3, h9, h10, h11]
    rw [hN]
    refine ACall.imp (grow197 (h.length + s.length) (by omega) ⟨[], []⟩) ?_
    intro r σ' hr
    have hcr : CR (h ++ s) [] r σ' := by
      rcases hr with ⟨h1, h2, h3⟩ | ⟨h1, h2, c, h3⟩
      · exact .inl ⟨List.eq_nil_of_length_eq_zero (by rw [List.length_append]; exact h1), h2⟩
      · subst h3
        exact .inr ⟨0, c, h2, rfl, by simp, by simp⟩
    clear hr
    refine vcLoop.intro (fun n env σ => ∃ i : Nat, i ≤ 2 ∧ n = 2 - i ∧ env 25 = .sl 1 [[.sl 4 (h.map encE) .none], [.sl 4 (s.map encE) .none]] .none ∧ env 26 = .int .i64 2 ∧ env 27 = .int .i64 i ∧ CR (h ++ s) (if i = 0 then [] else if i = 1 then h else h ++ s) (env 6) σ) 2 ⟨0, by simp [h0]; exact hcr⟩ ?_
    clear h0 h3 h9 h10 h11 hcr
    rintro n env σ ⟨i, hi, rfl, h25, h26, h27, hcr⟩
    have hcase : i = 0 ∨ i = 1 ∨ i = 2 := by omega
    rcases hcase with rfl | rfl | rfl
    · simp only [if_true] at hcr
      rcases hcr with ⟨ht, h6⟩ | ⟨b, c, h6, hb, hl, hc⟩
      · simp only [List.append_eq_nil_iff] at ht
        obtain ⟨rfl, rfl⟩ := ht
        simp [h25, h26, h27, h6, wi, appendX, appendM, appendA, plainTD, srcA, rowsOf]
        exact ⟨1, by omega, 1, by omega, rfl, rfl, .inl ⟨rfl, rfl⟩⟩
      · obtain ⟨v', σ', e1, e2⟩ := app_step (T := h ++ s) (X := h) hb hl hc (by simp; omega)
        simp only [List.length_nil] at h6 e1
        simp [h25, h26, h27, h6, wi, e1]
        exact ⟨1, by omega, 1, by omega, rfl, rfl, by simpa using e2⟩
    · simp only [Nat.one_ne_zero, if_false, if_true] at hcr
      rcases hcr with ⟨ht, h6⟩ | ⟨b, c, h6, hb, hl, hc⟩
      · simp only [List.append_eq_nil_iff] at ht
        obtain ⟨rfl, rfl⟩ := ht
        simp [h25, h26, h27, h6, wi2, appendX, appendM, appendA, plainTD, srcA, rowsOf]
        exact ⟨2, by omega, by omega, rfl, .inl ⟨rfl, rfl⟩⟩
      · obtain ⟨v', σ', e1, e2⟩ := app_step (T := h ++ s) (X := s) hb hl hc (by omega)
        simp [h25, h26, h27, h6, wi2, e1]
        exact ⟨2, by omega, by omega, rfl, by simpa using e2⟩
    · simp only [show ¬ (2 : Nat) = 0 by omega, show ¬ (2 : Nat) = 1 by omega, if_false] at hcr
      rcases hcr with ⟨ht, h6⟩ | ⟨b, c, h6, hb, hl, hc⟩
      · simp only [List.append_eq_nil_iff] at ht
        obtain ⟨rfl, rfl⟩ := ht
        simp [h25, h26, h27, h6]
      · have hk := chunk_flat (h ++ s) c hl hc
        simp only [List.length_append] at hk hl
        rw [List.length_append] at h6
        simp [h25, h26, h27, h6, hb, hl, hk, noRefss_append]

/-- A name that is not a variable's. -/
theorem foreign131 (p : Problem) (s : Str) (hl : Fits p.vars) : Pure Tryz.prog GG 74 [.str s, .rptr (encP p)] (.bool (!hasV p.vars s)) := by
  refine Pure.vc mixed Tryz.func74 rfl (by kernel_rfl) ?_
  simp
  refine vcCall.call (index GG p.vars s hl) (by simp) ?_
  have := findI_neg (fun v : Var => v.name == s) p.vars
  simp [this, hasV]

set_option maxHeartbeats 4000000 in
theorem exprs64 (p : Problem) (hl : Fits p.vars) (hh : p.hard.length ≤ 10000) (hs : p.soft.length ≤ 10000) (hw : ∀ e ∈ p.hard ++ p.soft, Wen e ∧ hgt e ≤ 1000 ∧ (pre e).length ≤ 100000) :
    Pure Tryz.prog GG 42 [.agg (encP p)] (.int .i64 (firstE (exprE p.vars) (p.hard ++ p.soft))) := by
  refine Pure.vc mixed Tryz.func42 rfl (by kernel_rfl) ?_
  simp [buildSliceA, rowsFill]
  obtain ⟨L, hL⟩ : ∃ L, L = p.hard ++ p.soft := ⟨_, rfl⟩
  have hlen : L.length ≤ 20000 := by rw [hL, List.length_append]; omega
  refine vcCall.less (concat127 p.hard p.soft hh hs) (by simp) (by simp [Leq]) ?_
  rw [← hL] at hw ⊢
  simp
  refine vcLoop.intro (fun n env σ => ∃ i tail, i ≤ L.length ∧ n = L.length - i ∧ env 1 = .ptr 0 0 ∧ env 11 = .sl 4 (L.map encE) .none ∧ env 12 = .int .i64 L.length ∧ env 13 = .int .i64 i ∧ σ = ⟨.cells (encP p) :: tail, []⟩ ∧ ∀ e ∈ L.take i, exprE p.vars e = 0) L.length ⟨0, [], by simp⟩ ?_
  rintro n env σ ⟨i, tail, hi, rfl, h1, h11, h12, h13, rfl, hz⟩
  cases hv : L[i]? with
  | some e =>
    obtain ⟨hc, hv'⟩ := List.getElem?_eq_some_iff.1 hv
    have hm := List.mem_of_getElem? hv
    obtain ⟨hwe, hh1, hp1⟩ := hw e hm
    have bad : exprE p.vars e ≠ 0 → firstE (exprE p.vars) L = exprE p.vars e := fun h => firstE_of hv hz h
    simp [h1, h11, h12, h13, hc, hv', encE_eq e, List.set_append]
    rw [← encE_eq e]
    refine vcCall.call (valid88 e hwe (by omega)) (by simp) ?_
    by_cases h0 : validE e = 0
    · simp [h0, h1, h11, h12, h13, encE_eq e, List.set_append]
      rw [← encE_eq e]
      refine vcCall.call (arrays128 e hwe hp1) (by simp) ?_
      have hab := arrB_names (e := e)
      cases ha : arrB e
      · rw [ha] at hab
        have hlz : (namesS [3, 24] e).length = 0 := by have := of_decide_eq_false hab; omega
        have hnil := List.eq_nil_of_length_eq_zero hlz
        simp [hnil, h1, h11, h12, h13, encE_eq e, List.set_append]
        rw [← encE_eq e]
        refine vcCall.call (names130 e hwe hp1) (by simp) ?_
        try simp [h1, h11, h12, h13]
        have hfn : Fits (namesS [2] e) := by
          have : ∀ (l : List Ex) (s : List Str), (l.foldl (addN [2]) s).length ≤ s.length + l.length := by
            intro l
            induction l with
            | nil => intro s; simp
            | cons a r ih => intro s; have := ih (addN [2] s a); have := addN_length (ops := [2]) (s := s) (e := a); simp only [List.foldl_cons, List.length_cons]; omega
          have := this (pre e) []
          simp only [Fits, namesS, List.length_nil] at this ⊢
          omega
        refine vcCall.lent (containsFuncStr GG (namesS [2] e) (fun s => !hasV p.vars s) 74 [] [.rptr (encP p)] hfn rfl (by simp) fun s _ => foreign131 p s hl) rfl ?_ ?_
        · simp [frz]
        · rw [forB_names]
          cases hf : forB p.vars e
          · have x : exprE p.vars e = 0 := by simp only [exprE, h0, ha, hf]; rfl
            simp [h1, h11, h12, h13]
            exact ⟨_, by omega, i + 1, by omega, rfl, wr (by omega) (by omega), take_succ_all hv hz x⟩
          · have x : exprE p.vars e = 7 := by simp only [exprE, h0, ha, hf]; rfl
            rw [bad (by rw [x]; decide), x]
            simp
      · rw [ha] at hab
        have hlz : 0 < (namesS [3, 24] e).length := of_decide_eq_true hab
        have x : exprE p.vars e = 9 := by simp only [exprE, h0, ha]; rfl
        rw [bad (by rw [x]; decide), x]
        simp [hlz]
    · have x : exprE p.vars e = validE e := by simp only [exprE]; rw [if_pos h0]
      rw [bad (by rw [x]; exact h0), x]
      simp [h0]
  | none =>
    have hc : ¬ i < L.length := by simp at hv; omega
    have ht : L.take i = L := List.take_of_length_le (by omega)
    rw [ht] at hz
    rw [firstE_zero.2 hz]
    simp [h1, h11, h12, h13, hc]
end Go.Proofs.YtpjdjolphpfanaaGreatDoor
end
