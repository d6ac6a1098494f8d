/- A part of the proof: texts Walk18 Walk19 Walk20. -/
import Derived.Test.YtpgcmnabljandaaGreatDoorWk14
import Derived.Test.YtpgcmnabljandaaGreatDoorWk13

section
/-
  Walks: the groups of a problem.
-/
set_option linter.unusedVariables false
set_option linter.unusedSimpArgs false
set_option maxRecDepth 100000
namespace Go.Proofs.YtpgcmnabljandaaGreatDoor
open Go Go.Abs

def seenC (n : Nat) (d : List Int) : List AV := (List.range n).map fun (j : Nat) => AV.bool (decide ((j : Int) ∈ d))
@[simp] theorem seenC_length {n : Nat} {d : List Int} : (seenC n d).length = n := by simp [seenC]
theorem seenC_nil {n : Nat} : (List.replicate n [AV.bool false]).flatten = seenC n [] := by
  simp only [seenC, List.not_mem_nil, decide_false]
  induction n with
  | zero => simp
  | succ n ih => rw [List.range_succ, List.map_append, ← ih, List.replicate_succ']; simp
theorem seenC_get {n j : Nat} {d : List Int} (h : j < n) : (seenC n d)[j]? = some (.bool (decide ((j : Int) ∈ d))) := by simp [seenC, h]
theorem seenC_set {n j : Nat} {d : List Int} (h : j < n) : (seenC n d).set j (.bool true) = seenC n (d ++ [(j : Int)]) := by
  apply List.ext_getElem?
  intro i
  by_cases hi : i < n
  · rw [List.getElem?_set, seenC_get hi, seenC_get hi]
    by_cases hij : j = i
    · subst hij; simp [h]
    · rw [if_neg hij]
      have : ¬ (i : Int) = j := by omega
      simp [this]
  · rw [List.getElem?_eq_none (by simp; omega), List.getElem?_eq_none (by simp; omega)]
theorem flat_split {g : List (List Int)} {i k : Nat} {x : List Int} {v : Int} (hg : g[i]? = some x) (hx : x[k]? = some v) :
    g.flatten = ((g.take i).flatten ++ x.take k) ++ v :: (x.drop (k + 1) ++ (g.drop (i + 1)).flatten) := by
  have e1 : g = g.take i ++ x :: g.drop (i + 1) := by conv => lhs; rw [← List.take_append_drop i g, drop_cons hg]
  have e2 : x = x.take k ++ v :: x.drop (k + 1) := by conv => lhs; rw [← List.take_append_drop k x, drop_cons hx]
  conv => lhs; rw [e1]
  rw [List.flatten_append, List.flatten_cons]
  conv => lhs; rw [e2]
  simp
theorem flat_take {g : List (List Int)} {i : Nat} {x : List Int} (hg : g[i]? = some x) : (g.take (i + 1)).flatten = (g.take i).flatten ++ x := by
  rw [List.take_add_one, hg]; simp

theorem groups68n (p : Problem) (hv : p.vars = []) (hg : Fits p.groups) : Pure Tryz.prog GG 68 [.agg (encP p)] (.int .i64 (groupsS p.vars p.groups)) := by
  refine Pure.vc mixed Tryz.func68 rfl (by kernel_rfl) ?_
  have hr0 : ∀ i, rndS p.vars i = false := fun i => by simp [rndS, hv]
  have hrv : p.vars.length = 0 := by rw [hv]; rfl
  simp [makeSliceA, hrv]
  refine vcLoop.intro (fun n env σ => n = 1 ∧ env 1 = .ptr 0 0 ∧ env 14 = .sl 1 (p.groups.map encInts) .none ∧ env 15 = .int .i64 p.groups.length ∧ env 16 = .int .i64 0 ∧ σ = ⟨[.cells (encP p)], [some 0]⟩) 1 ⟨rfl, by simp⟩ ?_
  rintro n env σ ⟨rfl, h1, h14, h15, h16, rfl⟩
  cases hgs : p.groups with
  | nil =>
    have x : groupsS p.vars [] = 0 := by
      unfold groupsS
      rw [if_pos ⟨by simp, by simp, by simp, fun i hi => by omega⟩]
    rw [hgs] at h15
    rw [x]
    simp [h1, h14, h15, h16, hrv]
    refine vcLoop.intro (fun n env σ => n = 1 ∧ env 46 = .int .i64 0 ∧ env 47 = .int .i64 0) 1 ⟨rfl, by simp⟩ ?_
    rintro n env σ ⟨rfl, h46, h47⟩
    simp [h46, h47]
  | cons g r =>
    rw [hgs] at h14 h15
    cases g with
    | nil =>
      have x : groupsS p.vars ([] :: r) = 1 := by
        unfold groupsS
        rw [if_neg (groups_empty (by simp))]
      rw [x]
      have hp : (0 : Int) < r.length + 1 := by omega
      simp [h1, h14, h15, h16, hp]
    | cons v g =>
      have x : groupsS p.vars ((v :: g) :: r) = 1 := by
        unfold groupsS
        rw [if_neg (groups_bad (i := v) (by simp) (hr0 v))]
      rw [x]
      have hp : (0 : Int) < r.length + 1 := by omega
      have hp2 : ¬ (g.length : Int) + 1 = 0 := by omega
      simp [h1, h14, h15, h16, hp, hp2]
      refine vcLoop.intro (fun n env σ => n = 1 ∧ env 1 = .ptr 0 0 ∧ env 23 = .sl 1 ((v :: g).map encInt) .none ∧ env 24 = .int .i64 (g.length + 1) ∧ env 25 = .int .i64 0 ∧ σ = ⟨[.cells (encP p)], [some 0]⟩) 1 ⟨rfl, by simp [h1]⟩ ?_
      rintro n env σ ⟨rfl, h1, h23, h24, h25, rfl⟩
      have hp3 : (0 : Int) < g.length + 1 := by omega
      have hr := random GG p v
      rw [rndS_eq, hr0] at hr
      simp only [encP] at hr
      simp [h1, h23, h24, h25, hp3]
      refine vcCall.call hr (by simp) ?_
      simp

theorem seenC_nil' {n : Nat} : List.replicate n (AV.bool false) = seenC n [] := by
  rw [← seenC_nil]
  induction n with
  | zero => rfl
  | succ n ih => rw [List.replicate_succ, List.replicate_succ, List.flatten_cons, ← ih]; rfl
/-- What is right about what was seen. -/
def GI (l : List Var) (d : List Int) : Prop := (∀ v ∈ d, rndS l v = true) ∧ d.Nodup
theorem GI.add {l : List Var} {d : List Int} {v : Int} (h : GI l d) (hr : rndS l v = true) (hn : v ∉ d) : GI l (d ++ [v]) := by
  refine ⟨fun x hx => ?_, ?_⟩
  · rcases List.mem_append.1 hx with hx | hx
    · exact h.1 x hx
    · rw [List.mem_singleton.1 hx]; exact hr
  · rw [List.nodup_append]
    refine ⟨h.2, by simp, fun a ha b hb e => ?_⟩
    rw [List.mem_singleton.1 hb] at e
    exact hn (e ▸ ha)
def NE (g : List (List Int)) : Prop := ∀ x ∈ g, x ≠ []
theorem take1_drop {c : List AV} {j : Nat} {v : AV} (h : c[j]? = some v) : (c.drop j).take 1 = [v] := by
  rw [drop_cons h]; rfl
theorem head_drop (c : List AV) (j : Nat) : ((c.drop j).take 1).head? = c[j]? := by
  rw [List.head?_take, if_neg (by decide), List.head?_drop]

set_option maxHeartbeats 4000000 in
theorem groups68y (p : Problem) (hv : p.vars ≠ []) (hv20 : p.vars.length ≤ 20) (hg : Fits p.groups) (hgs : ∀ g ∈ p.groups, Fits g) : Pure Tryz.prog GG 68 [.agg (encP p)] (.int .i64 (groupsS p.vars p.groups)) := by
  refine Pure.vc mixed Tryz.func68 rfl (by kernel_rfl) ?_
  have hn0 : 0 < p.vars.length := List.length_pos_iff.2 hv
  obtain ⟨N, hN⟩ : ∃ N, N = p.vars.length := ⟨_, rfl⟩
  have hc1 : (N : Int) ≤ 1073741824 := by omega
  have hc2 : ¬ (N : Int) = 0 := by omega
  have hc3 : ¬ N = 0 := by omega
  have rnd : ∀ i, Pure Tryz.prog GG 83 [.agg [.sl 4 (p.vars.map encVar) .none, .sl 4 (p.hard.map encE) .none, .sl 4 (p.soft.map encE) .none, .sl 2 (p.dists.map encDist) .none, .sl 1 (p.groups.map encInts) .none], .int .i64 i] (.bool (rndS p.vars i)) := fun i => by
    have hr := random GG p i
    rw [rndS_eq] at hr
    simpa only [encP] using hr
  have bad : ¬ GroupsOk p.vars p.groups → groupsS p.vars p.groups = 1 := fun h => by unfold groupsS; rw [if_neg h]
  simp [makeSliceA, ← hN, hc1, hc2, hc3, seenC_nil']
  refine vcLoop.intro (fun n env σ => ∃ i, i ≤ p.groups.length ∧ n = p.groups.length - i ∧ env 1 = .ptr 0 0 ∧ env 3 = .ms 1 0 N 1 ∧ env 14 = .sl 1 (p.groups.map encInts) .none ∧ env 15 = .int .i64 p.groups.length ∧ env 16 = .int .i64 i ∧ σ = ⟨[.cells (encP p), .cells (seenC N (p.groups.take i).flatten)], []⟩ ∧ NE (p.groups.take i) ∧ GI p.vars (p.groups.take i).flatten) p.groups.length ⟨0, by simp, by simp, by simp, by simp, by simp, by simp, by simp, by simp, by simp [NE], by simp [GI]⟩ ?_
  rintro n env σ ⟨i, hi, rfl, h1, h3, h14, h15, h16, rfl, hne, hgi0⟩
  cases hgi : p.groups[i]? with
  | some g =>
    obtain ⟨hc, hv'⟩ := List.getElem?_eq_some_iff.1 hgi
    have hm := List.mem_of_getElem? hgi
    have hfg := hgs g hm
    have hiw : IntKind.i64.wrap ((i : Int) + 1) = ((i + 1 : Nat) : Int) := by rw [wr (by omega) (by omega)]; omega
    by_cases hge : g = []
    · rw [bad (groups_empty (hge ▸ hm))]
      subst hge
      simp [h1, h3, h14, h15, h16, hc, hv']
    · have hgl : ¬ (g.length : Int) = 0 := by have := List.length_pos_iff.2 hge; omega
      have hgl' : ¬ g.length = 0 := by have := List.length_pos_iff.2 hge; omega
      simp [h1, h3, h14, h15, h16, hc, hv', hgl, hgl', hge]
      refine vcLoop.intro (fun n env σ => ∃ k, k ≤ g.length ∧ n = g.length - k ∧ env 1 = .ptr 0 0 ∧ env 3 = .ms 1 0 N 1 ∧ env 14 = .sl 1 (p.groups.map encInts) .none ∧ env 15 = .int .i64 p.groups.length ∧ env 16 = .int .i64 i ∧ env 23 = .sl 1 (g.map encInt) .none ∧ env 24 = .int .i64 g.length ∧ env 25 = .int .i64 k ∧ σ = ⟨[.cells (encP p), .cells (seenC N ((p.groups.take i).flatten ++ g.take k))], []⟩ ∧ GI p.vars ((p.groups.take i).flatten ++ g.take k)) g.length ⟨0, by simp [h1, h3, h14, h15, h16]; exact hgi0⟩ ?_
      clear h1 h3 h14 h15 h16
      rintro n env σ ⟨k, hk, rfl, h1, h3, h14, h15, h16, h23, h24, h25, rfl, hgi1⟩
      cases hvk : g[k]? with
      | some v =>
        obtain ⟨hck, hvk'⟩ := List.getElem?_eq_some_iff.1 hvk
        have hsp := flat_split hgi hvk
        have hmv : v ∈ p.groups.flatten := by rw [hsp]; simp
        simp [h1, h3, h14, h15, h16, h23, h24, h25, hck, hvk']
        refine vcCall.call (rnd v) (by simp) ?_
        cases hr : rndS p.vars v
        · rw [bad (groups_bad hmv hr)]
          simp
        · obtain ⟨r1, r2⟩ := rndS_range hr
          obtain ⟨j, rfl⟩ := Int.eq_ofNat_of_zero_le r1
          have hj : j < N := by omega
          have hj' : (j : Int) < N := by omega
          have hg1 := seenC_get (d := (p.groups.take i).flatten ++ g.take k) hj
          have hset := seenC_set (d := (p.groups.take i).flatten ++ g.take k) hj
          have htk : g.take (k + 1) = g.take k ++ [(j : Int)] := by rw [List.take_add_one, hvk]; rfl
          have hj1 : j + 1 ≤ N := hj
          by_cases hmem : (j : Int) ∈ (p.groups.take i).flatten ++ g.take k
          · rw [bad (groups_dup hsp hmem)]
            rw [decide_eq_true hmem] at hg1
            have ht1 := take1_drop hg1
            simp [h1, h3, h14, h15, h16, h23, h24, h25, hj, hj', hj1, ht1]
          · rw [decide_eq_false hmem] at hg1
            have ht1 := take1_drop hg1
            simp [h1, h3, h14, h15, h16, h23, h24, h25, hj, hj', hj1, ht1, hset]
            refine ⟨_, by omega, k + 1, by omega, rfl, wr (by omega) (by omega), ?_, ?_⟩
            · rw [htk]
            · rw [htk, ← List.append_assoc]; exact hgi1.add hr hmem
      | none =>
        have hck : ¬ k < g.length := by simp at hvk; omega
        have ht : g.take k = g := List.take_of_length_le (by omega)
        rw [ht] at hgi1
        have hft := flat_take hgi
        simp [h1, h3, h14, h15, h16, h23, h24, h25, hck, hiw]
        refine ⟨_, by omega, i + 1, by omega, rfl, rfl, ?_, ?_, ?_⟩
        · rw [hft, ht]
        · intro x hx
          rw [List.take_add_one, hgi] at hx
          rcases List.mem_append.1 hx with hx | hx
          · exact hne x hx
          · simp at hx; rw [hx]; exact hge
        · rw [hft]; exact hgi1
  | none =>
    have hc : ¬ i < p.groups.length := by simp at hgi; omega
    have ht : p.groups.take i = p.groups := List.take_of_length_le (by omega)
    rw [ht] at hne hgi0
    simp [h1, h3, h14, h15, h16, hc]
    refine vcLoop.intro (fun n env σ => ∃ i, i ≤ N ∧ n = N - i ∧ env 1 = .ptr 0 0 ∧ env 3 = .ms 1 0 N 1 ∧ env 46 = .int .i64 N ∧ env 47 = .int .i64 i ∧ σ = ⟨[.cells (encP p), .cells (seenC N p.groups.flatten)], []⟩ ∧ ∀ j : Nat, j < i → rndS p.vars j = true → (j : Int) ∈ p.groups.flatten) N ⟨0, by simp [h1, h3, ← hN, ht]⟩ ?_
    clear h1 h3 h14 h15 h16
    rintro n env σ ⟨j, hj0, rfl, h1, h3, h46, h47, rfl, hall⟩
    by_cases hj : j < N
    · have hj' : (j : Int) < N := by omega
      have hj1 : j + 1 ≤ N := hj
      have hg1 := seenC_get (d := p.groups.flatten) hj
      simp [h1, h3, h46, h47, hj]
      refine vcCall.call (rnd j) (by simp) ?_
      cases hr : rndS p.vars j
      · simp [h1, h3, h46, h47]
        refine ⟨_, by omega, j + 1, by omega, rfl, wr (by omega) (by omega), ?_⟩
        intro q hq hqr
        rcases Nat.lt_succ_iff_lt_or_eq.1 hq with hq | rfl
        · have := hall q hq hqr; simpa using this
        · rw [hr] at hqr; cases hqr
      · by_cases hmem : (j : Int) ∈ p.groups.flatten
        · rw [decide_eq_true hmem] at hg1
          have ht1 := take1_drop hg1
          simp [h1, h3, h46, h47, hj, hj', hj1, ht1]
          refine ⟨_, by omega, j + 1, by omega, rfl, wr (by omega) (by omega), ?_⟩
          intro q hq hqr
          rcases Nat.lt_succ_iff_lt_or_eq.1 hq with hq | rfl
          · have := hall q hq hqr; simpa using this
          · simpa using hmem
        · rw [bad (groups_left (by omega) hr hmem)]
          rw [decide_eq_false hmem] at hg1
          have ht1 := take1_drop hg1
          simp [h1, h3, h46, h47, hj, hj', hj1, ht1]
    · have x : groupsS p.vars p.groups = 0 := by
        unfold groupsS
        rw [if_pos ⟨hne, hgi0.1, hgi0.2, fun q hq hqr => hall q (by omega) hqr⟩]
      rw [x]
      simp [h1, h3, h46, h47, hj]
theorem groups68 (p : Problem) (hv20 : p.vars.length ≤ 20) (hg : Fits p.groups) (hgs : ∀ g ∈ p.groups, Fits g) : Pure Tryz.prog GG 68 [.agg (encP p)] (.int .i64 (groupsS p.vars p.groups)) := by
  by_cases hv : p.vars = []
  · exact groups68n p hv hg
  · exact groups68y p hv hv20 hg hgs
end Go.Proofs.YtpgcmnabljandaaGreatDoor
end

section
/-
  Walks: an expression's first error, its size, its names.
-/
set_option linter.unusedVariables false
set_option linter.unusedSimpArgs false
set_option maxRecDepth 100000
namespace Go.Proofs.YtpgcmnabljandaaGreatDoor
open Go Go.Abs

theorem size153 (e : Ex) (hwe : Wen e) : Pure Tryz.prog GG 153 [.agg (encE e)] (.int .i64 (sizeS e)) := by
  refine Pure.vc mixed Tryz.func153 rfl (by kernel_rfl) ?_
  have hx : (runW stN 0 (pre e)).1 = sizeS e := by
    rw [runW_true (fun s e => rfl)]
    have := fold_count (n := 0) (pre e)
    simp only [Int.zero_add] at this
    rw [sizeS, ← this]
    simp [stN, IntKind.wrap, IntKind.bits, IntKind.signed]
  simp only [encE_eq e]
  simp
  rw [← encE_eq e]
  refine ACall.imp (walk149 (c := 2) (hd := fun s => [.cells (encE e), .cells [.int .i64 s]]) (T := fun _ => []) (m := fun _ => (pre e).length) (fun _ => rfl) (fun _ _ => by omega) (visits230 _ _) e hwe 0 (Nat.le_refl _) []) ?_
  rintro r σ' ⟨t, rfl⟩
  rw [hx]
  simp

theorem first_pre (e : Ex) : (runW stV 0 (pre e)).1 = firstE nodeE (pre e) := by
  have := runW_first (f := nodeE) 0 (pre e)
  rw [if_neg (by rw [pre_eq]; simp)] at this
  exact this
theorem valid88 (e : Ex) (hwe : Wen e) (hh : hgt e < 1000000) : Pure Tryz.prog GG 88 [.agg (encE e)] (.int .i64 (validE e)) := by
  refine Pure.vc mixed Tryz.func88 rfl (by kernel_rfl) ?_
  simp only [encE_eq e]
  simp
  rw [← encE_eq e]
  refine ACall.imp (walk149 (c := 2) (hd := fun s => [.cells (encE e), .cells [.int .i64 s]]) (T := fun _ => []) (m := fun _ => (pre e).length) (fun _ => rfl) (fun _ _ => by omega) (visits150 _ _) e hwe 0 (Nat.le_refl _) []) ?_
  rintro r σ' ⟨t, rfl⟩
  rw [first_pre]
  by_cases h0 : firstE nodeE (pre e) = 0
  · rw [h0]
    simp [encE_eq e]
    rw [← encE_eq e]
    refine vcCall.call (depth152 e hwe hh) (by simp) ?_
    by_cases h24 : 24 < hgt e
    · have h24' : (24 : Int) < hgt e := by omega
      have x : validE e = 2 := by unfold validE; rw [if_pos ⟨h0, .inl h24⟩]
      rw [x]
      simp [h24']
    · have h24' : ¬ (24 : Int) < hgt e := by omega
      simp [h24', encE_eq e]
      rw [← encE_eq e]
      refine vcCall.call (size153 e hwe) (by simp) ?_
      by_cases h4 : 400 < sizeS e
      · have x : validE e = 2 := by unfold validE; rw [if_pos ⟨h0, .inr h4⟩]
        rw [x]
        simp [h4]
      · have x : validE e = 0 := by unfold validE; rw [if_neg (fun h => by rcases h.2 with h | h; exact h24 h; exact h4 h), h0]
        rw [x]
        simp [h4]
  · have x : validE e = firstE nodeE (pre e) := by unfold validE; rw [if_neg (fun h => h0 h.1)]
    rw [x]
    have hb : (firstE nodeE (pre e) == 0) = false := by simpa using h0
    simp [h0, hb]

/-! ### Names -/
def stM (ops : List Int) (s : List Str) (e : Ex) : List Str × Bool := (addN ops s e, true)
def outA (s : List Str) : AV := match s with
  | [] => .sl 0 [] .nil
  | a :: r => .sl 1 ((a :: r).map encStr) (.chain 0 (r.length + 1))
def outT (s : List Str) : List (Option Nat) := match s with
  | [] => []
  | _ :: r => [some (r.length + 1)]
theorem any_beq' {α : Type} [BEq α] (l : List α) (a : α) : (l.any fun v => a == v) = l.contains a := by rw [List.any_beq]
theorem visits263 (c : List AV) (ops : List Int) (ho : Fits ops) : Visits (stM ops) (fun s => [.cells c, .cells [.sl 1 (ops.map encInt) .none], .cells [outA s]]) outT 263 [.ptr 1 0, .ptr 2 0] (fun s => 1000000 - s.length) := by
  intro s tail e hwe hm
  refine ACall.vc mixed Tryz.func263 rfl (by kernel_rfl) ?_
  simp only [encE_eq e]
  simp
  refine vcCall.call (contains264 GG ops e.op ho) (by simp) ?_
  rw [any_beq']
  cases hc : ops.contains e.op
  · have x : addN ops s e = s := by simp only [addN, hc, Bool.false_and]; rfl
    simp [stM, x]
  · cases s with
    | nil =>
      simp [outA]
      refine vcCall.less (contains101 GG [] e.name (by simp)) (by simp) (by simp [Leq]) ?_
      have x : addN ops [] e = [e.name] := by simp only [addN, hc]; rfl
      simp [stM, x, outT, outA, appendA, buildSliceA, rowsFill, rowsOf]
    | cons a r =>
      simp [outA]
      refine vcCall.pure (contains101 GG (a :: r) e.name (by simp at hm ⊢; omega)) (by simp) (by simp) ?_
      rw [any_beq']
      cases hn : (a :: r).contains e.name
      · have x : addN ops (a :: r) e = a :: (r ++ [e.name]) := by simp only [addN, hc, hn]; rfl
        have hb : r.length ≤ 1073741822 := by simp at hm; omega
        simp [stM, x, outT, outA, appendA, buildSliceA, rowsFill, rowsOf, hb]
      · have x : addN ops (a :: r) e = a :: r := by simp only [addN, hc, hn]; rfl
        simp [stM, x, outT, outA]

theorem fold_stM {ops : List Int} : ∀ (l : List Ex) (s : List Str), l.foldl (fun s e => (stM ops s e).1) s = l.foldl (addN ops) s
  | [], s => rfl
  | e :: r, s => by rw [List.foldl_cons, List.foldl_cons]; exact fold_stM r _
theorem addN_length {ops : List Int} {s : List Str} {e : Ex} : (addN ops s e).length ≤ s.length + 1 := by
  unfold addN; split <;> simp
theorem names198 (e : Ex) (hwe : Wen e) (ops : List Int) (ho : Fits ops) (hsz : (pre e).length ≤ 100000) : Pure Tryz.prog GG 198 [.agg (encE e), .sl 1 (ops.map encInt) .none] (.sl 1 ((namesS ops e).map encStr) .none) := by
  refine Pure.vc mixed Tryz.func198 rfl (by kernel_rfl) ?_
  simp only [encE_eq e]
  simp
  rw [← encE_eq e]
  refine ACall.imp (walk149 (c := 3) (hd := fun s => [.cells (encE e), .cells [.sl 1 (ops.map encInt) .none], .cells [outA s]]) (T := outT) (m := fun s => 1000000 - s.length) (fun _ => rfl) (fun s x => by have := addN_length (ops := ops) (s := s) (e := x); simp only [stM]; omega) (visits263 _ ops ho) e hwe [] (by simp; omega) []) ?_
  rintro r σ' ⟨t, rfl⟩
  rw [runW_true (fun s e => rfl), fold_stM]
  have hn : (pre e).foldl (addN ops) [] = namesS ops e := rfl
  rw [hn]
  cases hs : namesS ops e with
  | nil => simp [outA, Leq]
  | cons a r => simp [outA, Leq, hs]
theorem arrays128 (e : Ex) (hwe : Wen e) (hsz : (pre e).length ≤ 100000) : Pure Tryz.prog GG 128 [.agg (encE e)] (.sl 1 ((namesS [3, 24] e).map encStr) .none) := by
  refine Pure.vc mixed Tryz.func128 rfl (by kernel_rfl) ?_
  simp only [encE_eq e]
  simp [buildSliceA, rowsFill]
  rw [← encE_eq e]
  refine vcCall.less (names198 e hwe [3, 24] (by decide) hsz) (by simp) (by simp [Leq]) ?_
  simp [Leq]
theorem names130 (e : Ex) (hwe : Wen e) (hsz : (pre e).length ≤ 100000) : Pure Tryz.prog GG 130 [.agg (encE e)] (.sl 1 ((namesS [2] e).map encStr) .none) := by
  refine Pure.vc mixed Tryz.func130 rfl (by kernel_rfl) ?_
  simp only [encE_eq e]
  simp [buildSliceA, rowsFill]
  rw [← encE_eq e]
  refine vcCall.less (names198 e hwe [2] (by decide) hsz) (by simp) (by simp [Leq]) ?_
  simp [Leq]
end Go.Proofs.YtpgcmnabljandaaGreatDoor
end

section
/-
  Walks: the groups of a problem, as the reference counts them.
-/
set_option linter.unusedVariables false
set_option linter.unusedSimpArgs false
set_option maxRecDepth 100000
namespace Go.Proofs.YtpgcmnabljandaaGreatDoor
open Go Go.Abs

def cntC (n : Nat) (d : List Int) : List AV := (List.range n).map fun (j : Nat) => AV.int .i64 (d.count (j : Int))
@[simp] theorem cntC_length {n : Nat} {d : List Int} : (cntC n d).length = n := by simp [cntC]
theorem cntC_nil {n : Nat} : List.replicate n (AV.int .i64 0) = cntC n [] := by
  simp only [cntC, List.count_nil]
  induction n with
  | zero => simp
  | succ n ih => rw [List.range_succ, List.map_append, ← ih, List.replicate_succ']; simp
theorem cntC_get {n j : Nat} {d : List Int} (h : j < n) : (cntC n d)[j]? = some (.int .i64 (d.count (j : Int))) := by simp [cntC, h]
theorem cntC_set {n j : Nat} {d : List Int} (h : j < n) : (cntC n d).set j (.int .i64 ((d.count (j : Int) : Int) + 1)) = cntC n (d ++ [(j : Int)]) := by
  apply List.ext_getElem?
  intro i
  by_cases hi : i < n
  · rw [List.getElem?_set, cntC_get hi, cntC_get hi]
    by_cases hij : j = i
    · subst hij; simp [h, List.count_append]
    · rw [if_neg hij]
      have : ¬ (j : Int) = i := by omega
      simp [List.count_append, List.count_singleton, this]
  · rw [List.getElem?_eq_none (by simp; omega), List.getElem?_eq_none (by simp; omega)]
/-- What was seen is in range. -/
def RI (n : Nat) (d : List Int) : Prop := ∀ v ∈ d, 0 ≤ v ∧ v < (n : Int)
theorem RI.add {n : Nat} {d : List Int} {v : Int} (h : RI n d) (h0 : 0 ≤ v) (h1 : v < n) : RI n (d ++ [v]) := fun x hx => by
  rcases List.mem_append.1 hx with hx | hx
  · exact h x hx
  · rw [List.mem_singleton.1 hx]; exact ⟨h0, h1⟩
noncomputable def okG (l : List Var) (g : List (List Int)) : Bool := decide (groupsS l g = 0)
theorem okG_bad {l : List Var} {g : List (List Int)} (h : ¬ GroupsOk l g) : okG l g = false := by
  simp only [okG, groupsS, if_neg h]; rfl
theorem okG_good {l : List Var} {g : List (List Int)} (h : GroupsOk l g) : okG l g = true := by
  simp only [okG, groupsS, if_pos h]; rfl
theorem groups_out {l : List Var} {g : List (List Int)} {v : Int} (h : v ∈ g.flatten) (hv : v < 0 ∨ (l.length : Int) ≤ v) : ¬ GroupsOk l g := fun hg => by
  have := rndS_range (hg.2.1 v h)
  omega

theorem groups82n (g : List (List Int)) (hg : Fits g) : Pure Tryz.prog GG 82 [.sl 4 [] .none, .sl 1 (g.map encInts) .none] (.bool (okG [] g)) := by
  refine Pure.vc mixed Tryz.func82 rfl (by kernel_rfl) ?_
  simp [makeSliceA]
  refine vcLoop.intro (fun n env σ => n = 1 ∧ env 0 = .sl 4 [] .none ∧ env 1 = .sl 1 (g.map encInts) .none ∧ env 6 = .int .i64 0) 1 ⟨rfl, by simp⟩ ?_
  rintro n env σ ⟨rfl, h0, h1, h6⟩
  cases g with
  | nil =>
    have x : okG [] [] = true := okG_good ⟨by simp, by simp, by simp, fun i hi => by simp at hi⟩
    rw [x]
    simp [h0, h1, h6]
    refine vcLoop.intro (fun n env σ => n = 1 ∧ env 0 = .sl 4 [] .none ∧ env 9 = .int .i64 0) 1 ⟨rfl, by simp [h0]⟩ ?_
    rintro n env σ ⟨rfl, h0, h9⟩
    simp [h0, h9]
  | cons g r =>
    have hp : (0 : Int) < r.length + 1 := by omega
    cases g with
    | nil =>
      rw [okG_bad (groups_empty (by simp))]
      simp [h0, h1, h6, hp]
    | cons v g =>
      rw [okG_bad (groups_out (v := v) (by simp) (by simp; omega))]
      have hp2 : ¬ (g.length : Int) + 1 = 0 := by omega
      simp [h0, h1, h6, hp, hp2]
      refine vcLoop.intro (fun n env σ => n = 1 ∧ env 0 = .sl 4 [] .none ∧ env 1 = .sl 1 (((v :: g) :: r).map encInts) .none ∧ env 6 = .int .i64 0 ∧ env 7 = .int .i64 0) 1 ⟨rfl, by simp [h0, h1, h6]⟩ ?_
      rintro n env σ ⟨rfl, h0, h1, h6, h7⟩
      have hp3 : (0 : Int) < g.length + 1 := by omega
      by_cases hv : v < 0
      · simp [h0, h1, h6, h7, hp3, hv]
      · have hv' : 0 ≤ v := by omega
        simp [h0, h1, h6, h7, hp3, hv, hv']
end Go.Proofs.YtpgcmnabljandaaGreatDoor
end
