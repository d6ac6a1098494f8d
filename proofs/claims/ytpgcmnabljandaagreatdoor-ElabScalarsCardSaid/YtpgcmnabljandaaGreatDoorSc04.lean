/- A part of the proof: texts Walk46 Walk48 Walk48b. -/
import Derived.Test.YtpgcmnabljandaaGreatDoorSc03
import Derived.Test.YtpgcmnabljandaaGreatDoorEv05
import Derived.Test.YtpgcmnabljandaaGreatDoorFx01
import Derived.Test.YtpgcmnabljandaaGreatDoorSc01

section
/-
  Walks: Scalar of the program.
-/
set_option linter.unusedVariables false
set_option linter.unusedSimpArgs false
set_option maxRecDepth 100000
namespace Go.Proofs.YtpgcmnabljandaaGreatDoor
open Go Go.Abs

/-- An expression that is nothing. -/
def zeroE : Ex := .mk 0 0 [] []
noncomputable def scalE (p : Problem) (e : Ex) : Int :=
  if validP p ≠ 0 then 1 else if validE e ≠ 0 then validE e else if unkB p.vars e = true then 7 else if 400 < (extE p.vars e).1 then 2 else validE (scE p.vars e)
noncomputable def scalV (p : Problem) (e : Ex) : Ex := if scalE p e = 0 then scE p.vars e else zeroE

theorem wen_pre {e : Ex} (h : ∀ x ∈ pre e, x.args.length ≤ 1000 ∧ x.name.length ≤ 100000) : Wen e := fun x hx => by
  have := h x hx
  constructor <;> omega
theorem mem_item {a : Str} {i : Nat} {x : Ex} (h : x ∈ pre (itemE a i)) : x = itemE a i := by simpa [pre_item] using h
/-- Names of a scalar form. -/
theorem sc_names (l : List Var) (P : Str → Prop) (h0 : P []) : ∀ e, (∀ x ∈ pre e, P x.name) → (∀ x ∈ pre e, ∀ i, i < 8 → P (elemS x.name i)) → ∀ y ∈ pre (scE l e), P y.name := by
  have hitem : ∀ (a : Str), (∀ i, i < 8 → P (elemS a i)) → ∀ i, i < 8 → ∀ y ∈ pre (itemE a i), P y.name := fun a ha i hi y hy => by
    rw [mem_item hy]; exact ha i hi
  have hconst : ∀ n, ∀ y ∈ pre (constE n), P y.name := fun n y hy => by
    have : y = constE n := by simpa [pre_const] using hy
    rw [this]; exact h0
  have hsum : ∀ (a : Str), (∀ i, i < 8 → P (elemS a i)) → ∀ k, k < 8 → ∀ y ∈ pre (sumE a k), P y.name := by
    intro a ha k
    induction k with
    | zero => intro hk; exact hitem a ha 0 hk
    | succ k ihk =>
      intro hk y hy
      rw [sumE, pre_eq] at hy
      simp only [Ex.args_mk, preL_cons, preL_nil, List.append_nil, List.mem_cons, List.mem_append] at hy
      rcases hy with rfl | hy | hy
      · exact h0
      · exact ihk (by omega) y hy
      · exact hitem a ha (k + 1) hk y hy
  have hifs : ∀ (a : Str) (idx : Ex) (n : Nat), (∀ i, i < 8 → P (elemS a i)) → (∀ y ∈ pre idx, P y.name) → n ≤ 8 → ∀ k, k ≤ n → ∀ y ∈ pre (ifsE a idx n k), P y.name := by
    intro a idx n ha hidx hn k
    induction k with
    | zero => intro _; exact hconst 0
    | succ k ihk =>
      intro hk y hy
      rw [ifsE, pre_eq] at hy
      simp only [Ex.args_mk, preL_cons, preL_nil, List.append_nil, List.mem_cons, List.mem_append, pre_eq (Ex.mk 15 0 [] _)] at hy
      rcases hy with rfl | (rfl | hy | hy) | hy | hy
      · exact h0
      · exact h0
      · exact hidx y hy
      · exact hconst _ y hy
      · exact hitem a ha _ (by omega) y hy
      · exact ihk (by omega) y hy
  refine Ex.ind fun e ih h1 h2 => ?_
  have self : e ∈ pre e := by rw [pre_eq]; simp
  have sub : ∀ a ∈ e.args, ∀ x ∈ pre a, x ∈ pre e := fun a ha x hx => by rw [pre_eq]; exact List.mem_cons_of_mem _ (mem_preL.2 ⟨a, ha, hx⟩)
  have ih' : ∀ a ∈ e.args, ∀ y ∈ pre (scE l a), P y.name := fun a ha => ih a ha (fun x hx => h1 x (sub a ha x hx)) fun x hx => h2 x (sub a ha x hx)
  have h8 := sizeA_le l e.name
  rw [scE_eq]
  split
  · exact hsum _ (h2 e self) _ (by omega)
  split
  · have hidx : ∀ y ∈ pre (headE (e.args.map (scE l))), P y.name := by
      cases hm : e.args with
      | nil => exact hconst 0
      | cons a r => exact ih' a (by rw [hm]; simp)
    unfold chainE
    split
    · split
      · rename_i hlt
        intro y hy
        by_cases h0n : 0 ≤ (headE (e.args.map (scE l))).n
        · exact hitem _ (h2 e self) _ (by omega) y hy
        · have : (headE (e.args.map (scE l))).n.toNat = 0 := by omega
          rw [this] at hy
          exact hitem _ (h2 e self) 0 (by omega) y hy
      · exact hconst 0
    · exact hifs _ _ _ (h2 e self) hidx h8 _ (Nat.le_refl _)
  · intro y hy
    rw [pre_eq] at hy
    rcases List.mem_cons.1 hy with rfl | hy
    · exact h1 e self
    · obtain ⟨b, hb, hyb⟩ := mem_preL.1 hy
      obtain ⟨a, ha, rfl⟩ := List.mem_map.1 (show b ∈ e.args.map (scE l) from hb)
      exact ih' a ha y hyb
theorem hgt_pre : ∀ e, hgt e ≤ (pre e).length := by
  refine Ex.ind fun e ih => ?_
  rw [hgt_eq, pre_eq, List.length_cons]
  have : ∀ (m : List Ex), (∀ a ∈ m, hgt a ≤ (pre a).length) → hgtL m ≤ (preL m).length := by
    intro m
    induction m with
    | nil => simp
    | cons a r ihr =>
      intro h
      have h1 := h a (by simp)
      have h2 := ihr fun x hx => h x (by simp [hx])
      simp only [hgtL_cons, preL_cons, List.length_append]
      omega
  have := this e.args ih
  omega
/-- A scalar form of allowed size. -/
theorem sc_wen {l : List Var} {e : Ex} (hn : NodesOk e) (hu : unkB l e = false) (h4 : ¬ 400 < (extE l e).1) : Wen (scE l e) ∧ (pre (scE l e)).length ≤ 400 ∧ hgt (scE l e) ≤ 400 := by
  have hlen := (extOk l e hn hu).len (by omega)
  have hs := slim_sc l e hn
  have hnn : ∀ y ∈ pre (scE l e), y.name.length ≤ 2000 := by
    have hle : ∀ x ∈ pre e, x.name.length ≤ 1000 := by
      intro x hx
      have hnx : NodesOk x := by
        intro z hz
        have tr : ∀ e : Ex, ∀ x ∈ pre e, ∀ z ∈ pre x, z ∈ pre e := by
          refine Ex.ind fun e ih x hx z hz => ?_
          rw [pre_eq] at hx
          rcases List.mem_cons.1 hx with rfl | hx
          · exact hz
          · obtain ⟨a, ha, hxa⟩ := mem_preL.1 hx
            rw [pre_eq]
            exact List.mem_cons_of_mem _ (mem_preL.2 ⟨a, ha, ih a ha x hxa z hz⟩)
        exact hn z (tr e x hx z hz)
      exact name_le hnx
    refine sc_names l (fun s => s.length ≤ 2000) (by simp) e (fun x hx => by have := hle x hx; show x.name.length ≤ 2000; omega) (fun x hx i hi => by have := hle x hx; simp; omega)
  have hh := hgt_pre (scE l e)
  exact ⟨wen_pre fun x hx => ⟨hs x hx, by have := hnn x hx; omega⟩, by omega, by omega⟩

attribute [local simp high] acells_encE
attribute [local simp] acells_int acells_str acells_bool acells_sl acells_agg encE_atoms encE_len putAt_encE putAt_encE2 take_encE
theorem vars_names {p : Problem} (h : validP p = 0) : ∀ v ∈ p.vars, varS v.name = true := fun v hm => (varE_zero (validP_vars h v hm)).1
theorem enc_zero : encE zeroE = [.int .i64 0, .int .i64 0, .str [], .sl 4 [] .none] := by simp [zeroE, encE]
set_option maxHeartbeats 4000000 in
theorem scalar34 (p : Problem) (e : Ex) (h : VP p) (hwe : Wen e) (hh : hgt e ≤ 1000) : Pure Tryz.prog GG 34 [.agg (encP p), .agg (encE e)] (.tup [.agg (encE (scalV p e)), .int .i64 (scalE p e)]) := by
  refine Pure.vc mixed Tryz.func34 rfl (by kernel_rfl) ?_
  have hva := valid14' p h
  have hl : Fits p.vars := by have := h.vars20; omega
  have hE : scalE p e = if validP p ≠ 0 then 1 else if validE e ≠ 0 then validE e else if unkB p.vars e = true then 7 else if 400 < (extE p.vars e).1 then 2 else validE (scE p.vars e) := rfl
  have hV : scalV p e = if scalE p e = 0 then scE p.vars e else zeroE := rfl
  have hve := valid88 e hwe (by omega)
  simp only [encP] at hva
  by_cases h0 : validP p = 0
  · rw [if_neg (by simpa using h0)] at hE
    by_cases h1 : validE e = 0
    · rw [if_neg (by simpa using h1)] at hE
      have hn := validE_nodes h1
      have hv := vars_names h0
      have hkn := known89 p.vars hl hv e hwe hn
      cases hu : unkB p.vars e
      · rw [hu] at hE hkn
        rw [if_neg (by simp)] at hE
        have hex := extent90 p.vars hl hv e hwe hn hu
        by_cases h4 : 400 < (extE p.vars e).1
        · rw [if_pos h4] at hE
          rw [hE] at hV
          rw [if_neg (by decide)] at hV
          rw [hV, hE, enc_zero]
          simp only [encX] at hex
          simp [-acells]
          refine vcCall.call hva (by simp) ?_
          simp [-acells, h0]
          refine vcCall.call hve (by simp) ?_
          simp [-acells, h1, buildA, fillA, stPlace, putAt]
          refine vcCall.call hkn (by simp) ?_
          simp [-acells]
          refine vcCall.call hex (by simp) ?_
          simp [-acells, h4, buildA, fillA, stPlace, putAt]
        · rw [if_neg h4] at hE
          have hmk := make91 p.vars hl hv e hn hu
          obtain ⟨w1, w2, w3⟩ := sc_wen hn hu h4
          have hvo := valid88 (scE p.vars e) w1 (by omega)
          generalize scE p.vars e = S at hE hV hmk hvo
          simp only [encX] at hex
          by_cases h5 : validE S = 0
          · rw [h5] at hE hvo
            rw [hE, if_pos rfl] at hV
            rw [hV, hE]
            simp [-acells]
            refine vcCall.call hva (by simp) ?_
            simp [-acells, h0]
            refine vcCall.call hve (by simp) ?_
            simp [-acells, h1, buildA, fillA, stPlace, putAt]
            refine vcCall.call hkn (by simp) ?_
            simp [-acells]
            refine vcCall.call hex (by simp) ?_
            simp [-acells, h4]
            refine vcCall.call hmk (by simp) ?_
            simp [-acells]
            refine vcCall.call hvo (by simp) ?_
            simp [-acells, fin1_encE]
          · rw [hE, if_neg h5] at hV
            rw [hV, hE, enc_zero]
            simp [-acells]
            refine vcCall.call hva (by simp) ?_
            simp [-acells, h0]
            refine vcCall.call hve (by simp) ?_
            simp [-acells, h1, buildA, fillA, stPlace, putAt]
            refine vcCall.call hkn (by simp) ?_
            simp [-acells]
            refine vcCall.call hex (by simp) ?_
            simp [-acells, h4]
            refine vcCall.call hmk (by simp) ?_
            simp [-acells]
            refine vcCall.call hvo (by simp) ?_
            simp [-acells, h5, buildA, fillA, stPlace, putAt]
      · rw [hu] at hE hkn
        rw [if_pos rfl] at hE
        rw [hE, if_neg (by decide)] at hV
        rw [hV, hE, enc_zero]
        simp [-acells]
        refine vcCall.call hva (by simp) ?_
        simp [-acells, h0]
        refine vcCall.call hve (by simp) ?_
        simp [-acells, h1, buildA, fillA, stPlace, putAt]
        refine vcCall.call hkn (by simp) ?_
        simp [-acells, buildA, fillA, stPlace, putAt]
    · rw [if_pos h1] at hE
      rw [hE, if_neg h1] at hV
      rw [hV, hE, enc_zero]
      simp [-acells]
      refine vcCall.call hva (by simp) ?_
      simp [-acells, h0]
      refine vcCall.call hve (by simp) ?_
      simp [-acells, h1, buildA, fillA, stPlace, putAt]
  · rw [if_pos h0] at hE
    rw [hE, if_neg (by decide)] at hV
    rw [hV, hE, enc_zero]
    simp [-acells]
    refine vcCall.call hva (by simp) ?_
    simp [-acells, h0, buildA, fillA, stPlace, putAt]
end Go.Proofs.YtpgcmnabljandaaGreatDoor
end

section
/-
  Walks: the assignment that numbers give; the law of Scalar's values.
-/
set_option linter.unusedVariables false
set_option linter.unusedSimpArgs false
set_option maxRecDepth 100000
namespace Go.Proofs.YtpgcmnabljandaaGreatDoor
open Go Go.Abs

theorem findV_zip : ∀ {l : List Var} {a : List Int} {s : Str}, a.length = l.length → (findV (envL l a) s).isSome = hasV l s
  | [], [], s, _ => rfl
  | v :: l, x :: a, s, h => by
    have ih := findV_zip (l := l) (a := a) (s := s) (by simpa using h)
    unfold findV envL hasV at *
    simp only [List.zip_cons_cons, List.map_cons, List.find?_cons, List.any_cons]
    by_cases hs : v.name == s
    · simp [hs]
    · simp only [hs, Bool.false_or]
      exact ih
theorem sees_of {p : Problem} (h : validP p = 0) {a : List Int} (hlen : a.length = p.vars.length) : Sees p.vars (envS p.vars a) := by
  rw [envS_eq, if_pos hlen]
  refine ⟨fun s => findV_zip hlen, fun b i hi hb hh => ?_⟩
  have hg : p.vars.any (fun v => gapS p.vars v.name) = false := by
    unfold validP at h
    split at h
    · rename_i hn; exact absurd h hn
    rename_i hv
    have hv : varsS p.vars = 0 := Classical.not_not.1 hv
    unfold varsS at hv
    split at hv
    · cases hv
    split at hv
    · rename_i hn; exact absurd hv hn
    split at hv
    · cases hv
    split at hv
    · cases hv
    rename_i hn
    simpa using hn
  unfold hasV at hh
  obtain ⟨v, hm, he⟩ := List.any_eq_true.1 hh
  have hgv : gapS p.vars v.name = false := by
    rw [Bool.eq_false_iff]
    intro hx
    have : p.vars.any (fun v => gapS p.vars v.name) = true := List.any_eq_true.2 ⟨v, hm, hx⟩
    rw [this] at hg; cases hg
  rw [gapS_succ (a := b) (i := i) ⟨by omega, hb, eq_of_beq he⟩] at hgv
  simpa using hgv

def andI (x y : Int) : Int := IntKind.i64.wrap ((BitVec.ofInt IntKind.i64.bits x &&& BitVec.ofInt IntKind.i64.bits y).toNat : Int)
theorem op_and (x y : Int) : intOp .and .i64 x y = some (.int .i64 (andI x y)) := rfl
theorem op_add (k : IntKind) (x y : Int) : intOp .add k x y = some (.int k (k.wrap (x + y))) := rfl
theorem op_sub (k : IntKind) (x y : Int) : intOp .sub k x y = some (.int k (k.wrap (x - y))) := rfl
theorem op_lss (k : IntKind) (x y : Int) : intOp .lss k x y = some (.bool (x < y)) := rfl
theorem op_eql (k : IntKind) (x y : Int) : intOp .eql k x y = some (.bool (x == y)) := rfl
theorem andI_15 (n : Int) : 0 ≤ andI n 15 := by
  have e : ((BitVec.ofInt 64 n &&& 15#64).toNat : Int) = n % 16 := by
    rw [BitVec.toNat_and, BitVec.toNat_ofInt]
    have e : (15#64).toNat = 2 ^ 4 - 1 := by decide
    rw [e, Nat.and_two_pow_sub_one_eq_mod]
    omega
  have h : andI n 15 = IntKind.i64.wrap ((BitVec.ofInt 64 n &&& 15#64).toNat : Int) := rfl
  rw [h, e, wr (by omega) (by omega)]
  omega
/-- The value of a variable, for a number. -/
def fit1 (v : Var) (n : Int) : Int := if v.mode = 0 then v.value else andI n (IntKind.i64.wrap (IntKind.i64.wrap (1 * 2 ^ (min (andI v.width 15).toNat IntKind.i64.bits)) - 1))
def fitL : List Var → List Int → List Int
  | [], _ => []
  | v :: r, [] => fit1 v 0 :: fitL r []
  | v :: r, x :: xs => fit1 v x :: fitL r xs
theorem fitL_len : ∀ (l : List Var) (xs : List Int), (fitL l xs).length = l.length
  | [], _ => by simp [fitL]
  | v :: r, [] => by simp [fitL, fitL_len r []]
  | v :: r, x :: xs => by simp [fitL, fitL_len r xs]
theorem fitL_get : ∀ {l : List Var} {xs : List Int} {i : Nat} {v : Var}, l[i]? = some v → (fitL l xs)[i]? = some (fit1 v ((xs[i]?).getD 0))
  | v :: r, [], 0, w, h => by simp at h; simp [fitL, h]
  | v :: r, x :: xs, 0, w, h => by simp at h; simp [fitL, h]
  | v :: r, [], i + 1, w, h => by
    have := fitL_get (l := r) (xs := []) (i := i) (v := w) (by simpa using h)
    simpa [fitL] using this
  | v :: r, x :: xs, i + 1, w, h => by
    have := fitL_get (l := r) (xs := xs) (i := i) (v := w) (by simpa using h)
    simpa [fitL] using this
theorem outK_end {α : Type} {sz : Nat} {en : α → List AV} (s : List α) (H : List Blk) (hn : ∀ x, noRefs (en x) = true) : noRef (fin H (outK sz en s)) = true ∧ Leq (fin H (outK sz en s)) (.sl sz (s.map en) .none) := by
  cases s with
  | nil => simp [outK, Leq]
  | cons a r =>
    have h := noRefss_map hn (a :: r)
    refine ⟨?_, Leq.sl rfl⟩
    simpa [outK] using h
set_option maxHeartbeats 2000000 in
theorem fit15 (p : Problem) (xs : List Int) (hl : p.vars.length ≤ 20) (ha : Fits xs) : Pure Tryz.prog GG 15 [.agg (encP p), .sl 1 (xs.map encInt) .none] (.sl 1 ((fitL p.vars xs).map encInt) .none) := by
  refine Pure.vc mixed Tryz.func15 rfl (by kernel_rfl) ?_
  have hlen := fitL_len p.vars xs
  simp
  refine vcLoop.intro (fun n ev σ => ∃ i tl, i ≤ p.vars.length ∧ n = p.vars.length - i ∧ ev 1 = .sl 1 (xs.map encInt) .none ∧ ev 2 = .ptr 0 0 ∧ ev 5 = outK 1 encInt ((fitL p.vars xs).take i) ∧ ev 6 = .int .i64 i ∧ σ = ⟨.cells (encP p) :: tl, outTK ((fitL p.vars xs).take i)⟩) p.vars.length ⟨0, [], by simp, by simp, by simp, by simp, by simp, by simp, by simp⟩ ?_
  rintro n ev σ ⟨i, tl, hi, rfl, h1, h2, h5, h6, rfl⟩
  cases hvi : p.vars[i]? with
  | some v =>
    obtain ⟨hc, hv'⟩ := List.getElem?_eq_some_iff.1 hvi
    have hg := fitL_get (xs := xs) hvi
    have ht : (fitL p.vars xs).take (i + 1) = (fitL p.vars xs).take i ++ [fit1 v ((xs[i]?).getD 0)] := by
      rw [List.take_add_one, hg]; rfl
    have hRl : ((fitL p.vars xs).take i).length ≤ 20 := by simp; omega
    have h15 := andI_15 v.width
    have h15' : ¬ andI v.width 15 < 0 := by omega
    have hw : IntKind.i64.wrap ((i : Int) + 1) = ((i + 1 : Nat) : Int) := by rw [wr (by omega) (by omega)]; omega
    generalize hX : (xs[i]?).getD 0 = X at ht
    have hfin : ∀ (x : Int) (R : List Int), x = fit1 v X → (fitL p.vars xs).take i = R → ∃ q, q < p.vars.length - i ∧ ∃ j, j ≤ p.vars.length ∧ q = p.vars.length - j ∧ outK 1 encInt (R ++ [x]) = outK 1 encInt ((fitL p.vars xs).take j) ∧ IntKind.i64.wrap ((i : Int) + 1) = (j : Int) ∧ outTK (R ++ [x]) = outTK ((fitL p.vars xs).take j) := by
      intro x R hx hR
      subst hx
      rw [hR] at ht
      exact ⟨_, by omega, i + 1, by omega, rfl, by rw [ht], hw, by rw [ht]⟩
    clear ht
    have hget : i < xs.length → xs[i]? = some X := fun h => by
      rw [List.getElem?_eq_getElem h] at hX ⊢
      simpa using hX
    have hget0 : ¬ i < xs.length → X = 0 := fun h => by
      rw [List.getElem?_eq_none (by omega)] at hX
      exact hX.symm
    have hm1 : ¬ v.mode = 0 → andI X (IntKind.i64.wrap (IntKind.i64.wrap (2 ^ (min (andI v.width 15).toNat IntKind.i64.bits)) - 1)) = fit1 v X := fun h => by unfold fit1; rw [if_neg h, Int.one_mul]
    have hm0 : v.mode = 0 → v.value = fit1 v X := fun h => by unfold fit1; rw [if_pos h]
    by_cases hx : i < xs.length
    · have hgx' := (List.getElem?_eq_some_iff.1 (hget hx)).2
      by_cases hm : v.mode = 0
      · generalize hR : (fitL p.vars xs).take i = R at h5 hRl ⊢
        cases R with
        | nil =>
          simp only [outK] at h5
          have hf := hfin _ [] (hm0 hm) hR
          simp [h1, h2, h5, h6, hc, hv', hx, hm, List.set_append, appendA, buildSliceA, rowsFill, rowsOf]
          simpa [outK, outTK] using hf
        | cons b r =>
          have hb : r.length ≤ 1073741822 := by simp at hRl; omega
          have hf := hfin _ (b :: r) (hm0 hm) hR
          simp only [outK] at h5
          simp [h1, h2, h5, h6, hc, hv', hx, hm, List.set_append, appendA, buildSliceA, rowsFill, rowsOf, outTK, hb]
          simpa [outK, outTK] using hf
      · generalize hR : (fitL p.vars xs).take i = R at h5 hRl ⊢
        cases R with
        | nil =>
          simp only [outK] at h5
          have hf := hfin _ [] (hm1 hm) hR
          simp [-intOp, op_and, op_add, op_sub, op_lss, op_eql, h1, h2, h5, h6, hc, hv', hx, hgx', hm, List.set_append, appendA, buildSliceA, rowsFill, rowsOf, h15']
          simpa [outK, outTK] using hf
        | cons b r =>
          have hb : r.length ≤ 1073741822 := by simp at hRl; omega
          have hf := hfin _ (b :: r) (hm1 hm) hR
          simp only [outK] at h5
          simp [-intOp, op_and, op_add, op_sub, op_lss, op_eql, h1, h2, h5, h6, hc, hv', hx, hgx', hm, List.set_append, appendA, buildSliceA, rowsFill, rowsOf, outTK, hb, h15']
          simpa [outK, outTK] using hf
    · have hX0 := hget0 hx
      rw [hX0] at hm1
      rw [hX0] at hm0
      rw [hX0] at hfin
      by_cases hm : v.mode = 0
      · generalize hR : (fitL p.vars xs).take i = R at h5 hRl ⊢
        cases R with
        | nil =>
          simp only [outK] at h5
          have hf := hfin _ [] (hm0 hm) hR
          simp [h1, h2, h5, h6, hc, hv', hx, hm, List.set_append, appendA, buildSliceA, rowsFill, rowsOf]
          simpa [outK, outTK] using hf
        | cons b r =>
          have hb : r.length ≤ 1073741822 := by simp at hRl; omega
          have hf := hfin _ (b :: r) (hm0 hm) hR
          simp only [outK] at h5
          simp [h1, h2, h5, h6, hc, hv', hx, hm, List.set_append, appendA, buildSliceA, rowsFill, rowsOf, outTK, hb]
          simpa [outK, outTK] using hf
      · generalize hR : (fitL p.vars xs).take i = R at h5 hRl ⊢
        cases R with
        | nil =>
          simp only [outK] at h5
          have hf := hfin _ [] (hm1 hm) hR
          simp [-intOp, op_and, op_add, op_sub, op_lss, op_eql, h1, h2, h5, h6, hc, hv', hx, hm, List.set_append, appendA, buildSliceA, rowsFill, rowsOf, h15']
          simpa [outK, outTK] using hf
        | cons b r =>
          have hb : r.length ≤ 1073741822 := by simp at hRl; omega
          have hf := hfin _ (b :: r) (hm1 hm) hR
          simp only [outK] at h5
          simp [-intOp, op_and, op_add, op_sub, op_lss, op_eql, h1, h2, h5, h6, hc, hv', hx, hm, List.set_append, appendA, buildSliceA, rowsFill, rowsOf, outTK, hb, h15']
          simpa [outK, outTK] using hf
  | none =>
    have hc : ¬ i < p.vars.length := by simp at hvi; omega
    rw [List.take_of_length_le (by omega)] at h5 ⊢
    have q := fun H => outK_end (sz := 1) (en := encInt) (fitL p.vars xs) H (fun x => by simp)
    simp [h1, h2, h5, h6, hc]
    exact q _
end Go.Proofs.YtpgcmnabljandaaGreatDoor
end

section
/-
  The law of Scalar's values: the walk of its function.
-/
set_option linter.unusedVariables false
set_option linter.unusedSimpArgs false
set_option maxRecDepth 100000
namespace Go.Proofs.YtpgcmnabljandaaGreatDoor
open Go Go.Abs

attribute [local simp high] acells_encE
attribute [local simp] acells_int acells_str acells_bool acells_sl acells_agg encE_atoms encE_len putAt_encE putAt_encE2 take_encE
theorem scalE_ok {p : Problem} {e : Ex} (h : scalE p e = 0) : validP p = 0 ∧ validE e = 0 ∧ unkB p.vars e = false ∧ ¬ 400 < (extE p.vars e).1 ∧ validE (scE p.vars e) = 0 := by
  unfold scalE at h
  split at h
  · cases h
  rename_i h1
  split at h
  · rename_i h2; exact absurd h h2
  rename_i h2
  split at h
  · cases h
  rename_i h3
  split at h
  · cases h
  rename_i h4
  exact ⟨Classical.not_not.1 h1, Classical.not_not.1 h2, by simpa using h3, h4, h⟩
set_option maxHeartbeats 2000000 in
theorem values9 (p : Problem) (e : Ex) (xs : List Int) (h : VH p) (hwe : Wen e) (ha : Fits xs) : Pure Tryz.prog GG 9 [.agg (encP p), .agg (encE e), .sl 1 (xs.map encInt) .none] (.bool true) := by
  refine Pure.vc mixed Tryz.func9 rfl (by kernel_rfl) ?_
  have hsm := small22 p h.exprs
  have hbr := brief29 e hwe 0 (by omega)
  cases hs : smallS p
  · rw [hs] at hsm
    simp only [encP] at hsm
    simp [-acells]
    refine vcCall.call hsm (by simp) ?_
    try simp [-acells]
    refine vcCall.call works11 rfl ?_
    simp
  · rw [hs] at hsm
    have hp := h.small hs
    simp only [encP] at hsm
    simp [-acells]
    refine vcCall.call hsm (by simp) ?_
    try simp [-acells]
    refine vcCall.call hbr (by simp) ?_
    cases hb : briefS e 0
    · simp [-acells]
      refine vcCall.call works11 rfl ?_
      simp
    · have hh := brief_hgt e 0 hb
      have hf := brief_few hb
      have hsc := scalar34 p e hp hwe (by omega)
      have hV : scalV p e = if scalE p e = 0 then scE p.vars e else zeroE := rfl
      simp only [encP] at hsc
      by_cases h0 : scalE p e = 0
      · obtain ⟨a1, a2, a3, a4, a5⟩ := scalE_ok h0
        rw [if_pos h0] at hV
        rw [hV, h0] at hsc
        have hn := validE_nodes a2
        obtain ⟨w1, w2, w3⟩ := sc_wen hn a3 a4
        have hfl := fitL_len p.vars xs
        have hv20 := hp.vars20
        have hfit := fit15 p xs hv20 ha
        have hen := env16 p (fitL p.vars xs) hv20 (by omega)
        have hel := envS_len (l := p.vars) (a := fitL p.vars xs)
        have hsee := sees_of a1 hfl
        have hval := sc_val hsee e hn a3
        have hk1 := e_known hsee a3
        have hk2 := sc_known hsee e hn a3
        have he1 := eval37 (envS p.vars (fitL p.vars xs)) (by omega) e hwe (by omega) (by omega)
        have he2 := eval37 (envS p.vars (fitL p.vars xs)) (by omega) (scE p.vars e) w1 (by omega) (by omega)
        have x1 : evalE (envS p.vars (fitL p.vars xs)) e = 0 := by unfold evalE; rw [if_neg (by simpa using a2), if_pos hk1]
        have x2 : evalE (envS p.vars (fitL p.vars xs)) (scE p.vars e) = 0 := by unfold evalE; rw [if_neg (by simpa using a5), if_pos hk2]
        have x3 : evalV (envS p.vars (fitL p.vars xs)) e = valV (envS p.vars (fitL p.vars xs)) e := by unfold evalV; rw [if_pos ⟨a2, hk1⟩]
        have x4 : evalV (envS p.vars (fitL p.vars xs)) (scE p.vars e) = valV (envS p.vars (fitL p.vars xs)) e := by unfold evalV; rw [if_pos ⟨a5, hk2⟩, hval]
        rw [x1, x3] at he1
        rw [x2, x4] at he2
        generalize valV (envS p.vars (fitL p.vars xs)) e = V at he1 he2
        generalize envS p.vars (fitL p.vars xs) = E at hen he1 he2
        generalize fitL p.vars xs = F at hfit hen
        generalize scE p.vars e = S at hsc he2
        simp only [encP] at hfit hen
        simp [-acells]
        refine vcCall.call hsc (by simp) ?_
        simp [-acells]
        refine vcCall.call hfit (by simp) ?_
        try simp [-acells]
        refine vcCall.call hen (by simp) ?_
        simp [-acells]
        refine vcCall.call he1 (by simp) ?_
        simp [-acells]
        refine vcCall.call he2 (by simp) ?_
        simp [-acells]
        refine vcCall.call works11 rfl ?_
        simp
      · simp [-acells]
        refine vcCall.call hsc (by simp) ?_
        simp [-acells, h0]
        refine vcCall.call works11 rfl ?_
        simp
end Go.Proofs.YtpgcmnabljandaaGreatDoor
end
