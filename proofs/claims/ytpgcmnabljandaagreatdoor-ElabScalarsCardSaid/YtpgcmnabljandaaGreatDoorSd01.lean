/- A part of the proof: texts Walk47 Walk47b Walk47c Walk47d Walk49. -/
import Derived.Test.YtpgcmnabljandaaGreatDoorSc04
import Derived.Test.YtpgcmnabljandaaGreatDoorWk19

section
/-
  Walks: Scalar of the reference.
-/
set_option linter.unusedVariables false
set_option linter.unusedSimpArgs false
set_option maxRecDepth 100000
namespace Go.Proofs.YtpgcmnabljandaaGreatDoor
open Go Go.Abs

attribute [local simp high] acells_encE
attribute [local simp] acells_int acells_str acells_bool acells_sl acells_agg encE_atoms encE_len putAt_encE putAt_encE2 take_encE
theorem enc_node (o n : Int) (s : Str) (a : List Ex) : encE (.mk o n s a) = [.int .i64 o, .int .i64 n, .str s, .sl 4 (a.map encE) .none] := by simp [encE]


/-- Cells that read as an expression. -/
structure Near (c : List AV) (Y : Ex) : Prop where
  len : c.length = 4
  atoms : c.all AV.atom = true
  leq : LeqL c (encE Y)
  nr : noRefs c = true
theorem leqR_cons {a b : List AV} {r s : List (List AV)} (h1 : a = b ∨ (LeqL a b ∧ b.all AV.atom = true)) (h2 : LeqR r s) : LeqR (a :: r) (b :: s) := by
  simp only [LeqR]
  exact ⟨h1, h2⟩
theorem leqR_nil : LeqR [] [] := by simp only [LeqR]
theorem Near.row {c : List AV} {Y : Ex} (h : Near c Y) : c = encE Y ∨ (LeqL c (encE Y) ∧ (encE Y).all AV.atom = true) := .inr ⟨h.leq, encE_atoms Y⟩
theorem near_enc (Y : Ex) : Near (encE Y) Y := ⟨encE_len Y, encE_atoms Y, LeqL.refl _, nrE' Y⟩
theorem near_mk {o n : Int} {s : Str} {rows : List (List AV)} {args : List Ex} (h : LeqR rows (args.map encE)) (hn : noRefss rows = true) : Near [.int .i64 o, .int .i64 n, .str s, .sl 4 rows .tight] (.mk o n s args) := by
  refine ⟨rfl, rfl, ?_, ?_⟩
  · rw [enc_node]
    simp only [LeqL, Leq, and_true, true_and]
    exact .inr ⟨h, .inl trivial⟩
  · simp [hn]
theorem Near.four {c : List AV} {Y : Ex} (h : Near c Y) : ∃ c0 c1 c2 c3, c = [c0, c1, c2, c3] := by
  have := h.len
  match c, this with
  | [c0, c1, c2, c3], _ => exact ⟨c0, c1, c2, c3, rfl⟩
theorem Near.fin {c0 c1 c2 c3 : AV} {Y : Ex} (h : Near [c0, c1, c2, c3] Y) (H : List Blk) : fin1 H c0 = c0 ∧ fin1 H c1 = c1 ∧ fin1 H c2 = c2 ∧ fin1 H c3 = c3 := by
  have := h.nr
  simp only [noRefs, Bool.and_eq_true, and_true] at this
  exact ⟨fin1_noRef this.1, fin1_noRef this.2.1, fin1_noRef this.2.2.1, fin1_noRef this.2.2.2⟩
set_option maxHeartbeats 2000000 in
theorem rchain163 (a : Str) (x : Ex) (n : Nat) (h8 : n ≤ 8) (ha : a.length ≤ 1000) (hx : x.op = 1 → 0 ≤ x.n) :
    Pure Tryz.prog GG 163 [.str a, .agg (encE x), .int .i64 n] (.agg (encE (chainE a x n))) := by
  refine Pure.vc mixed Tryz.func163 rfl (by kernel_rfl) ?_
  by_cases c1 : x.op = 1
  · by_cases c2 : x.n < n
    · have hr : chainE a x n = itemE a x.n.toNat := by unfold chainE; rw [if_pos c1, if_pos c2]
      rw [hr]
      have h0 := hx c1
      obtain ⟨m, hm⟩ := Int.eq_ofNat_of_zero_le h0
      rw [hm] at c2 ⊢
      rw [Int.toNat_natCast]
      have hv1 := ritem162 a m (by omega) ha
      simp [-acells, encE_eq x, c1, hm, c2]
      refine vcCall.call hv1 rfl ?_
      simp [-acells, fin1_encE]
    · have hr : chainE a x n = constE 0 := by unfold chainE; rw [if_pos c1, if_neg c2]
      rw [hr]
      simp [-acells, encE_eq x, c1, c2, constE, enc_node, buildA, fillA, stPlace, putAt]
  · have hr : chainE a x n = ifsE a x n n := by unfold chainE; rw [if_neg c1]
    rw [hr]
    have w0 : IntKind.i64.wrap ((n : Int) - 1) = (n : Int) - 1 := wr (by omega) (by omega)
    have n0 : Near [.int .i64 1, .int .i64 0, .str [], .sl 0 [] .nil] (constE 0) := ⟨rfl, rfl, by simp [constE, enc_node, LeqL, Leq], by simp⟩
    simp [-acells, encE_eq x, c1, w0, buildA, fillA, stPlace, putAt]
    refine vcLoop.intro (fun q ev σ => q ≤ n ∧ ev 0 = .str a ∧ ev 4 = .ptr 0 0 ∧ ev 6 = .ptr 1 0 ∧ ev 7 = .ptr 2 0 ∧ ev 8 = .int .i64 ((q : Int) - 1) ∧ ∃ tl c, Near c (ifsE a x n (n - q)) ∧ σ = ⟨.cells (encE x) :: .cells [.int .i64 0, .int .i64 0, .str [], .sl 0 [] .nil] :: .cells c :: tl, []⟩) n ⟨by simp, by simp, by simp, by simp, by simp, by simp, [], _, by rw [Nat.sub_self]; exact n0, by simp [encE_eq x]⟩ ?_
    rintro q ev σ ⟨hq, h1, h4, h6, h7, h9, tl, c, hn, rfl⟩
    obtain ⟨c0, c1', c2, c3, rfl⟩ := hn.four
    have hac : acells (.agg [c0, c1', c2, c3]) = some [c0, c1', c2, c3] := acells_agg hn.atoms
    cases q with
    | zero =>
      simp only [Int.natCast_zero, Int.zero_sub, Nat.sub_zero] at h9 hn ⊢
      have hf := hn.fin
      have hnr := hn.nr
      have hlq := hn.leq
      simp only [noRefs, Bool.and_eq_true, and_true] at hnr
      simp [-acells, -fin1, h1, h4, h6, h7, h9, hac, putAt, hf, hnr]
      exact hlq
    | succ k =>
      have e9 : ((k + 1 : Nat) : Int) - 1 = k := by omega
      rw [e9] at h9
      have hi : n - 1 - (n - (k + 1)) = k := by omega
      have hst : ifsE a x n (n - k) = .mk 22 0 [] [.mk 15 0 [] [x, constE (k : Int)], itemE a k, ifsE a x n (n - (k + 1))] := by
        rw [show n - k = (n - (k + 1)) + 1 by omega, ifsE, hi]
      generalize ifsE a x n (n - (k + 1)) = Y at hst hn ⊢
      have hv1 := ritem162 a k (by omega) ha
      have hp : (0 : Int) ≤ k := by omega
      have nk : Near [.int .i64 1, .int .i64 k, .str [], .sl 0 [] .nil] (constE k) := ⟨rfl, rfl, by simp [constE, enc_node, LeqL, Leq], by simp⟩
      have n15 : Near [.int .i64 15, .int .i64 0, .str [], .sl 4 [encE x, [.int .i64 1, .int .i64 k, .str [], .sl 0 [] .nil]] .tight] (.mk 15 0 [] [x, constE k]) := near_mk (leqR_cons (.inl rfl) (leqR_cons nk.row leqR_nil)) (by simp)
      have n22 : Near [.int .i64 22, .int .i64 0, .str [], .sl 4 [[.int .i64 15, .int .i64 0, .str [], .sl 4 [encE x, [.int .i64 1, .int .i64 k, .str [], .sl 0 [] .nil]] .tight], encE (itemE a k), [c0, c1', c2, c3]] .tight] (.mk 22 0 [] [.mk 15 0 [] [x, constE (k : Int)], itemE a k, Y]) :=
        near_mk (leqR_cons n15.row (leqR_cons (.inl rfl) (leqR_cons hn.row leqR_nil))) (by have := hn.nr; simp only [noRefss, Bool.and_true, Bool.and_eq_true]; exact ⟨n15.nr, nrE' _, this⟩)
      rw [← hst] at n22
      simp [-acells, h1, h4, h6, h7, h9, hp, buildA, fillA, stPlace, putAt, buildSliceA, rowsFill, List.set_append]
      refine vcCall.call hv1 rfl ?_
      simp [-acells, h1, h4, h6, h7, h9, hac, buildA, fillA, stPlace, putAt, buildSliceA, rowsFill]
      exact ⟨k, by omega, by omega, wr (by omega) (by omega), _, _, n22, by constructor <;> rfl⟩
end Go.Proofs.YtpgcmnabljandaaGreatDoor
end

section
/-
  Walks: Scalar of the reference: what is fixed, unknown, how large it becomes.
-/
set_option linter.unusedVariables false
set_option linter.unusedSimpArgs false
set_option maxRecDepth 100000
namespace Go.Proofs.YtpgcmnabljandaaGreatDoor
open Go Go.Abs

attribute [local simp high] acells_encE
attribute [local simp] acells_int acells_str acells_bool acells_sl acells_agg encE_atoms encE_len putAt_encE putAt_encE2 take_encE

def fixR (v : Int) : AV := .tup [.int .i64 (if 0 ≤ v then v else 0), .bool (decide (0 ≤ v))]
theorem ext_val {l : List Var} {e : Ex} (hn : NodesOk e) (hu : unkB l e = false) : 0 ≤ (extE l e).2 ∨ (extE l e).2 = -1 := by
  rcases (extOk l e hn hu).val with ⟨v0, _, _⟩ | ⟨v0, _⟩
  · exact .inl v0
  · exact .inr v0
theorem ext_one {l : List Var} {e : Ex} (hn : NodesOk e) (hu : unkB l e = false) (h : 0 ≤ (extE l e).2) : (extE l e).1 = 1 := by
  rw [extE_eq] at h ⊢
  unfold extN at h ⊢
  split at h
  · rename_i c; rw [if_pos c]
  rename_i c1
  rw [if_neg c1]
  split at h
  · simp at h
  rename_i c24
  rw [if_neg c24]
  split at h
  · simp at h
  rename_i c3
  rw [if_neg c3]
  split at h
  · rename_i c5; rw [if_pos c5]
  rename_i c5
  rw [if_neg c5]
  split at h
  · simp at h
  · simp at h
set_option maxHeartbeats 2000000 in
theorem rfixed161 (l : List Var) (hl : Fits l) (hv : ∀ v ∈ l, varS v.name = true) : ∀ e, NodesOk e → unkB l e = false → Pure Tryz.prog GG 161 [.sl 4 (l.map encVar) .none, .agg (encE e)] (fixR (extE l e).2) := by
  refine Ex.ind fun e ih hn hu => ?_
  refine Pure.vc mixed Tryz.func161 rfl (by kernel_rfl) ?_
  have hnl := name_le hn
  have hsz := rsize160 l e.name hl hnl hv
  obtain ⟨k1, k2, k3, _⟩ := nodeE_zero hn.self
  by_cases c1 : e.op = 1
  · have x : (extE l e).2 = e.n := by rw [extE_eq]; unfold extN; rw [if_pos c1]
    have h0 := (k3 c1).1
    rw [x]
    simp only [encE_eq e]
    simp [-acells, c1, fixR, h0]
  by_cases c3 : e.op = 3
  · obtain ⟨a, ha⟩ := args1 hn c3
    have hna := hn.arg (a := a) (by rw [ha]; simp)
    have hua := unkB_arg (a := a) hu (by rw [ha]; simp)
    have ih := ih a (by rw [ha]; simp) hna hua
    have x : (extE l e).2 = if (sizeA l e.name : Int) ≤ (extE l a).2 then 0 else -1 := by
      rw [extE_eq]
      unfold extN
      rw [if_neg c1, if_neg (by omega), if_neg (fun h => h c3), ha]
      show (if (sizeA l e.name : Int) ≤ (extE l a).2 then ((1, 0) : Int × Int) else _).2 = _
      split
      · rfl
      · split <;> rfl
    have hs := unk1_size (unkB_self hu) (.inl c3)
    generalize hr : fixR (extE l e).2 = r
    rw [x] at hr
    generalize sizeA l e.name = n at hsz hr hs
    generalize (extE l a).2 = v at ih hr
    have hrow : e.args = [a] := ha
    simp only [encE_eq e, hrow]
    simp [-acells, c1, c3]
    refine vcCall.call ih (by simp) ?_
    by_cases h0 : 0 ≤ v
    · simp [-acells, fixR, h0]
      refine vcCall.call hsz (by simp) ?_
      by_cases c5 : (n : Int) ≤ v
      · rw [if_pos c5] at hr
        subst hr
        simp [-acells, c5, fixR]
      · rw [if_neg c5] at hr
        subst hr
        simp [-acells, c5, fixR]
    · rw [if_neg (by omega)] at hr
      subst hr
      simp [-acells, fixR, h0]
  · have x : (extE l e).2 = -1 := by
      rw [extE_eq]
      unfold extN
      rw [if_neg c1]
      split
      · rfl
      · rfl
    rw [x]
    simp only [encE_eq e]
    simp [-acells, c1, c3, fixR]

set_option maxHeartbeats 4000000 in
theorem runknown93 (l : List Var) (hl : Fits l) (hv : ∀ v ∈ l, varS v.name = true) : ∀ e, Wen e → NodesOk e → Pure Tryz.prog GG 93 [.sl 4 (l.map encVar) .none, .agg (encE e)] (.bool (unkB l e)) := by
  refine Ex.ind fun e ih hwe hn => ?_
  refine Pure.vc mixed Tryz.func93 rfl (by kernel_rfl) ?_
  have hnl := name_le hn
  have hfa := hwe.fits
  have hsz := rsize160 l e.name hl hnl hv
  have hfd := find139 GG l e.name hl
  have hd : decide (0 ≤ findI (fun v : Var => v.name == e.name) l 0) = hasV l e.name := findI_dec _ l
  have hr := unkB_eq l e
  generalize unkB l e = r at hr
  have loop : ∀ (σ0 : St), True := fun _ => trivial
  cases h1 : unk1 l e
  · rw [h1, Bool.false_or] at hr
    have e2 : e.op = 2 → ¬ findI (fun v : Var => v.name == e.name) l 0 < 0 := fun c2 => by
      rw [unk1_var h1 c2] at hd
      have := of_decide_eq_true hd
      omega
    have e3 : e.op = 3 ∨ e.op = 24 → ¬ sizeA l e.name = 0 := fun c3 => by
      have := unk1_size h1 c3; omega
    have hgo : ∀ (ev : Env), ev 0 = .sl 4 (l.map encVar) .none → ev 3 = .ptr 0 0 → ev 5 = .int .i64 0 → True := fun _ _ _ _ => trivial
    by_cases c2 : e.op = 2
    · have e2 := e2 c2
      have ha : e.args = [] := args0 hn (by rw [c2]; decide) (by omega)
      rw [ha] at hr
      simp at hr
      subst hr
      simp only [encE_eq e]
      simp [-acells, c2]
      refine vcCall.call hfd (by simp) ?_
      simp [-acells, e2]
      refine vcLoop.intro (fun n ev σ => n = 0 ∧ ev 3 = .ptr 0 0 ∧ ev 5 = .int .i64 0 ∧ σ = ⟨[.cells (encE e)], []⟩) 0 ⟨rfl, by simp, by simp, by simp [encE_eq e, c2]⟩ ?_
      rintro n ev σ ⟨rfl, h3, h5, rfl⟩
      simp [-acells, h3, h5, encE_eq e, ha]
    · have tail : ∀ ev : Env, True := fun _ => trivial
      by_cases c3 : e.op = 3
      · have e3 := e3 (.inl c3)
        simp only [encE_eq e]
        simp [-acells, c3]
        refine vcCall.call hsz (by simp) ?_
        simp [-acells, e3]
        refine vcLoop.intro (fun n ev σ => ∃ i, i ≤ e.args.length ∧ n = e.args.length - i ∧ ev 0 = .sl 4 (l.map encVar) .none ∧ ev 3 = .ptr 0 0 ∧ ev 5 = .int .i64 i ∧ σ = ⟨[.cells (encE e)], []⟩ ∧ ∀ a ∈ e.args.take i, unkB l a = false) e.args.length ⟨0, by simp, by simp, by simp, by simp, by simp, by simp [encE_eq e, c3], by simp⟩ ?_
        rintro n ev σ ⟨i, hi, rfl, h0, h3, h5, rfl, hz⟩
        cases hvi : e.args[i]? with
        | some a =>
          obtain ⟨hc, hv'⟩ := List.getElem?_eq_some_iff.1 hvi
          have hm := List.mem_of_getElem? hvi
          have ih := ih a hm (hwe.arg hm) (hn.arg hm)
          simp [-acells, h0, h3, h5, hc, hv', encE_eq e]
          refine vcCall.call ih (by simp) ?_
          cases hua : unkB l a
          · simp [-acells, h0, h3, h5]
            exact ⟨_, by omega, i + 1, by omega, rfl, wr (by omega) (by omega), take_succ_all (p := fun a => unkB l a = false) hvi hz hua⟩
          · have : e.args.any (unkB l) = true := List.any_eq_true.2 ⟨a, hm, hua⟩
            rw [this] at hr
            subst hr
            simp [-acells]
        | none =>
          have hle : e.args.length ≤ i := by simpa using hvi
          have hc : ¬ i < e.args.length := by omega
          rw [List.take_of_length_le hle] at hz
          have : e.args.any (unkB l) = false := by
            rw [Bool.eq_false_iff]
            intro h
            obtain ⟨a, hm, hua⟩ := List.any_eq_true.1 h
            rw [hz a hm] at hua; cases hua
          rw [this] at hr
          subst hr
          simp [-acells, h0, h3, h5, hc, encE_eq e]
      · by_cases c24 : e.op = 24
        · have e3 := e3 (.inr c24)
          have ha : e.args = [] := args0 hn (by rw [c24]; decide) (by omega)
          rw [ha] at hr
          simp at hr
          subst hr
          simp only [encE_eq e]
          simp [-acells, c24]
          refine vcCall.call hsz (by simp) ?_
          simp [-acells, e3]
          refine vcLoop.intro (fun n ev σ => n = 0 ∧ ev 3 = .ptr 0 0 ∧ ev 5 = .int .i64 0 ∧ σ = ⟨[.cells (encE e)], []⟩) 0 ⟨rfl, by simp, by simp, by simp [encE_eq e, c24]⟩ ?_
          rintro n ev σ ⟨rfl, h3, h5, rfl⟩
          simp [-acells, h3, h5, encE_eq e, ha]
        · simp only [encE_eq e]
          simp [-acells, c2, c3, c24]
          refine vcLoop.intro (fun n ev σ => ∃ i, i ≤ e.args.length ∧ n = e.args.length - i ∧ ev 0 = .sl 4 (l.map encVar) .none ∧ ev 3 = .ptr 0 0 ∧ ev 5 = .int .i64 i ∧ σ = ⟨[.cells (encE e)], []⟩ ∧ ∀ a ∈ e.args.take i, unkB l a = false) e.args.length ⟨0, by simp, by simp, by simp, by simp, by simp, by simp [encE_eq e], by simp⟩ ?_
          rintro n ev σ ⟨i, hi, rfl, h0, h3, h5, rfl, hz⟩
          cases hvi : e.args[i]? with
          | some a =>
            obtain ⟨hc, hv'⟩ := List.getElem?_eq_some_iff.1 hvi
            have hm := List.mem_of_getElem? hvi
            have ih := ih a hm (hwe.arg hm) (hn.arg hm)
            simp [-acells, h0, h3, h5, hc, hv', encE_eq e]
            refine vcCall.call ih (by simp) ?_
            cases hua : unkB l a
            · simp [-acells, h0, h3, h5]
              exact ⟨_, by omega, i + 1, by omega, rfl, wr (by omega) (by omega), take_succ_all (p := fun a => unkB l a = false) hvi hz hua⟩
            · have : e.args.any (unkB l) = true := List.any_eq_true.2 ⟨a, hm, hua⟩
              rw [this] at hr
              subst hr
              simp [-acells]
          | none =>
            have hle : e.args.length ≤ i := by simpa using hvi
            have hc : ¬ i < e.args.length := by omega
            rw [List.take_of_length_le hle] at hz
            have : e.args.any (unkB l) = false := by
              rw [Bool.eq_false_iff]
              intro h
              obtain ⟨a, hm, hua⟩ := List.any_eq_true.1 h
              rw [hz a hm] at hua; cases hua
            rw [this] at hr
            subst hr
            simp [-acells, h0, h3, h5, hc, encE_eq e]
  · rw [h1, Bool.true_or] at hr
    subst hr
    unfold unk1 at h1
    rw [Bool.or_eq_true, Bool.and_eq_true, Bool.and_eq_true] at h1
    rcases h1 with ⟨c2, hh⟩ | ⟨c3, hh⟩
    · have c2 := of_decide_eq_true c2
      have hh : hasV l e.name = false := by simpa using hh
      rw [hh] at hd
      have hlt : findI (fun v : Var => v.name == e.name) l 0 < 0 := by
        have := of_decide_eq_false hd
        omega
      simp only [encE_eq e]
      simp [-acells, c2]
      refine vcCall.call hfd (by simp) ?_
      simp [-acells, hlt]
    · have c3 := of_decide_eq_true c3
      have h0 := of_decide_eq_true hh
      rw [h0] at hsz
      rcases c3 with c3 | c3
      · simp only [encE_eq e]
        simp [-acells, c3]
        refine vcCall.call hsz (by simp) ?_
        simp [-acells]
      · simp only [encE_eq e]
        simp [-acells, c3]
        refine vcCall.call hsz (by simp) ?_
        simp [-acells]
end Go.Proofs.YtpgcmnabljandaaGreatDoor
end

section
/-
  Walks: Scalar of the reference: how large a form becomes; the form.
-/
set_option linter.unusedVariables false
set_option linter.unusedSimpArgs false
set_option maxRecDepth 100000
namespace Go.Proofs.YtpgcmnabljandaaGreatDoor
open Go Go.Abs

attribute [local simp high] acells_encE
attribute [local simp] acells_int acells_str acells_bool acells_sl acells_agg encE_atoms encE_len putAt_encE putAt_encE2 take_encE

set_option maxHeartbeats 4000000 in
theorem rbulk94 (l : List Var) (hl : Fits l) (hv : ∀ v ∈ l, varS v.name = true) : ∀ e, Wen e → NodesOk e → unkB l e = false → Pure Tryz.prog GG 94 [.sl 4 (l.map encVar) .none, .agg (encE e)] (.int .i64 (extE l e).1) := by
  refine Ex.ind fun e ih hwe hn hu => ?_
  refine Pure.vc mixed Tryz.func94 rfl (by kernel_rfl) ?_
  have hsz := rsize160 l e.name hl (name_le hn) hv
  have h8 := sizeA_le l e.name
  have hfa := hwe.fits
  have hok : ∀ a ∈ e.args, ExtOk l a := fun a ha => extOk l a (hn.arg ha) (unkB_arg hu ha)
  have hfx := rfixed161 l hl hv e hn hu
  have hex1 := fun h => ext_one (l := l) hn hu h
  by_cases hv0 : 0 ≤ (extE l e).2
  · rw [hex1 hv0]
    simp only [encE_eq e] at hfx ⊢
    simp [-acells]
    refine vcCall.call hfx (by simp) ?_
    simp [-acells, fixR, hv0]
  have hm1 : (extE l e).2 = -1 := by rcases ext_val hn hu with h | h; exact absurd h hv0; exact h
  rw [hm1] at hfx
  clear hex1
  have c1 : e.op ≠ 1 := fun c1 => by
    have x : (extE l e).2 = e.n := by rw [extE_eq]; unfold extN; rw [if_pos c1]
    have := ((nodeE_zero hn.self).2.2.1 c1).1
    omega
  have hE := extE_eq l e
  unfold extN at hE
  rw [if_neg c1] at hE
  have hxs : ∀ x ∈ e.args.map (extE l), 1 ≤ x.1 ∧ x.1 ≤ 401 := by
    intro x hx
    obtain ⟨a, ha, rfl⟩ := List.mem_map.1 hx
    exact (hok a ha).nn
  have hgx : ∀ (i : Nat) (a : Ex), e.args[i]? = some a → (e.args.map (extE l))[i]? = some (extE l a) := fun i a h => by rw [List.getElem?_map, h]; rfl
  have hs := fun c3 : e.op = 3 ∨ e.op = 24 => unk1_size (unkB_self hu) c3
  by_cases c24 : e.op = 24
  · rw [if_pos c24] at hE
    rw [hE]
    have w1 : IntKind.i64.wrap (2 * (sizeA l e.name : Int)) = 2 * sizeA l e.name := wr (by omega) (by omega)
    have w2 : IntKind.i64.wrap (2 * (sizeA l e.name : Int) - 1) = 2 * sizeA l e.name - 1 := wr (by omega) (by omega)
    generalize sizeA l e.name = n at *
    simp only [encE_eq e] at hfx ⊢
    simp [-acells]
    refine vcCall.call hfx (by simp) ?_
    simp [-acells, fixR, c24]
    refine vcCall.call hsz (by simp) ?_
    simp [-acells, w1, w2]
  rw [if_neg c24] at hE
  generalize hr : (extE l e).1 = r
  rw [hE] at hr hm1
  clear hE
  have hn0 := fun c3 : e.op = 3 => hs (.inl c3)
  clear hs
  generalize hX : e.args.map (extE l) = xs at hxs hgx hr hm1
  generalize sizeA l e.name = n at hsz h8 hr hn0 hm1
  simp only [encE_eq e] at hfx ⊢
  simp [-acells]
  refine vcCall.call hfx (by simp) ?_
  simp [-acells, fixR, c24]
  refine vcLoop.intro (fun q ev σ => ∃ i, i ≤ e.args.length ∧ q = e.args.length - i ∧ ev 0 = .sl 4 (l.map encVar) .none ∧ ev 3 = .ptr 0 0 ∧ ev 7 = .int .i64 (capS 1 (xs.take i)) ∧ ev 8 = .int .i64 i ∧ σ = ⟨[.cells (encE e)], []⟩) e.args.length ⟨0, by simp, by simp, by simp, by simp, by simp [capS], by simp, by simp [encE_eq e]⟩ ?_
  rintro q ev σ ⟨i, hi, rfl, h0, h3, h7, h8', rfl⟩
  cases hvi : e.args[i]? with
  | some a =>
    obtain ⟨hc, hv'⟩ := List.getElem?_eq_some_iff.1 hvi
    have hm := List.mem_of_getElem? hvi
    have ih := ih a hm (hwe.arg hm) (hn.arg hm) (unkB_arg hu hm)
    have ht : xs.take (i + 1) = xs.take i ++ [extE l a] := by rw [List.take_add_one, hgx i a hvi]; rfl
    have hcap := capS_mono (xs := xs.take i) (s := 1) (by omega) fun x hx => by have := (hxs x (List.mem_of_mem_take hx)).1; omega
    have hnn := (hok a hm).nn
    have ec := capS_append (xs := xs.take i) (s := 1) (m := extE l a)
    rw [← ht] at ec
    generalize capS 1 (xs.take i) = C at h7 hcap ec
    generalize extE l a = m at ih hnn ec
    have w1 : IntKind.i64.wrap (C + m.1) = C + m.1 := wr (by omega) (by omega)
    simp [-acells, h0, h3, h7, h8', hc, hv', encE_eq e]
    refine vcCall.call ih (by simp) ?_
    simp [-acells, h0, h3, h7, h8', w1, min2A]
    refine ⟨_, by omega, i + 1, by omega, rfl, ?_, wr (by omega) (by omega)⟩
    rw [ec]
    split <;> split <;> omega
  | none =>
    have hle : e.args.length ≤ i := by simpa using hvi
    have hc : ¬ i < e.args.length := by omega
    rw [List.take_of_length_le (by rw [← hX]; simp; omega)] at h7
    by_cases c3 : e.op = 3
    · obtain ⟨a, ha⟩ := args1 hn c3
      have hna := hn.arg (a := a) (by rw [ha]; simp)
      have hua := unkB_arg (a := a) hu (by rw [ha]; simp)
      have hfa := rfixed161 l hl hv a hna hua
      have hX' : xs = [extE l a] := by rw [← hX, ha]; rfl
      subst hX'
      have hnn := hxs (extE l a) (by simp)
      have hL : lastX (0, -1) [extE l a] = extE l a := rfl
      have hC : capS 1 [extE l a] = if 401 < 1 + (extE l a).1 then 401 else 1 + (extE l a).1 := rfl
      rw [if_neg (fun h => h c3), hL] at hr hm1
      rw [hC] at h7
      generalize extE l a = m at hfa hnn hr hm1 h7
      have hn1 := hn0 c3
      by_cases c5 : (n : Int) ≤ m.2
      · rw [if_pos c5] at hm1; simp at hm1
      rw [if_neg c5] at hr
      have hci : ¬ (i : Int) < 1 := by rw [ha] at hc; simp at hc; omega
      simp [-acells, h0, h3, h7, h8', hc, hci, c3, encE_eq e, ha]
      refine vcCall.call hfa (by simp) ?_
      by_cases c6 : 0 ≤ m.2
      · rw [if_pos c6] at hr
        subst hr
        simp [-acells, fixR, c6]
      · rw [if_neg c6] at hr
        simp [-acells, fixR, c6, encE_eq e, ha, h0, h3, h7, h8']
        refine vcCall.call hsz (by simp) ?_
        generalize hg : (if 401 < 1 + m.1 then 401 else 1 + m.1) = g
        have hg2 : 1 ≤ g ∧ g ≤ 401 ∧ (g = 1 + m.1 ∨ (m.1 = 401 ∧ g = 401)) := by rw [← hg]; split <;> omega
        have hp := mul_bound (a := (n : Int)) (b := g + 3) (c := 8) (d := 404) (by omega) (by omega) (by omega) (by omega)
        have w1 : IntKind.i64.wrap (g + 3) = g + 3 := wr (by omega) (by omega)
        have w2 : IntKind.i64.wrap ((n : Int) * (g + 3)) = n * (g + 3) := wr (by omega) (by omega)
        have w3 : IntKind.i64.wrap ((n : Int) * (g + 3) + 1) = n * (g + 3) + 1 := wr (by omega) (by omega)
        have hres : (if (n : Int) * (g + 3) + 1 < 401 then (n : Int) * (g + 3) + 1 else 401) = r := by
          rw [← hr]
          show _ = (if 401 < (n : Int) * (m.1 + 4) + 1 then 401 else (n : Int) * (m.1 + 4) + 1)
          rcases hg2.2.2 with h | ⟨h, h'⟩
          · have e1 : g + 3 = m.1 + 4 := by omega
            rw [e1]
            split <;> split <;> omega
          · rw [h, h', if_neg (by omega), if_pos (by omega)]
        simp [-acells, h0, h3, h7, h8', w1, w2, w3, min2A, hres, hg]
    · rw [if_pos (by simpa using c3)] at hr
      subst hr
      simp [-acells, h0, h3, h7, h8', hc, c3, encE_eq e]
end Go.Proofs.YtpgcmnabljandaaGreatDoor
end

section
/-
  Walks: Scalar of the reference.
-/
set_option linter.unusedVariables false
set_option linter.unusedSimpArgs false
set_option maxRecDepth 100000
namespace Go.Proofs.YtpgcmnabljandaaGreatDoor
open Go Go.Abs

attribute [local simp high] acells_encE
attribute [local simp] acells_int acells_str acells_bool acells_sl acells_agg encE_atoms encE_len putAt_encE putAt_encE2 take_encE

set_option maxHeartbeats 4000000 in
theorem rscalar95 (l : List Var) (hl : Fits l) (hv : ∀ v ∈ l, varS v.name = true) : ∀ e, NodesOk e → unkB l e = false → Pure Tryz.prog GG 95 [.sl 4 (l.map encVar) .none, .agg (encE e)] (.agg (encE (scE l e))) := by
  refine Ex.ind fun e ih hn hu => ?_
  refine Pure.vc mixed Tryz.func95 rfl (by kernel_rfl) ?_
  have hnl := name_le hn
  have h33 := args_le hn
  have hsz := rsize160 l e.name hl hnl hv
  have h8 := sizeA_le l e.name
  by_cases c24 : e.op = 24
  · have hs := unk1_size (unkB_self hu) (.inr c24)
    have x : scE l e = sumE e.name (sizeA l e.name - 1) := by rw [scE_eq, if_pos c24]
    rw [x]
    generalize sizeA l e.name = n at hsz h8 hs ⊢
    simp only [encE_eq e]
    simp [-acells, c24]
    refine vcCall.call (ritem162 e.name 0 (by omega) hnl) (by simp) ?_
    simp [-acells]
    refine vcLoop.intro (fun q ev σ => ∃ k : Nat, k < n ∧ q = n - k ∧ ev 0 = .sl 4 (l.map encVar) .none ∧ ev 3 = .ptr 0 0 ∧ ev 4 = .ptr 1 0 ∧ ev 5 = .ptr 2 0 ∧ ev 6 = .int .i64 ((k : Int) + 1) ∧ ∃ c, Near c (sumE e.name k) ∧ σ = ⟨[.cells (encE e), .cells [.int .i64 0, .int .i64 0, .str [], .sl 0 [] .nil], .cells c], []⟩) n ⟨0, by omega, by simp, by simp, by simp, by simp, by simp, by simp, _, near_enc _, by simp [encE_eq e, c24, sumE]⟩ ?_
    rintro q ev σ ⟨k, hk, rfl, h0, h3, h4, h5, h6, c, hnr, rfl⟩
    obtain ⟨c0, c1, c2, c3, rfl⟩ := hnr.four
    have hac : acells (.agg [c0, c1, c2, c3]) = some [c0, c1, c2, c3] := acells_agg hnr.atoms
    simp [-acells, h0, h3, h4, h5, h6, encE_eq e]
    refine vcCall.call hsz (by simp) ?_
    by_cases hc : k + 1 < n
    · have hc' : (k : Int) + 1 < n := by omega
      have hv1 := ritem162 e.name (k + 1) (by omega) hnl
      simp only [Int.natCast_add, Int.natCast_one] at hv1
      have n7 : Near [.int .i64 7, .int .i64 0, .str [], .sl 4 [[c0, c1, c2, c3], encE (itemE e.name (k + 1))] .tight] (sumE e.name (k + 1)) :=
        near_mk (leqR_cons hnr.row (leqR_cons (.inl rfl) leqR_nil)) (by have := hnr.nr; simp only [noRefss, Bool.and_true, Bool.and_eq_true]; exact ⟨this, nrE' _⟩)
      simp [-acells, h0, h3, h4, h5, h6, hc', encE_eq e]
      refine vcCall.call hv1 (by simp) ?_
      simp [-acells, h0, h3, h4, h5, h6, hac, buildA, fillA, stPlace, putAt, buildSliceA, rowsFill]
      exact ⟨_, by omega, k + 1, by omega, rfl, by rw [wr (by omega) (by omega)]; omega, n7⟩
    · have hc' : ¬ (k : Int) + 1 < n := by omega
      have hk' : n - 1 = k := by omega
      have hf := hnr.fin
      have hno := hnr.nr
      have hlq := hnr.leq
      simp only [noRefs, Bool.and_eq_true, and_true] at hno
      rw [hk']
      simp [-acells, -fin1, h0, h3, h4, h5, h6, hc', hac, putAt, hf, hno]
      exact hlq
  have hsl : ∀ a ∈ e.args, Slim (scE l a) := fun a ha => slim_sc l a (hn.arg ha)
  have hco : ∀ a ∈ e.args, (scE l a).op = 1 → 0 ≤ (scE l a).n := fun a ha => sc_const (hn.arg ha) (unkB_arg hu ha)
  simp only [encE_eq e]
  simp [-acells, c24]
  refine vcLoop.intro (fun q ev σ => ∃ i, i ≤ e.args.length ∧ q = e.args.length - i ∧ ev 0 = .sl 4 (l.map encVar) .none ∧ ev 3 = .ptr 0 0 ∧ ev 4 = .ptr 1 0 ∧ ev 7 = outK 4 encE ((e.args.map (scE l)).take i) ∧ ev 8 = .int .i64 i ∧ σ = ⟨[.cells (encE e), .cells [.int .i64 0, .int .i64 0, .str [], .sl 0 [] .nil]], outTK ((e.args.map (scE l)).take i)⟩) e.args.length ⟨0, by simp, by simp, by simp, by simp, by simp, by simp, by simp, by simp [encE_eq e]⟩ ?_
  rintro q ev σ ⟨i, hi, rfl, h0, h3, h4, h7, h8', rfl⟩
  cases hvi : e.args[i]? with
  | some a =>
    obtain ⟨hc, hv'⟩ := List.getElem?_eq_some_iff.1 hvi
    have hm := List.mem_of_getElem? hvi
    have ih := ih a hm (hn.arg hm) (unkB_arg hu hm)
    have ht : (e.args.map (scE l)).take (i + 1) = (e.args.map (scE l)).take i ++ [scE l a] := by rw [List.take_add_one, List.getElem?_map, hvi]; rfl
    have hRl : ((e.args.map (scE l)).take i).length ≤ 33 := by simp; omega
    generalize (e.args.map (scE l)).take i = R at h7 ht hRl ⊢
    cases R with
    | nil =>
      simp only [outK] at h7
      simp [-acells, h0, h3, h4, h7, h8', hc, hv', encE_eq e]
      refine vcCall.call ih (by simp) ?_
      simp [-acells, h0, h3, h4, h7, h8', appendA, buildSliceA, rowsFill, rowsOf]
      exact ⟨_, by omega, i + 1, by omega, rfl, by rw [ht]; simp [outK], wr (by omega) (by omega), by rw [ht]; simp [outTK]⟩
    | cons b r =>
      have hb : r.length ≤ 1073741822 := by simp at hRl; omega
      simp only [outK] at h7
      simp [-acells, h0, h3, h4, h7, h8', hc, hv', encE_eq e]
      refine vcCall.call ih (by simp) ?_
      simp [-acells, h0, h3, h4, h7, h8', appendA, buildSliceA, rowsFill, rowsOf, outTK, hb]
      exact ⟨_, by omega, i + 1, by omega, rfl, by rw [ht]; simp [outK], wr (by omega) (by omega), by rw [ht]; simp⟩
  | none =>
    have hle : e.args.length ≤ i := by simpa using hvi
    have hc : ¬ i < e.args.length := by omega
    rw [List.take_of_length_le (by simp; omega)] at h7 ⊢
    by_cases c3 : e.op = 3
    · obtain ⟨a, ha⟩ := args1 hn c3
      have hch := rchain163 e.name (scE l a) (sizeA l e.name) h8 hnl (hco a (by rw [ha]; simp))
      have x : scE l e = chainE e.name (scE l a) (sizeA l e.name) := by rw [scE_eq, if_neg c24, if_pos c3, ha]; rfl
      rw [x]
      rw [ha] at h7
      have hci : ¬ (i : Int) < 1 := by rw [ha] at hc; simp at hc; omega
      simp only [List.map_cons, List.map_nil, outK] at h7
      generalize sizeA l e.name = n at hsz hch ⊢
      generalize chainE e.name (scE l a) n = Y at hch
      simp [-acells, h0, h3, h4, h7, h8', hc, hci, c3, encE_eq e, ha]
      refine vcCall.call hsz (by simp) ?_
      try simp [-acells]
      refine vcCall.call hch (by simp) ?_
      simp [-acells, fin1_encE]
    · have x : scE l e = .mk e.op e.n e.name (e.args.map (scE l)) := by rw [scE_eq, if_neg c24, if_neg c3]
      rw [x]
      generalize e.args.map (scE l) = R at h7
      have q := fun H => outK_fin (sz := 4) (en := encE) R H nrE'
      simp [-acells, h0, h3, h4, h7, h8', hc, c3, encE_eq e, encE_eq (Ex.mk _ _ _ _), buildA, fillA, stPlace, putAt, outK_atom, acells_ex]
      exact q _
end Go.Proofs.YtpgcmnabljandaaGreatDoor
end

section
/-
  The law of Scalar: the walk of its function.
-/
set_option linter.unusedVariables false
set_option linter.unusedSimpArgs false
set_option maxRecDepth 100000
namespace Go.Proofs.YtpgcmnabljandaaGreatDoor
open Go Go.Abs

attribute [local simp high] acells_encE
attribute [local simp] acells_int acells_str acells_bool acells_sl acells_agg encE_atoms encE_len putAt_encE putAt_encE2 take_encE

set_option maxHeartbeats 4000000 in
theorem rscalar35 (p : Problem) (e : Ex) (h : VP p) (hwe : Wen e) (hh : hgt e ≤ 1000) (hsz : (pre e).length ≤ 100000) : Pure Tryz.prog GG 35 [.agg (encP p), .agg (encE e)] (.tup [.agg (encE (scalV p e)), .int .i64 (scalE p e)]) := by
  refine Pure.vc mixed Tryz.func35 rfl (by kernel_rfl) ?_
  have hva := valid23 p h
  have hl : Fits p.vars := by have := h.vars20; omega
  have hE : scalE p e = if validP p ≠ 0 then 1 else if validE e ≠ 0 then validE e else if unkB p.vars e = true then 7 else if 400 < (extE p.vars e).1 then 2 else validE (scE p.vars e) := rfl
  have hV : scalV p e = if scalE p e = 0 then scE p.vars e else zeroE := rfl
  have hve := valid92 e hwe hh hsz
  simp only [encP] at hva
  by_cases h0 : validP p = 0
  · rw [if_neg (by simpa using h0)] at hE
    by_cases h1 : validE e = 0
    · rw [if_neg (by simpa using h1)] at hE
      have hn := validE_nodes h1
      have hv := vars_names h0
      have hkn := runknown93 p.vars hl hv e hwe hn
      cases hu : unkB p.vars e
      · rw [hu] at hE hkn
        rw [if_neg (by simp)] at hE
        have hex := rbulk94 p.vars hl hv e hwe hn hu
        by_cases h4 : 400 < (extE p.vars e).1
        · rw [if_pos h4] at hE
          rw [hE] at hV
          rw [if_neg (by decide)] at hV
          rw [hV, hE, enc_zero]
          simp [-acells]
          refine vcCall.call hva (by simp) ?_
          simp [-acells, h0]
          refine vcCall.call hve (by simp) ?_
          simp [-acells, h1]
          refine vcCall.call hkn (by simp) ?_
          simp [-acells]
          refine vcCall.call hex (by simp) ?_
          simp [-acells, h4, buildA, fillA, stPlace, putAt]
        · rw [if_neg h4] at hE
          have hmk := rscalar95 p.vars hl hv e hn hu
          obtain ⟨w1, w2, w3⟩ := sc_wen hn hu h4
          have hvo := valid92 (scE p.vars e) w1 (by omega) (by omega)
          generalize scE p.vars e = S at hE hV hmk hvo
          by_cases h5 : validE S = 0
          · rw [h5] at hE hvo
            rw [hE, if_pos rfl] at hV
            rw [hV, hE]
            simp [-acells]
            refine vcCall.call hva (by simp) ?_
            simp [-acells, h0]
            refine vcCall.call hve (by simp) ?_
            simp [-acells, h1]
            refine vcCall.call hkn (by simp) ?_
            simp [-acells]
            refine vcCall.call hex (by simp) ?_
            simp [-acells, h4]
            refine vcCall.call hmk (by simp) ?_
            simp [-acells]
            refine vcCall.call hvo (by simp) ?_
            simp [-acells, fin1_encE]
          · rw [hE, if_neg h5] at hV
            rw [hV, hE, enc_zero]
            simp [-acells]
            refine vcCall.call hva (by simp) ?_
            simp [-acells, h0]
            refine vcCall.call hve (by simp) ?_
            simp [-acells, h1]
            refine vcCall.call hkn (by simp) ?_
            simp [-acells]
            refine vcCall.call hex (by simp) ?_
            simp [-acells, h4]
            refine vcCall.call hmk (by simp) ?_
            simp [-acells]
            refine vcCall.call hvo (by simp) ?_
            simp [-acells, h5, buildA, fillA, stPlace, putAt]
      · rw [hu] at hE hkn
        rw [if_pos rfl] at hE
        rw [hE, if_neg (by decide)] at hV
        rw [hV, hE, enc_zero]
        simp [-acells]
        refine vcCall.call hva (by simp) ?_
        simp [-acells, h0]
        refine vcCall.call hve (by simp) ?_
        simp [-acells, h1]
        refine vcCall.call hkn (by simp) ?_
        simp [-acells, buildA, fillA, stPlace, putAt]
    · rw [if_pos h1] at hE
      rw [hE, if_neg h1] at hV
      rw [hV, hE, enc_zero]
      simp [-acells]
      refine vcCall.call hva (by simp) ?_
      simp [-acells, h0]
      refine vcCall.call hve (by simp) ?_
      simp [-acells, h1, buildA, fillA, stPlace, putAt]
  · rw [if_pos h0] at hE
    rw [hE, if_neg (by decide)] at hV
    rw [hV, hE, enc_zero]
    simp [-acells]
    refine vcCall.call hva (by simp) ?_
    simp [-acells, h0, buildA, fillA, stPlace, putAt]

set_option maxHeartbeats 1000000 in
theorem rsame36 : ∀ e, Wen e → Pure Tryz.prog GG 36 [.agg (encE e), .agg (encE e)] (.bool true) := by
  refine Ex.ind fun e ih hwe => ?_
  refine Pure.vc mixed Tryz.func36 rfl (by kernel_rfl) ?_
  have hfa := hwe.fits
  simp only [encE_eq e]
  simp [-acells]
  refine vcLoop.intro (fun n ev σ => ∃ i, i ≤ e.args.length ∧ n = e.args.length - i ∧ ev 2 = .ptr 0 0 ∧ ev 3 = .ptr 1 0 ∧ ev 5 = .int .i64 i ∧ σ = ⟨[.cells (encE e), .cells (encE e)], []⟩) e.args.length ⟨0, by simp, by simp, by simp, by simp, by simp, by simp [encE_eq e]⟩ ?_
  rintro n ev σ ⟨i, hi, rfl, h2, h3, h5, rfl⟩
  cases hvi : e.args[i]? with
  | some a =>
    obtain ⟨hc, hv'⟩ := List.getElem?_eq_some_iff.1 hvi
    have hm := List.mem_of_getElem? hvi
    have ih := ih a hm (hwe.arg hm)
    simp [-acells, h2, h3, h5, hc, hv', encE_eq e]
    refine vcCall.call ih (by simp) ?_
    simp [-acells, h2, h3, h5]
    exact ⟨_, by omega, i + 1, by omega, rfl, wr (by omega) (by omega)⟩
  | none =>
    have hc : ¬ i < e.args.length := by simp at hvi; omega
    simp [-acells, h2, h3, h5, hc, encE_eq e]

theorem wen_zero : Wen zeroE := by
  intro x hx
  have : x = zeroE := by simpa [zeroE, pre_eq] using hx
  rw [this]
  simp [zeroE]
theorem scalV_wen {p : Problem} {e : Ex} : Wen (scalV p e) := by
  unfold scalV
  split
  · rename_i h
    obtain ⟨a1, a2, a3, a4, a5⟩ := scalE_ok h
    exact (sc_wen (validE_nodes a2) a3 a4).1
  · exact wen_zero
set_option maxHeartbeats 2000000 in
theorem scalars8 (p : Problem) (e : Ex) (h : VH p) (hwe : Wen e) : Pure Tryz.prog GG 8 [.agg (encP p), .agg (encE e)] (.bool true) := by
  refine Pure.vc mixed Tryz.func8 rfl (by kernel_rfl) ?_
  have hsm := small22 p h.exprs
  have hbr := brief29 e hwe 0 (by omega)
  cases hs : smallS p
  · rw [hs] at hsm
    simp only [encP] at hsm
    simp [-acells]
    refine vcCall.call hsm (by simp) ?_
    try simp [-acells]
    refine vcCall.call works11 rfl ?_
    simp
  · rw [hs] at hsm
    have hp := h.small hs
    simp only [encP] at hsm
    simp [-acells]
    refine vcCall.call hsm (by simp) ?_
    try simp [-acells]
    refine vcCall.call hbr (by simp) ?_
    cases hb : briefS e 0
    · simp [-acells]
      refine vcCall.call works11 rfl ?_
      simp
    · have hh := brief_hgt e 0 hb
      have hf := brief_few hb
      have hsc := scalar34 p e hp hwe (by omega)
      have hrc := rscalar35 p e hp hwe (by omega) (by omega)
      have hsa := rsame36 (scalV p e) scalV_wen
      generalize scalV p e = S at hsc hrc hsa
      generalize scalE p e = E at hsc hrc
      simp only [encP] at hsc hrc
      simp [-acells]
      refine vcCall.call hsc (by simp) ?_
      simp [-acells]
      refine vcCall.call hrc (by simp) ?_
      simp [-acells]
      refine vcCall.call hsa (by simp) ?_
      simp [-acells]
      refine vcCall.call works11 rfl ?_
      simp
end Go.Proofs.YtpgcmnabljandaaGreatDoor
end
