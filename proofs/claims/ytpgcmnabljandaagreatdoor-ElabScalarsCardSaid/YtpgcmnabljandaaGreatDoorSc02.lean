/- A part of the proof: texts Walk41. -/
import Derived.Test.YtpgcmnabljandaaGreatDoorSc01
import Derived.Test.YtpgcmnabljandaaGreatDoorEv03

/-
  Walks: what is known; the sum of an array; copies of expressions.
-/
set_option linter.unusedVariables false
set_option linter.unusedSimpArgs false
set_option maxRecDepth 100000
namespace Go.Proofs.YtpgcmnabljandaaGreatDoor
open Go Go.Abs

theorem indexFuncEx (G : Nat → AV) (l : List Ex) (p : Ex → Bool) (f : FuncId) (first cap : List AV) (hl : Fits l) (h1 : noRefs first = true) (h2 : noRefs cap = true)
    (hp : ∀ v ∈ l, Pure Tryz.prog G f (first ++ [.agg (encE v)] ++ cap) (.bool (p v))) : Pure Tryz.prog G 231 [.sl 4 (l.map encE) .none, .fn f first cap] (.int .i64 (findI p l 0)) := by
  refine Pure.vc mixed Tryz.func231 rfl (by kernel_rfl) ?_
  simp
  refine vcLoop.intro (fun n env σ => ∃ i, i ≤ l.length ∧ n = l.length - i ∧ env 0 = .sl 4 (l.map encE) .none ∧ env 1 = .fn f first cap ∧ env 7 = .int .i64 l.length ∧ env 8 = .int .i64 i ∧ σ = ⟨[], []⟩ ∧ findI p l 0 = findI p (l.drop i) i) l.length ⟨0, by simp⟩ ?_
  rintro n env σ ⟨i, hi, rfl, h0, h1', h7, h8, rfl, hf⟩
  cases hv : l[i]? with
  | some v =>
    obtain ⟨hc, hv'⟩ := List.getElem?_eq_some_iff.1 hv
    rw [drop_cons hv] at hf
    simp [h0, h1', h7, h8, hc, hv', hf, encE_len, take_encE, encE_atoms]
    refine vcCall.call (r := .bool (p v)) (by simpa using hp v (List.mem_of_getElem? hv)) (by simp [noRefs_append, h1, h2]) ?_
    simp [h0, h1', h7, h8, findI]
    refine ⟨fun e => by simp [e], fun e => ⟨_, by omega, i + 1, by omega, rfl, wr (by omega) (by omega), by simp [hf, findI, e]⟩⟩
  | none =>
    have hc : ¬ i < l.length := by simp at hv; omega
    have hd : l.drop i = [] := by simp; omega
    simp [h0, h1', h7, h8, hc, hf, hd, findI]
theorem containsFuncEx (G : Nat → AV) (l : List Ex) (p : Ex → Bool) (f : FuncId) (first cap : List AV) (hl : Fits l) (h1 : noRefs first = true) (h2 : noRefs cap = true)
    (hp : ∀ v ∈ l, Pure Tryz.prog G f (first ++ [.agg (encE v)] ++ cap) (.bool (p v))) : Pure Tryz.prog G 155 [.sl 4 (l.map encE) .none, .fn f first cap] (.bool (l.any p)) := by
  refine Pure.vc mixed Tryz.func155 rfl (by kernel_rfl) ?_
  simp
  refine vcCall.call (indexFuncEx G l p f first cap hl h1 h2 hp) (by simp [h1, h2]) ?_
  simp

theorem name_le {e : Ex} (hn : NodesOk e) : e.name.length ≤ 1000 := by
  obtain ⟨_, _, _, _, _, h2, h3, h4⟩ := nodeE_zero hn.self
  by_cases c2 : e.op = 2
  · have := h2 c2
    unfold varS at this
    rw [Bool.or_eq_true] at this
    rcases this with h | h
    · have := name_len h; omega
    · cases he : elemO e.name with
      | none => rw [he] at h; cases h
      | some p =>
        have hi := elemO_some.1 (show elemO e.name = some (p.1, p.2) from he)
        have := name_len hi.2.1
        rw [hi.2.2]; simp; omega
  · by_cases c3 : e.op = 3 ∨ e.op = 24
    · have := name_len (h3 c3); omega
    · rw [h4 (by omega)]; simp
theorem unkB_leaf {l : List Var} {e : Ex} (h : e.args = []) : unkB l e = unk1 l e := by rw [unkB_eq, h]; simp
theorem args0 {e : Ex} (hn : NodesOk e) (h : arityS e.op = 0) (h23 : e.op ≠ 23) : e.args = [] := by
  obtain ⟨_, _, _, _, ho, _⟩ := nodeE_zero hn.self
  have := operands_args ho h23
  rw [h] at this
  exact List.length_eq_zero_iff.1 (by omega)
set_option maxHeartbeats 2000000 in
theorem known89 (l : List Var) (hl : Fits l) (hv : ∀ v ∈ l, varS v.name = true) : ∀ e, Wen e → NodesOk e → Pure Tryz.prog GG 89 [.agg [.sl 4 (l.map encVar) .none], .agg (encE e)] (.bool (!unkB l e)) := by
  refine Ex.ind fun e ih hwe hn => ?_
  refine Pure.vc mixed Tryz.func89 rfl (by kernel_rfl) ?_
  have hnl := name_le hn
  have hsz := size154 l e.name hl hnl hv
  have h156 : ∀ a ∈ e.args, Pure Tryz.prog GG 156 ([] ++ [.agg (encE a)] ++ [.rptr [.sl 4 (l.map encVar) .none]]) (.bool (unkB l a)) := by
    intro a ha
    refine Pure.vc mixed Tryz.func156 rfl (by kernel_rfl) ?_
    have h := ih a ha (hwe.arg ha) (hn.arg ha)
    simp [encE_len, take_encE, encE_atoms]
    refine vcCall.call h (by simp) ?_
    simp
  have hcf := containsFuncEx GG e.args (unkB l) 156 [] [.rptr [.sl 4 (l.map encVar) .none]] hwe.fits rfl (by simp) h156
  by_cases c2 : e.op = 2
  · have hi := index GG l e.name hl
    have hd : decide (0 ≤ findI (fun v : Var => v.name == e.name) l 0) = hasV l e.name := findI_dec _ l
    have hr : (!unkB l e) = hasV l e.name := by
      rw [unkB_leaf (args0 hn (by rw [c2]; decide) (by omega))]
      unfold unk1
      simp [c2]
    rw [hr, ← hd]
    simp only [encE_eq e]
    simp [c2]
    refine vcCall.call hi (by simp) ?_
    simp
  · generalize hr : (!unkB l e) = r
    have hr' : r = (!unk1 l e && !e.args.any (unkB l)) := by rw [← hr, unkB_eq, Bool.not_or]
    generalize e.args.any (unkB l) = q at hcf hr'
    by_cases c3 : e.op = 3 ∨ e.op = 24
    · by_cases h0 : sizeA l e.name = 0
      · have : unk1 l e = true := by unfold unk1; simp [c2, c3, h0]
        rw [this] at hr'
        simp at hr'
        subst hr'
        rw [h0] at hsz
        simp only [encE_eq e]
        rcases c3 with c3 | c3
        · simp [c3]
          refine vcCall.call hsz (by simp) ?_
          simp
        · simp [c3]
          refine vcCall.call hsz (by simp) ?_
          simp
      · have : unk1 l e = false := by unfold unk1; simp [c2, c3, h0]
        rw [this] at hr'
        simp at hr'
        subst hr'
        have h0' : ¬ (sizeA l e.name : Int) = 0 := by omega
        simp only [encE_eq e]
        rcases c3 with c3 | c3
        · simp [c3]
          refine vcCall.call hsz (by simp) ?_
          simp [h0]
          refine vcCall.lent hcf rfl ?_ ?_
          · simp [frz]
          · simp
        · simp [c3]
          refine vcCall.call hsz (by simp) ?_
          simp [h0]
          refine vcCall.lent hcf rfl ?_ ?_
          · simp [frz]
          · simp
    · have : unk1 l e = false := by unfold unk1; simp [c2, c3]
      rw [this] at hr'
      simp at hr'
      subst hr'
      have c3' : ¬ e.op = 3 := by omega
      have c24 : ¬ e.op = 24 := by omega
      simp only [encE_eq e]
      simp [c2, c3', c24]
      refine vcCall.lent hcf rfl ?_ ?_
      · simp [frz]
      · simp

end Go.Proofs.YtpgcmnabljandaaGreatDoor
