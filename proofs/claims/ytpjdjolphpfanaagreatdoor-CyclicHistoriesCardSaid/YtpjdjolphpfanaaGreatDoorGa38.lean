/- A part of the proof. -/
import Derived.Test.YtpjdjolphpfanaaGreatDoorGa37
import Derived.Test.YtpjdjolphpfanaaGreatDoorGa19
set_option linter.unusedVariables false
set_option linter.unusedSimpArgs false
set_option maxRecDepth 100000
set_option linter.defProp false
section
namespace Go.Proofs.YtpjdjolphpfanaaGreatDoor
open Go Go.Abs

abbrev rowsI (l : List Int) : List (List AV) := l.map fun n => [.int .i64 n]
/-- A row of the state's own, that holds these numbers. -/
def RowM (v : AV) (σ : St) (l : List Int) : Prop := (l = [] ∧ v = .sl 0 [] .nil) ∨ ∃ b, v = .ms b 0 l.length 1 ∧ l ≠ [] ∧ σ.H[b]? = some (.cells (l.map fun n => .int .i64 n))
def SeqJ (σ : St) (n0 : Nat) (l : List Int) (i : Nat) (τ : St) : Prop :=
  τ.T = σ.T ∧ (∀ k < n0, τ.H[k]? = σ.H[k]?) ∧ ∃ v, τ.H[n0]? = some (.cells [v]) ∧ ((i = 0 ∧ v = .sl 0 [] .nil) ∨ ∃ b, v = .ms b 0 i 1 ∧ 0 < i ∧ n0 < b ∧ τ.H[b]? = some (.cells ((l.take i).map fun n => .int .i64 n)))
def SeqQ (σ : St) (l : List Int) (v : AV) (τ : St) : Prop := τ.T = σ.T ∧ (∀ k < σ.H.length, τ.H[k]? = σ.H[k]?) ∧ RowM v τ l

theorem app_first (H : List Blk) (T : List (Option Nat)) (n : Int) : appendX (Dof Tryz.prog) ⟨H, T⟩ 37 37 (.sl 0 [] .nil) (.sl 1 [[.int .i64 n]] .tight) = some (.ms H.length 0 1 1, ⟨H ++ [.cells [.int .i64 n]], T⟩) := by
  simp [appendX, appendM, srcA, plainTD, St.push]
theorem app_next (H : List Blk) (T : List (Option Nat)) (n : Int) (b i : Nat) (c : List AV) (hb : H[b]? = some (.cells c)) (hc : c.length = i) (hi : i < 2 ^ 28) : appendX (Dof Tryz.prog) ⟨H, T⟩ 37 37 (.ms b 0 i 1) (.sl 1 [[.int .i64 n]] .tight) = some (.ms H.length 0 (i + 1) 1, ⟨H.set b .dead ++ [.cells (c ++ [.int .i64 n])], T⟩) := by
  have h1 : i + 1 ≤ 549755813888 := by omega
  have h2 : c.take i = c := List.take_of_length_le (by omega)
  simp [appendX, appendM, srcA, plainTD, hb, h1, hc, h2]
theorem appendSeq294 (σ : St) (l : List Int) (tok : Tok) (hlen : l.length < 2 ^ 28) :
    ACall Tryz.prog GG 176 [.sl 0 [] .nil, .fn 135 [] [.rptr [.sl 1 (rowsI l) tok]]] σ (SeqQ σ l) := by
  refine ACall.kO ⟨true, [], [], []⟩ mixed Tryz.func176 rfl (by kernel_rfl) ?_
  simp [-getElem?_pos]
  refine kC_rangeF (quiet_noX _) (fun _ => True) (l.map fun n => .int .i64 n) (SeqJ σ σ.H.length l) (by simp [ev]) (fw214 GG l tok (by omega)) (fun _ _ _ => trivial) ?_ ?_ ?_
  · refine ⟨rfl, fun k hk => ?_, .sl 0 [] .nil, ?_, .inl ⟨rfl, rfl⟩⟩
    · simp [List.getElem?_append_left hk]
    · simp
  · rintro i v τ hi ⟨h1, h2, w, h3, h4⟩
    obtain ⟨n, hn, rfl⟩ : ∃ n, l[i]? = some n ∧ v = .int .i64 n := by
      simp only [List.getElem?_map, Option.map_eq_some_iff] at hi
      obtain ⟨n, a, b⟩ := hi
      exact ⟨n, a, b.symm⟩
    have hil : i < l.length := (List.getElem?_eq_some_iff.1 hn).1
    obtain ⟨H, T⟩ := τ
    simp only at h1 h2 h3 h4
    simp [-getElem?_pos, h3]
    have hnl : σ.H.length < H.length := (List.getElem?_eq_some_iff.1 h3).1
    have htk : (l.take (i + 1)).map (fun n => AV.int .i64 n) = (l.take i).map (fun n => AV.int .i64 n) ++ [.int .i64 n] := by
      rw [List.take_add_one, hn]; simp
    rcases h4 with ⟨rfl, rfl⟩ | ⟨b, rfl, hi0, hb, hcb⟩
    · rw [app_first]
      simp [-getElem?_pos, List.getElem?_append_left hnl, h3]
      refine ⟨h1, fun k hk => ?_, .ms H.length 0 1 1, ?_, .inr ⟨H.length, rfl, by omega, hnl, ?_⟩⟩
      · simp only
        rw [List.getElem?_set_ne (by omega), List.getElem?_append_left (by omega)]; exact h2 k hk
      · simp only
        rw [List.getElem?_set_self (by simp; omega)]
      · simp only
        rw [List.getElem?_set_ne (by omega), List.getElem?_append_right (Nat.le_refl _), htk]; simp
    · have hcl : ((l.take i).map fun n => AV.int .i64 n).length = i := by simp; omega
      rw [app_next H T n b i _ hcb hcl (by omega)]
      have hbl : b < H.length := (List.getElem?_eq_some_iff.1 hcb).1
      have h3' : (H.set b .dead ++ [.cells ((l.take i).map (fun n => AV.int .i64 n) ++ [.int .i64 n])])[σ.H.length]? = some (.cells [.ms b 0 i 1]) := by
        rw [List.getElem?_append_left (by simpa using hnl), List.getElem?_set_ne (by omega), h3]
      generalize hH' : H.set b .dead ++ [.cells ((l.take i).map (fun n => AV.int .i64 n) ++ [.int .i64 n])] = H' at h3'
      simp [-getElem?_pos, h3']
      have hl' : H'.length = H.length + 1 := by rw [← hH']; simp
      refine ⟨h1, fun k hk => ?_, .ms H.length 0 (i + 1) 1, ?_, .inr ⟨H.length, rfl, by omega, hnl, ?_⟩⟩
      · simp only
        rw [List.getElem?_set_ne (by omega), ← hH', List.getElem?_append_left (by simp; omega), List.getElem?_set_ne (by omega)]; exact h2 k hk
      · simp only
        rw [List.getElem?_set_self (by omega)]
      · simp only
        rw [List.getElem?_set_ne (by omega), htk, ← hH', List.getElem?_append_right (by simp)]; simp
  · rintro τ ⟨h1, h2, w, h3, h4⟩
    simp [-getElem?_pos, h3]
    refine ⟨h1, h2, ?_⟩
    simp only [List.length_map, List.take_length] at h4
    rcases h4 with ⟨h0, rfl⟩ | ⟨b, rfl, h0, hb, hc⟩
    · exact .inl ⟨List.eq_nil_of_length_eq_zero h0, rfl⟩
    · exact .inr ⟨b, rfl, fun e => by rw [e] at h0; simp at h0, hc⟩
theorem collect212 (σ : St) (l : List Int) (tok : Tok) (hlen : l.length < 2 ^ 28) :
    ACall Tryz.prog GG 133 [.fn 135 [] [.rptr [.sl 1 (rowsI l) tok]]] σ (SeqQ σ l) := by
  refine ACall.k mixed Tryz.func133 rfl (by kernel_rfl) ?_
  simp [-getElem?_pos]
  refine kCall.acall (appendSeq294 σ l tok hlen) ?_
  rintro v τ h
  simp [-getElem?_pos]
  exact h
end Go.Proofs.YtpjdjolphpfanaaGreatDoor
end
