/- A part of the proof. -/
import Derived.Test.YtpjdjolphpfanaaGreatDoorGa37
import Derived.Test.YtpjdjolphpfanaaGreatDoorGa19
set_option linter.unusedVariables false
set_option linter.unusedSimpArgs false
set_option maxRecDepth 100000
set_option linter.defProp false
section
namespace Go.Proofs.YtpjdjolphpfanaaGreatDoor
open Go Go.Abs

abbrev rowC : List AV := [.int .i64 1, .int .i64 0, .str [], .sl 0 [] .nil]
abbrev rowC0 : List AV := [.int .i64 1, .int .i64 0, .str [], .sl 0 [] .nil]
theorem chunk121 : Pure Tryz.prog GG 59 [.sl 4 [rowC, rowC] .none, .int .i64 32] (.fn 87 [] [.rptr [.sl 4 [rowC, rowC] .none], .rptr [.int .i64 32]]) := by
  refine Pure.kO o0 true mixed Tryz.func59 rfl (by kernel_rfl) ?_
  simp [-getElem?_pos]
  have e : frz [Blk.cells [AV.sl 4 [rowC, rowC] Tok.none], Blk.cells [AV.int IntKind.i64 32]] 8 (AV.fn 87 [] [AV.ptr 0 0, AV.ptr 1 0]) = .fn 87 [] [.rptr [.sl 4 [rowC, rowC] .none], .rptr [.int .i64 32]] := by
    simp [frz, noRef, noRefs]
  rw [e]
  exact ⟨by simp [noRef, noRefs], Leq.refl _⟩
def MemJ (d : List Unit) (env : Env) (σ : St) : Prop :=
  env 1 = .sl 1 [[.int .i64 0]] .none ∧ env 12 = .sl 1 [[.int .i64 0]] .none ∧ env 13 = .int .i64 1 ∧ env 14 = .int .i64 d.length ∧ env 2 = .ptr 0 0 ∧ env 4 = .ptr 1 0 ∧
    σ.H = [.cells [.str [97]], .cells [.int .i64 0, .int .i64 0, .str [], .sl 0 [] .nil]] ∧ (d = [] → env 5 = .sl 0 [] .nil ∧ σ.T = []) ∧ (d ≠ [] → env 5 = .sl 4 [rowC, rowC] (.chain 0 2) ∧ σ.T = [some 2])
theorem member63F : Pure Tryz.prog GG 36 [.str [97], .sl 1 [[.int .i64 0]] .none] (.agg [.int .i64 23, .int .i64 0, .str [], .sl 4 [[.int .i64 2, .int .i64 0, .str [97], .sl 0 [] .nil], [.int .i64 1, .int .i64 0, .str [], .sl 0 [] .nil], [.int .i64 1, .int .i64 0, .str [], .sl 0 [] .nil]] .none]) := by
  refine Pure.kO o0 true mixed Tryz.func36 rfl (by kernel_rfl) ?_
  simp [-getElem?_pos]
  have w1 : IntKind.i64.wrap 1 = 1 := wr (by omega) (by omega)
  have w0 : IntKind.i64.wrap 0 = 0 := wr (by omega) (by omega)
  refine kLoop.list [()] MemJ ?_ ?_ ?_
  · simp [MemJ]
  · rintro d v r env ⟨H, T⟩ hd _ hlt ⟨h1, h12, h13, h14, h2, h4, hH, hn, _⟩
    obtain rfl : d = [] := by cases d with
      | nil => rfl
      | cons a d => simp at hlt
    obtain ⟨h5, hT⟩ := hn rfl
    simp only at hH hT
    subst hH hT
    simp [-getElem?_pos, h1, h12, h13, h14, h5, w0, w1, buildA, fillA, stPlace, appendA, rowsOf]
    simp [MemJ, h1, h12, h13, h2, h4, w1]
  · rintro env ⟨H, T⟩ ⟨h1, h12, h13, h14, h2, h4, hH, _, hn⟩
    obtain ⟨h5, hT⟩ := hn (by simp)
    simp only at hH hT
    subst hH hT
    simp [-getElem?_pos, h1, h12, h13, h14, h2, h4, h5, w0, w1, buildA, fillA, stPlace]
    refine kCall.pure chunk121 (by simp [plain, pl2, pl1, noRef, noRefs]) (by simp [plain, pl2, pl1]) ?_
    simp [-getElem?_pos]
    refine kC_rangeF (quiet_noX _) (fun _ => True) [.sl 4 [rowC, rowC] .none] (fun i σ => ∃ x y, σ.T = [some 2] ++ x ∧ σ.H = [.cells [.str [97]], .cells [.int .i64 0, .int .i64 0, .str [], .sl 0 [] .nil], .cells (if i = 0 then rowC0 else y)] ++ (if i = 0 then [] else [.cells y]) ∧ (i = 0 → x = []) ∧ (i ≠ 0 → y = [.int .i64 23, .int .i64 0, .str [], .sl 4 [[.int .i64 2, .int .i64 0, .str [97], .sl 0 [] .nil], rowC, rowC] (.chain 1 2)])) (by simp [ev]) (fw190 GG [rowC, rowC] .none (by simp)) (fun _ _ _ => trivial) ?_ ?_ ?_
    · exact ⟨[], [], rfl, rfl, fun _ => rfl, fun h => absurd rfl h⟩
    · rintro i v ⟨H, T⟩ hi ⟨x, y, hT, hH, hx, hy⟩
      obtain ⟨rfl, rfl⟩ : i = 0 ∧ v = .sl 4 [rowC, rowC] .none := by
        cases i with
        | zero => simp at hi; exact ⟨rfl, hi.symm⟩
        | succ i => simp at hi
      obtain rfl := hx rfl
      simp only [if_true, List.append_nil] at hT hH
      subst hT hH
      simp [-getElem?_pos, buildA, fillA, stPlace, appendA, rowsOf, h2, h4]
    · rintro ⟨H, T⟩ ⟨x, y, hT, hH, hx, hy⟩
      obtain rfl := hy (by simp)
      simp at hT hH
      subst hT hH
      simp [-getElem?_pos, h2, h4]
      simp [frz, noRef, noRefs, noRefss]
end Go.Proofs.YtpjdjolphpfanaaGreatDoor
end
