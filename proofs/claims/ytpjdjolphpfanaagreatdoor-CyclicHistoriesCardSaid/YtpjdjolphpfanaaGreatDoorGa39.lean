/- A part of the proof. -/
import Derived.Test.YtpjdjolphpfanaaGreatDoorGa38
import Derived.Test.YtpjdjolphpfanaaGreatDoorGa36
set_option linter.unusedVariables false
set_option linter.unusedSimpArgs false
set_option maxRecDepth 1000000
set_option linter.defProp false
section
namespace Go.Proofs.YtpjdjolphpfanaaGreatDoor
open Go Go.Abs

theorem wr1 : IntKind.i64.wrap 1 = 1 := wr (by omega) (by omega)
theorem ins371 (σ : St) (b : Nat) (x : AV) (hb : σ.H[b]? = some (.cells [x])) : ACall Tryz.prog GG 224 [.ms b 0 1 1, .int .i64 0, .int .i64 1] σ (fun _ τ => τ = σ) := by
  refine ACall.k mixed Tryz.func224 rfl (by kernel_rfl) ?_
  simp [-getElem?_pos]
  refine kLoop.list ([] : List Nat) (fun d env τ => env 6 = .int .i64 1 ∧ env 2 = .int .i64 1 ∧ τ = σ) ?_ ?_ ?_
  · simp [wr1]
  · rintro d v r env τ h; simp at h
  · rintro env τ ⟨h6, h2, rfl⟩
    simp [-getElem?_pos, h6, h2, wr1]
theorem pdq295 (σ : St) (b : Nat) (x : AV) (m : AV) (hb : σ.H[b]? = some (.cells [x])) : ACall Tryz.prog GG 177 [.ms b 0 1 1, .int .i64 0, .int .i64 1, m] σ (fun _ τ => τ = σ) := by
  refine ACall.k mixed Tryz.func177 rfl (by kernel_rfl) ?_
  simp [-getElem?_pos]
  refine kLoop.list ([] : List Nat) (fun d env τ => env 0 = .ms b 0 1 1 ∧ env 1 = .int .i64 0 ∧ env 2 = .int .i64 1 ∧ τ = σ) ?_ ?_ ?_
  · simp [wr1]
  · rintro d v r env τ h; simp at h
  · rintro env τ ⟨h0, h1, h2, rfl⟩
    simp [-getElem?_pos, h0, h1, h2, wr1]
    refine kCall.acall (ins371 τ b x hb) ?_
    rintro v τ' rfl
    simp [-getElem?_pos]
def looksN (_ : Nat) : Look := ⟨o0, false⟩
theorem looksN_bw (G : Nat → AV) : ∀ g x k, (looksN g).o.bw.lookup x = some k → BwOk Tryz.prog G x k := fun g x k h => by cases h
def SN : Nat := 27606985387162255532862908665580316399391192676258842125334877441097728
theorem fokN : (List.range 512).all (fun g => !Nat.testBit SN g || okF looksN g) = true := by kernel_rfl
noncomputable def FN : Nat → Option Bod := FF looksN SN
theorem FN_ok : BodOk Tryz.prog GG FN := FF_ok (looksN_bw GG) fokN (by decide +kernel)
theorem len296 : Pure Tryz.prog GG 178 [.int .u64 1] (.int .i64 1) := Pure.closedA FN_ok (K := K0) X0_ok 100 10 (by kernel_rfl)
theorem sort213 (σ : St) (b : Nat) (x : AV) (hb : σ.H[b]? = some (.cells [x])) : ACall Tryz.prog GG 134 [.ms b 0 1 1] σ (fun _ τ => τ = σ) := by
  refine ACall.k mixed Tryz.func134 rfl (by kernel_rfl) ?_
  have ec : IntKind.u64.wrap 1 = 1 := by decide
  simp [-getElem?_pos, convA, ec]
  refine kCall.call (G := quiet GG) len296 (by simp [noRefs, noRef]) ?_
  simp [-getElem?_pos]
  refine kCall.acall (pdq295 σ b x _ hb) ?_
  rintro v τ rfl
  simp [-getElem?_pos]
theorem sorted139 (x : Int) (tok : Tok) : Pure Tryz.prog GG 95 [.fn 135 [] [.rptr [.sl 1 (rowsI [x]) tok]]] (.sl 1 (rowsI [x]) .none) := by
  refine Pure.kO o0 true mixed Tryz.func95 rfl (by kernel_rfl) ?_
  simp [-getElem?_pos]
  refine kCall.acall (collect212 _ [x] tok (by simp)) ?_
  rintro v τ ⟨h1, h2, h3⟩
  rcases h3 with ⟨h3, _⟩ | ⟨b, rfl, _, hb⟩
  · simp at h3
  simp [-getElem?_pos]
  refine kCall.acall (sort213 τ b (.int .i64 x) hb) ?_
  rintro v τ' rfl
  obtain ⟨H, T⟩ := τ'
  simp at hb
  simp [-getElem?_pos]
  have e : frz H 8 (.ms b 0 1 1) = .sl 1 [[.int .i64 x]] .none := by
    rw [frz]
    simp only [noRef, hb]
    simp [chunk, frz_int]
  rw [e]
  exact ⟨by simp [noRef, noRefss, noRefs], Leq.refl _⟩
def KU0 (g : FuncId) : Bool := Nat.beq g 20 || Nat.beq g 33 || Nat.beq g 95
def XU0 (g : FuncId) (args : List AV) : Option AV :=
  pickB (Nat.beq g 20 && leqQ args [.agg [.sl 4 [[.str [97], .int .i64 1, .int .i64 2, .int .i64 0]] .tight, .sl 0 [] .nil, .sl 0 [] .nil, .sl 0 [] .nil, .sl 1 [[.sl 1 [[.int .i64 0]] .tight]] .tight]]) (some (.int .i64 0)) <|
  pickB (Nat.beq g 20 && leqQ args [.agg [.sl 4 [[.str [97], .int .i64 1, .int .i64 2, .int .i64 0]] .tight, .sl 4 [[.int .i64 23, .int .i64 0, .str [], .sl 4 [[.int .i64 2, .int .i64 0, .str [97], .sl 0 [] .nil], [.int .i64 1, .int .i64 0, .str [], .sl 0 [] .nil], [.int .i64 1, .int .i64 0, .str [], .sl 0 [] .nil]] .none]] .none, .sl 0 [] .nil, .sl 0 [] .nil, .sl 1 [[.sl 1 [[.int .i64 0]] .tight]] .tight]]) (some (.int .i64 0)) <|
  pickB (Nat.beq g 33 && leqQ args [.agg [.sl 4 [[.str [97], .int .i64 1, .int .i64 2, .int .i64 0]] .tight, .sl 0 [] .nil, .sl 0 [] .nil, .sl 0 [] .nil, .sl 1 [[.sl 1 [[.int .i64 0]] .tight]] .tight]]) (some (.tup [.sl 4 [] .none, .int .i64 0])) <|
  pickB (Nat.beq g 95 && eqVL args [.fn 135 [] [.rptr [.sl 1 [[.int .i64 0]] .tight]]]) (some (.sl 1 [[.int .i64 0]] .none)) <|
  none
theorem XU0_ok : ConX Tryz.prog GG XU0 := by
  intro g args r h
  unfold XU0 at h
  rcases conX_step valid0F h with h | h
  · exact h
  rcases conX_step valid1F h with h | h
  · exact h
  rcases conX_step rules0F h with h | h
  · exact h
  rcases conX_eq (sorted139 0 .tight) h with h | h
  · exact h
  cases h
theorem solve0F : Pure Tryz.prog GG 37 [.agg [.sl 4 [[.str [97], .int .i64 1, .int .i64 2, .int .i64 0]] .tight, .sl 0 [] .nil, .sl 0 [] .nil, .sl 0 [] .nil, .sl 1 [[.sl 1 [[.int .i64 0]] .tight]] .tight], .agg [.int .u64 1, .int .u64 0]] (.tup [.sl 1 [[.int .i64 1]] .none, .agg [.int .u64 1, .int .u64 1], .int .i64 0]) := Pure.closedA FD_ok (K := KU0) XU0_ok 2000 60 (by kernel_rfl)
end Go.Proofs.YtpjdjolphpfanaaGreatDoor
end
