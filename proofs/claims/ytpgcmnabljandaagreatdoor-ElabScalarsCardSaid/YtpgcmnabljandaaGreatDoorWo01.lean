/- A part of the proof: texts Works0 Works1 Works2. -/
import Derived.Test.YtpgcmnabljandaaGreatDoorWk04
import Derived.Test.YtpgcmnabljandaaGreatDoorAb12

section
/-
  The examples of the chapter: works() is true, by the kernel.
-/
set_option linter.unusedSimpArgs false
set_option linter.unusedVariables false
set_option maxRecDepth 1000000
namespace Go.Proofs.YtpgcmnabljandaaGreatDoor
open Go Go.Abs
/-- What is known already: IsName and IndexByte. -/
def C1 (g : FuncId) (args : List AV) : Option AV := match Nat.beq g 168 with
  | true => match args with
    | [.str s] => some (.bool (nameS s))
    | _ => none
  | false => match Nat.beq g 368 with
    | true => match args with
      | [.str s, .int .u8 c] => some (.int .i64 (Lib.indexByte s c.toNat.toUInt8))
      | _ => none
    | false => none
theorem C1_ok : ConOk Tryz.prog GG C1 := by
  intro g args r hno h
  unfold C1 at h
  split at h
  · rename_i hg
    split at h
    · cases h
      rw [Nat.eq_of_beq_eq_true hg]
      exact isName168 _
    · cases h
  · split at h
    · rename_i hg
      split at h
      · cases h
        rw [Nat.eq_of_beq_eq_true hg]
        exact indexByte368 _ _ _
      · cases h
    · cases h
noncomputable def FG1 (g : Nat) : Option Bod := match Nat.beq g 168 with
  | true => none
  | false => FG g
theorem FG1_ok : BodOk Tryz.prog GG FG1 := by
  intro g b h
  unfold FG1 at h
  split at h
  · cases h
  · exact FG_ok g b h
noncomputable def closed1 (m n : Nat) (g : FuncId) (args : List AV) (r : AV) : Bool := match FG1 g with
  | some b => Nat.ble args.length b.n && (match runC DD GG (callN DD GG FG1 C1 m n) m b.o b.c (envOf args) ⟨[], []⟩ with
      | some l => match oneOf DD b.rs l with
        | some r' => eqA r' r
        | none => false
      | none => false)
  | none => false
theorem Pure.closed1 (m n : Nat) {g : FuncId} {args : List AV} {r : AV} (h : closed1 m n g args r = true) : Pure Tryz.prog GG g args r := by
  unfold Go.Proofs.YtpgcmnabljandaaGreatDoor.closed1 at h
  split at h
  · rename_i b hb
    simp only [Bool.and_eq_true] at h
    exact Pure.run mixed DD_eq FG1_ok C1_ok hb (Nat.le_of_ble_eq_true h.1) h.2
  · cases h
def tokLe : Tok → Tok → Bool
  | _, .none => true
  | .nil, .nil => true
  | .tight, .tight => true
  | _, _ => false
theorem tokLe_spec {a b : Tok} (h : tokLe a b = true) : b = .none ∨ b = a := by
  cases a <;> cases b <;> simp [tokLe] at h ⊢
mutual
/-- Less is known of the second. -/
def leqB : AV → AV → Bool
  | .bool a, .bool b => a == b
  | .int k a, .int k' b => decide (k = k') && (a == b)
  | .str a, .str b => a == b
  | .sl sz r tok, .sl sz' r' tok' => (Nat.beq sz sz' && (tokLe tok tok' && leqR r r')) || (r.isEmpty && (r'.isEmpty && !tok'.known))
  | .agg c, .agg c' => leqL c c'
  | _, _ => false
def leqL : List AV → List AV → Bool
  | [], [] => true
  | a :: r, b :: s => leqB a b && leqL r s
  | _, _ => false
def leqR : List (List AV) → List (List AV) → Bool
  | [], [] => true
  | a :: r, b :: s => leqL a b && b.all AV.atom && leqR r s
  | _, _ => false
end
mutual
theorem leqB_spec : ∀ (a b : AV), leqB a b = true → Leq a b
  | .bool a, b, h => by
    cases b <;> simp [leqB] at h
    subst h; exact Leq.refl _
  | .int k a, b, h => by
    cases b <;> simp [leqB] at h
    obtain ⟨rfl, rfl⟩ := h; exact Leq.refl _
  | .str a, b, h => by
    cases b <;> simp [leqB] at h
    subst h; exact Leq.refl _
  | .sl sz r tok, b, h => by
    cases b <;> simp only [leqB] at h <;> try (cases h; done)
    rename_i sz' r' tok'
    simp only [Bool.and_eq_true, Bool.or_eq_true] at h
    simp only [Leq]
    rcases h with h | h
    · exact .inr ⟨Nat.eq_of_beq_eq_true h.1, leqR_spec r r' h.2.2, tokLe_spec h.2.1⟩
    · have ht : tok' = .none := by have := h.2.2; cases tok' <;> simp [Tok.known] at this ⊢
      exact .inl ⟨by simpa using h.1, by simpa using h.2.1, ht⟩
  | .agg c, b, h => by
    cases b <;> simp only [leqB] at h <;> try (cases h; done)
    simp only [Leq]
    exact leqL_spec _ _ h
  | .any, b, h => by simp [leqB] at h
  | .nilp, b, h => by simp [leqB] at h
  | .ptr .., b, h => by simp [leqB] at h
  | .rptr _, b, h => by simp [leqB] at h
  | .ms .., b, h => by simp [leqB] at h
  | .nilm, b, h => by simp [leqB] at h
  | .map _, b, h => by simp [leqB] at h
  | .iter _, b, h => by simp [leqB] at h
  | .fn .., b, h => by simp [leqB] at h
  | .nilf, b, h => by simp [leqB] at h
  | .tup _, b, h => by simp [leqB] at h
theorem leqL_spec : ∀ (a b : List AV), leqL a b = true → LeqL a b
  | [], [], _ => by simp [LeqL]
  | a :: r, b :: s, h => by
    simp only [leqL, Bool.and_eq_true] at h
    simp only [LeqL]
    exact ⟨leqB_spec a b h.1, leqL_spec r s h.2⟩
  | [], _ :: _, h => by simp [leqL] at h
  | _ :: _, [], h => by simp [leqL] at h
theorem leqR_spec : ∀ (a b : List (List AV)), leqR a b = true → LeqR a b
  | [], [], _ => by simp [LeqR]
  | a :: r, b :: s, h => by
    simp only [leqR, Bool.and_eq_true] at h
    simp only [LeqR]
    exact ⟨.inr ⟨leqL_spec a b h.1.1, h.1.2⟩, leqR_spec r s h.2⟩
  | [], _ :: _, h => by simp [leqR] at h
  | _ :: _, [], h => by simp [leqR] at h
end
end Go.Proofs.YtpgcmnabljandaaGreatDoor
end

section
/-
  The examples of the chapter, step by step, by the kernel: Valid.
-/
set_option linter.unusedSimpArgs false
set_option linter.unusedVariables false
set_option maxRecDepth 1000000
namespace Go.Proofs.YtpgcmnabljandaaGreatDoor
open Go Go.Abs
def pairE : Ex := .mk 17 0 [] [.mk 2 0 [97] [], .mk 2 0 [98] []]
def softE : Ex := .mk 15 0 [] [.mk 2 0 [98] [], .mk 1 3 [] []]
def pairP : Problem := ⟨[⟨[97], 2, 1, 0⟩, ⟨[98], 2, 1, 0⟩], [pairE], [softE], [], [[0], [1]]⟩
theorem valid14 : Pure Tryz.prog GG 14 [.agg (encP pairP)] (.int .i64 0) := Pure.closed1 1000 40 (by kernel_rfl)
end Go.Proofs.YtpgcmnabljandaaGreatDoor
end

section
/-
  The parts of the chapter's example, by the kernel.
-/
set_option linter.unusedSimpArgs false
set_option linter.unusedVariables false
set_option maxRecDepth 1000000
namespace Go.Proofs.YtpgcmnabljandaaGreatDoor
open Go Go.Abs
def itemsA : AV := .sl 12 [[.int .i64 1, .int .i64 17, .int .i64 0, .str [], .sl 4 [[.int .i64 2, .int .i64 0, .str [97], .sl 0 [] .nil], [.int .i64 2, .int .i64 0, .str [98], .sl 0 [] .nil]] .none, .str [], .str [], .sl 0 [] .nil, .sl 0 [] .nil, .sl 0 [] .nil, .sl 0 [] .nil, .sl 0 [] .nil], [.int .i64 6, .int .i64 0, .int .i64 0, .str [], .sl 0 [] .nil, .str [], .str [], .sl 0 [] .nil, .sl 0 [] .nil, .sl 0 [] .nil, .sl 1 [[.str [97]]] .none, .sl 1 [[.str [98]]] .none]] .none
def moreA : AV := .sl 12 [[.int .i64 2, .int .i64 15, .int .i64 0, .str [], .sl 4 [[.int .i64 2, .int .i64 0, .str [98], .sl 0 [] .nil], [.int .i64 1, .int .i64 3, .str [], .sl 0 [] .nil]] .tight, .str [], .str [], .sl 0 [] .nil, .sl 0 [] .nil, .sl 0 [] .nil, .sl 0 [] .nil, .sl 0 [] .nil]] .none
def hardA : AV := .agg [.int .i64 17, .int .i64 0, .str [], .sl 4 [[.int .i64 2, .int .i64 0, .str [97], .sl 0 [] .nil], [.int .i64 2, .int .i64 0, .str [98], .sl 0 [] .nil]] .none]
def softA : AV := .agg [.int .i64 15, .int .i64 0, .str [], .sl 4 [[.int .i64 2, .int .i64 0, .str [98], .sl 0 [] .nil], [.int .i64 1, .int .i64 3, .str [], .sl 0 [] .nil]] .none]
def r48a : AV := .tup [.sl 12 [[.int .i64 1, .int .i64 17, .int .i64 0, .str [], .sl 4 [[.int .i64 2, .int .i64 0, .str [97], .sl 0 [] .nil], [.int .i64 2, .int .i64 0, .str [98], .sl 0 [] .nil]] .none, .str [], .str [], .sl 0 [] .nil, .sl 0 [] .nil, .sl 0 [] .nil, .sl 0 [] .nil, .sl 0 [] .nil], [.int .i64 6, .int .i64 0, .int .i64 0, .str [], .sl 0 [] .nil, .str [], .str [], .sl 0 [] .nil, .sl 0 [] .nil, .sl 0 [] .nil, .sl 1 [[.str [97]]] .none, .sl 1 [[.str [98]]] .none]] .none, .int .i64 0]
def r48b : AV := .tup [.sl 12 [[.int .i64 2, .int .i64 15, .int .i64 0, .str [], .sl 4 [[.int .i64 2, .int .i64 0, .str [98], .sl 0 [] .nil], [.int .i64 1, .int .i64 3, .str [], .sl 0 [] .nil]] .none, .str [], .str [], .sl 0 [] .nil, .sl 0 [] .nil, .sl 0 [] .nil, .sl 0 [] .nil, .sl 0 [] .nil]] .none, .int .i64 0]
def r116a : AV := .tup [.agg [.int .i64 17, .int .i64 0, .str [], .sl 4 [[.int .i64 2, .int .i64 0, .str [97], .sl 0 [] .nil], [.int .i64 2, .int .i64 0, .str [98], .sl 0 [] .nil]] .none], .int .i64 0]
def r116b : AV := .tup [.agg [.int .i64 15, .int .i64 0, .str [], .sl 4 [[.int .i64 2, .int .i64 0, .str [98], .sl 0 [] .nil], [.int .i64 1, .int .i64 3, .str [], .sl 0 [] .nil]] .none], .int .i64 0]
def srcA : AV := .sl 4 [[.str [112, 97, 105, 114], .str [], .sl 5 [[.str [97], .int .i64 2, .int .i64 0, .int .i64 1, .int .i64 0], [.str [98], .int .i64 2, .int .i64 0, .int .i64 1, .int .i64 0]] .tight, .sl 2 [[.str [99], .sl 12 [[.int .i64 1, .int .i64 17, .int .i64 0, .str [], .sl 4 [[.int .i64 2, .int .i64 0, .str [97], .sl 0 [] .nil], [.int .i64 2, .int .i64 0, .str [98], .sl 0 [] .nil]] .tight, .str [], .str [], .sl 0 [] .nil, .sl 0 [] .nil, .sl 0 [] .nil, .sl 0 [] .nil, .sl 0 [] .nil], [.int .i64 6, .int .i64 0, .int .i64 0, .str [], .sl 0 [] .nil, .str [], .str [], .sl 0 [] .nil, .sl 0 [] .nil, .sl 0 [] .nil, .sl 1 [[.str [97]]] .tight, .sl 1 [[.str [98]]] .tight]] .tight]] .tight]] .tight
def flatA : AV := .agg [.str [112, 97, 105, 114], .str [], .sl 5 [[.str [97], .int .i64 2, .int .i64 0, .int .i64 1, .int .i64 0], [.str [98], .int .i64 2, .int .i64 0, .int .i64 1, .int .i64 0]] .none, .sl 2 [[.str [99], .sl 12 [[.int .i64 1, .int .i64 17, .int .i64 0, .str [], .sl 4 [[.int .i64 2, .int .i64 0, .str [97], .sl 0 [] .nil], [.int .i64 2, .int .i64 0, .str [98], .sl 0 [] .nil]] .none, .str [], .str [], .sl 0 [] .nil, .sl 0 [] .nil, .sl 0 [] .nil, .sl 0 [] .nil, .sl 0 [] .nil], [.int .i64 6, .int .i64 0, .int .i64 0, .str [], .sl 0 [] .nil, .str [], .str [], .sl 0 [] .nil, .sl 0 [] .nil, .sl 0 [] .nil, .sl 1 [[.str [97]]] .none, .sl 1 [[.str [98]]] .none]] .none]] .none]
def r13 : AV := .tup [.agg [.str [112, 97, 105, 114], .str [], .sl 5 [[.str [97], .int .i64 2, .int .i64 0, .int .i64 1, .int .i64 0], [.str [98], .int .i64 2, .int .i64 0, .int .i64 1, .int .i64 0]] .none, .sl 2 [[.str [99], .sl 12 [[.int .i64 1, .int .i64 17, .int .i64 0, .str [], .sl 4 [[.int .i64 2, .int .i64 0, .str [97], .sl 0 [] .nil], [.int .i64 2, .int .i64 0, .str [98], .sl 0 [] .nil]] .none, .str [], .str [], .sl 0 [] .nil, .sl 0 [] .nil, .sl 0 [] .nil, .sl 0 [] .nil, .sl 0 [] .nil], [.int .i64 6, .int .i64 0, .int .i64 0, .str [], .sl 0 [] .nil, .str [], .str [], .sl 0 [] .nil, .sl 0 [] .nil, .sl 0 [] .nil, .sl 1 [[.str [97]]] .none, .sl 1 [[.str [98]]] .none]] .none]] .none], .int .i64 0]
def r45 : AV := .sl 4 [[.str [97], .int .i64 2, .int .i64 1, .int .i64 0], [.str [98], .int .i64 2, .int .i64 1, .int .i64 0]] .none
def leqT (a b : AV) : Bool := match a, b with
  | .tup c, .tup d => leqL c d
  | a, b => leqB a b
theorem leqT_spec {a b : AV} (h : leqT a b = true) : Leq a b := by
  unfold leqT at h
  split at h
  · simp only [Leq]; exact leqL_spec _ _ h
  · exact leqB_spec _ _ h
noncomputable def closedX (K : FuncId → Bool) (X : FuncId → List AV → Option AV) (m n : Nat) (g : FuncId) (args : List AV) (r : AV) : Bool := match FG1 g with
  | some b => Nat.ble args.length b.n && (match outX DD GG FG1 C1 K X m n b args with
    | some r' => leqT r' r
    | none => false)
  | none => false
theorem Pure.closedX {K : FuncId → Bool} {X : FuncId → List AV → Option AV} (hX : ConX Tryz.prog GG X) (m n : Nat) {g : FuncId} {args : List AV} {r : AV} (h : closedX K X m n g args r = true) : Pure Tryz.prog GG g args r := by
  unfold Go.Proofs.YtpgcmnabljandaaGreatDoor.closedX at h
  split at h
  · rename_i b hb
    simp only [Bool.and_eq_true] at h
    obtain ⟨h1, h2⟩ := h
    split at h2
    · rename_i r' hr
      exact (Pure.outX mixed DD_eq FG1_ok C1_ok hX hb (Nat.le_of_ble_eq_true h1) hr).sub (LeqL.refl _) (leqT_spec h2)
    · cases h2
  · cases h
def K0 (_ : FuncId) : Bool := false
def X0 (_ : FuncId) (_ : List AV) : Option AV := none
theorem X0_ok : ConX Tryz.prog GG X0 := fun _ _ _ h => by cases h
def badP : Problem := ⟨[], [], [], [], [[0]]⟩
theorem valid14b : Pure Tryz.prog GG 14 [.agg (encP badP)] (.int .i64 1) := Pure.closedX (K := K0) X0_ok 1000 40 (by kernel_rfl)
theorem flat13 : Pure Tryz.prog GG 13 [srcA, .str [112, 97, 105, 114]] r13 := Pure.closedX (K := K0) X0_ok 1000 40 (by kernel_rfl)
theorem vars45 : Pure Tryz.prog GG 45 [flatA] r45 := Pure.closedX (K := K0) X0_ok 1000 40 (by kernel_rfl)
theorem expand48a : Pure Tryz.prog GG 48 [itemsA, flatA] r48a := Pure.closedX (K := K0) X0_ok 1000 40 (by kernel_rfl)
theorem expand48b : Pure Tryz.prog GG 48 [moreA, flatA] r48b := Pure.closedX (K := K0) X0_ok 1000 40 (by kernel_rfl)
theorem scalar116a : Pure Tryz.prog GG 116 [hardA, flatA] r116a := Pure.closedX (K := K0) X0_ok 1000 40 (by kernel_rfl)
theorem scalar116b : Pure Tryz.prog GG 116 [softA, flatA] r116b := Pure.closedX (K := K0) X0_ok 1000 40 (by kernel_rfl)
end Go.Proofs.YtpgcmnabljandaaGreatDoor
end
