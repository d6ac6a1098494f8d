/- A part of the proof: texts AbsScal AbsOut AbsVal Walk40. -/
import Derived.Test.YtpgcmnabljandaaGreatDoorEv01
import Derived.Test.YtpgcmnabljandaaGreatDoorWk07
import Derived.Test.YtpgcmnabljandaaGreatDoorWk08
import Derived.Test.YtpgcmnabljandaaGreatDoorWk09

section
/-
  Expressions without arrays, in plain Lean: what they are, how large, what they are worth.
-/
set_option linter.unusedVariables false
set_option linter.unusedSimpArgs false
namespace Go.Proofs.YtpgcmnabljandaaGreatDoor
open Go Go.Abs

def sizeFrom (l : List Var) (a : Str) : Nat → Nat → Nat
  | 0, i => i
  | f + 1, i => if hasV l (elemS a i) = true then sizeFrom l a f (i + 1) else i
/-- The number of elements of an array among variables. -/
def sizeA (l : List Var) (a : Str) : Nat := sizeFrom l a 8 0
theorem sizeFrom_spec (l : List Var) (a : Str) : ∀ (f i : Nat), i ≤ sizeFrom l a f i ∧ sizeFrom l a f i ≤ i + f ∧ (∀ j, i ≤ j → j < sizeFrom l a f i → hasV l (elemS a j) = true) ∧ (sizeFrom l a f i < i + f → hasV l (elemS a (sizeFrom l a f i)) = false)
  | 0, i => by simp [sizeFrom]; omega
  | f + 1, i => by
    simp only [sizeFrom]
    split
    · rename_i h
      obtain ⟨a1, a2, a3, a4⟩ := sizeFrom_spec l a f (i + 1)
      refine ⟨by omega, by omega, fun j h1 h2 => ?_, fun h1 => a4 (by omega)⟩
      rcases Nat.eq_or_lt_of_le h1 with h3 | h3
      · subst h3; exact h
      · exact a3 j (by omega) h2
    · rename_i h
      exact ⟨Nat.le_refl _, by omega, fun j h1 h2 => by omega, fun _ => by simpa using h⟩
theorem sizeA_le (l : List Var) (a : Str) : sizeA l a ≤ 8 := by
  have := (sizeFrom_spec l a 8 0).2.1
  unfold sizeA; omega
theorem sizeA_has {l : List Var} {a : Str} {j : Nat} (h : j < sizeA l a) : hasV l (elemS a j) = true := (sizeFrom_spec l a 8 0).2.2.1 j (by omega) h
theorem sizeA_not {l : List Var} {a : Str} (h : sizeA l a < 8) : hasV l (elemS a (sizeA l a)) = false := (sizeFrom_spec l a 8 0).2.2.2 (by unfold sizeA at h; omega)
/-- Counting comes to the size. -/
theorem sizeA_of {l : List Var} {a : Str} {n : Nat} (h8 : n ≤ 8) (hall : ∀ j, j < n → hasV l (elemS a j) = true) (hn : n < 8 → hasV l (elemS a n) = false) : sizeA l a = n := by
  have h1 := sizeA_le l a
  rcases Nat.lt_trichotomy (sizeA l a) n with h | h | h
  · have := sizeA_not (l := l) (a := a) (by omega)
    rw [hall _ h] at this; cases this
  · exact h
  · have := sizeA_has (l := l) (a := a) h
    rw [hn (by omega)] at this; cases this

theorem name_no91 {a : Str} {i : Nat} : nameS (elemS a i) = false := by
  rw [Bool.eq_false_iff]
  intro h
  exact nameS_no91 h 91 (by simp [elemS]) rfl
theorem elem8_not {a : Str} : varS (elemS a 8) = false := by
  have : elemO (elemS a 8) = none := by
    rw [elemO_none]
    rintro b i ⟨h1, h2, h3⟩
    have h := congrArg List.getLast? (congrArg List.dropLast h3)
    simp only [elemS] at h3
    obtain ⟨h4, h5⟩ := List.append_inj' h3 rfl
    simp only [List.cons.injEq, true_and, and_true] at h5
    have := congrArg UInt8.toNat h5
    simp at this
    omega
  simp [varS, name_no91, this]
theorem hasV_8 {l : List Var} {a : Str} (hv : ∀ v ∈ l, varS v.name = true) : hasV l (elemS a 8) = false := by
  unfold hasV
  rw [Bool.eq_false_iff]
  intro h
  obtain ⟨v, hm, he⟩ := List.any_eq_true.1 h
  have := hv v hm
  rw [eq_of_beq he, elem8_not] at this; cases this

/-! ### The scalar form -/
def constE (n : Int) : Ex := .mk 1 n [] []
def itemE (a : Str) (i : Nat) : Ex := .mk 2 0 (elemS a i) []
def sumE (a : Str) : Nat → Ex
  | 0 => itemE a 0
  | k + 1 => .mk 7 0 [] [sumE a k, itemE a (k + 1)]
def ifsE (a : Str) (idx : Ex) (n : Nat) : Nat → Ex
  | 0 => constE 0
  | k + 1 => .mk 22 0 [] [.mk 15 0 [] [idx, constE ((n - 1 - k : Nat) : Int)], itemE a (n - 1 - k), ifsE a idx n k]
def chainE (a : Str) (idx : Ex) (n : Nat) : Ex := if idx.op = 1 then (if idx.n < n then itemE a idx.n.toNat else constE 0) else ifsE a idx n n
def headE (l : List Ex) : Ex := match l with
  | [] => constE 0
  | a :: _ => a
mutual
def scE (l : List Var) : Ex → Ex
  | .mk op n s args => if op = 24 then sumE s (sizeA l s - 1) else if op = 3 then chainE s (headE (scEs l args)) (sizeA l s) else .mk op n s (scEs l args)
def scEs (l : List Var) : List Ex → List Ex
  | [] => []
  | e :: r => scE l e :: scEs l r
end
@[simp] theorem scEs_eq (l : List Var) : ∀ x, scEs l x = x.map (scE l)
  | [] => by simp [scEs]
  | e :: r => by simp [scEs, scEs_eq l r]
theorem scE_eq (l : List Var) (e : Ex) : scE l e = if e.op = 24 then sumE e.name (sizeA l e.name - 1) else if e.op = 3 then chainE e.name (headE (e.args.map (scE l))) (sizeA l e.name) else .mk e.op e.n e.name (e.args.map (scE l)) := by
  cases e
  rw [scE, scEs_eq]
  rfl

/-! ### Unknown names -/
def unk1 (l : List Var) (x : Ex) : Bool := (decide (x.op = 2) && !hasV l x.name) || (decide (x.op = 3 ∨ x.op = 24) && decide (sizeA l x.name = 0))
def unkB (l : List Var) (e : Ex) : Bool := (pre e).any (unk1 l)
theorem unkB_eq (l : List Var) (e : Ex) : unkB l e = (unk1 l e || e.args.any (unkB l)) := by
  unfold unkB
  rw [pre_eq, List.any_cons]
  congr 1
  generalize e.args = m
  induction m with
  | nil => simp
  | cons a r ih => simp [ih, List.any_append]
theorem unkB_self {l : List Var} {e : Ex} (h : unkB l e = false) : unk1 l e = false := by
  rw [unkB_eq, Bool.or_eq_false_iff] at h; exact h.1
theorem unkB_arg {l : List Var} {e a : Ex} (h : unkB l e = false) (ha : a ∈ e.args) : unkB l a = false := by
  rw [unkB_eq, Bool.or_eq_false_iff] at h
  rw [Bool.eq_false_iff]
  intro h'
  have := List.any_eq_true.2 ⟨a, ha, h'⟩
  rw [this] at h; cases h.2
theorem unk1_size {l : List Var} {e : Ex} (h : unk1 l e = false) (ho : e.op = 3 ∨ e.op = 24) : 1 ≤ sizeA l e.name := by
  unfold unk1 at h
  rw [Bool.or_eq_false_iff] at h
  have h2 := h.2
  rw [decide_eq_true ho, Bool.true_and] at h2
  have : ¬ sizeA l e.name = 0 := by simpa using h2
  omega
theorem unk1_var {l : List Var} {e : Ex} (h : unk1 l e = false) (ho : e.op = 2) : hasV l e.name = true := by
  unfold unk1 at h
  rw [Bool.or_eq_false_iff] at h
  have h2 := h.1
  rw [decide_eq_true ho, Bool.true_and] at h2
  simpa using h2

/-! ### How large it is -/
/-- A sum that stops above the limit. -/
def capS (s : Int) : List (Int × Int) → Int
  | [] => s
  | m :: r => capS (if 401 < s + m.1 then 401 else s + m.1) r
def lastX (x : Int × Int) : List (Int × Int) → Int × Int
  | [] => x
  | m :: r => lastX m r
def extN (l : List Var) (op n : Int) (s : Str) (xs : List (Int × Int)) : Int × Int :=
  if op = 1 then (1, n) else if op = 24 then (2 * (sizeA l s : Int) - 1, -1) else
  if op ≠ 3 then (capS 1 xs, -1) else
  if (sizeA l s : Int) ≤ (lastX (0, -1) xs).2 then (1, 0) else if 0 ≤ (lastX (0, -1) xs).2 then (1, -1) else
  (if 401 < (sizeA l s : Int) * ((lastX (0, -1) xs).1 + 4) + 1 then 401 else (sizeA l s : Int) * ((lastX (0, -1) xs).1 + 4) + 1, -1)
mutual
def extE (l : List Var) : Ex → Int × Int
  | .mk op n s args => extN l op n s (extEs l args)
def extEs (l : List Var) : List Ex → List (Int × Int)
  | [] => []
  | e :: r => extE l e :: extEs l r
end
@[simp] theorem extEs_eq (l : List Var) : ∀ x, extEs l x = x.map (extE l)
  | [] => by simp [extEs]
  | e :: r => by simp [extEs, extEs_eq l r]
theorem extE_eq (l : List Var) (e : Ex) : extE l e = extN l e.op e.n e.name (e.args.map (extE l)) := by cases e; simp [extE]

theorem capS_mono : ∀ {xs : List (Int × Int)} {s : Int}, s ≤ 401 → (∀ x ∈ xs, 0 ≤ x.1) → s ≤ capS s xs ∧ capS s xs ≤ 401
  | [], s, h, _ => ⟨Int.le_refl _, h⟩
  | m :: r, s, h, hx => by
    have h0 := hx m (by simp)
    have := capS_mono (xs := r) (s := if 401 < s + m.1 then 401 else s + m.1) (by split <;> omega) fun x h => hx x (by simp [h])
    simp only [capS]
    split at this <;> (rename_i hc; simp only [hc, if_true, if_false]; omega)
def sumX : List (Int × Int) → Int
  | [] => 0
  | m :: r => m.1 + sumX r
theorem sumX_nn : ∀ {xs : List (Int × Int)}, (∀ x ∈ xs, 0 ≤ x.1) → 0 ≤ sumX xs
  | [], _ => Int.le_refl _
  | m :: r, h => by
    have := h m (by simp)
    have := sumX_nn (xs := r) fun x hx => h x (by simp [hx])
    simp only [sumX]; omega
theorem capS_sum : ∀ {xs : List (Int × Int)} {s : Int}, s ≤ 401 → (∀ x ∈ xs, 0 ≤ x.1) → capS s xs ≤ 400 → capS s xs = s + sumX xs
  | [], s, h, _, _ => by simp [capS, sumX]
  | m :: r, s, h, hx, hc => by
    have h0 := hx m (by simp)
    have hr : ∀ x ∈ r, 0 ≤ x.1 := fun x h => hx x (by simp [h])
    simp only [capS] at hc ⊢
    by_cases h4 : 401 < s + m.1
    · rw [if_pos h4] at hc
      have := (capS_mono (xs := r) (s := 401) (by omega) hr).1
      omega
    · rw [if_neg h4] at hc ⊢
      rw [capS_sum (by omega) hr hc]
      simp only [sumX]; omega
theorem sumX_mem : ∀ {xs : List (Int × Int)} {x : Int × Int}, (∀ x ∈ xs, 0 ≤ x.1) → x ∈ xs → x.1 ≤ sumX xs
  | m :: r, x, h, hx => by
    have h0 := h m (by simp)
    have hr : ∀ x ∈ r, 0 ≤ x.1 := fun x hx => h x (by simp [hx])
    have := sumX_nn hr
    simp only [sumX]
    rcases List.mem_cons.1 hx with rfl | hx
    · omega
    · have := sumX_mem hr hx; omega

theorem pre_item (a : Str) (i : Nat) : pre (itemE a i) = [itemE a i] := by simp [itemE, pre_eq]
theorem pre_const (n : Int) : pre (constE n) = [constE n] := by simp [constE, pre_eq]
theorem sumE_len (a : Str) : ∀ k, (pre (sumE a k)).length = 2 * k + 1
  | 0 => by simp [sumE, pre_item]
  | k + 1 => by
    have := sumE_len a k
    rw [sumE, pre_eq]
    simp [pre_item, this]; omega
theorem ifsE_len (a : Str) (idx : Ex) (n : Nat) : ∀ k, (pre (ifsE a idx n k)).length = k * ((pre idx).length + 4) + 1
  | 0 => by simp [ifsE, pre_const]
  | k + 1 => by
    have := ifsE_len a idx n k
    rw [ifsE, pre_eq]
    simp [pre_item, pre_const, pre_eq (Ex.mk 15 0 [] _), this, Nat.succ_mul]; omega
theorem preL_len : ∀ (l : List Ex), (preL l).length = (l.map fun e => (pre e).length).sum
  | [] => by simp
  | e :: r => by simp [preL_len r]

/-- What is said of a scalar form and its extent. -/
structure ExtOk (l : List Var) (e : Ex) : Prop where
  nn : 1 ≤ (extE l e).1 ∧ (extE l e).1 ≤ 401
  val : (0 ≤ (extE l e).2 ∧ (scE l e).op = 1 ∧ (scE l e).n = (extE l e).2) ∨ ((extE l e).2 = -1 ∧ (scE l e).op ≠ 1)
  len : (extE l e).1 ≤ 400 → ((pre (scE l e)).length : Int) = (extE l e).1
theorem args1 {e : Ex} (hn : NodesOk e) (h3 : e.op = 3) : ∃ a, e.args = [a] := by
  obtain ⟨_, _, _, _, ho, _⟩ := nodeE_zero hn.self
  have h := operands_args ho (by omega)
  have h1 : arityS e.op = 1 := by rw [h3]; decide
  rw [h1] at h
  match hx : e.args, h with
  | [a], _ => exact ⟨a, rfl⟩
theorem extOk (l : List Var) : ∀ e, NodesOk e → unkB l e = false → ExtOk l e := by
  refine Ex.ind fun e ih hn hu => ?_
  have ih' : ∀ a ∈ e.args, ExtOk l a := fun a ha => ih a ha (hn.arg ha) (unkB_arg hu ha)
  obtain ⟨k1, k2, k3, k4, k5, _⟩ := nodeE_zero hn.self
  have h8 := sizeA_le l e.name
  by_cases c1 : e.op = 1
  · have x1 : extE l e = (1, e.n) := by rw [extE_eq]; unfold extN; rw [if_pos c1]
    have ha : e.args = [] := by
      have h := operands_args k5 (by omega)
      have h1 : arityS e.op = 0 := by rw [c1]; decide
      rw [h1] at h
      exact List.length_eq_zero_iff.1 (by omega)
    have x2 : scE l e = .mk e.op e.n e.name [] := by rw [scE_eq, if_neg (by omega), if_neg (by omega), ha]; rfl
    have := k3 c1
    refine ⟨?_, ?_, fun _ => ?_⟩
    · rw [x1]; simp
    · left; rw [x1, x2]; exact ⟨this.1, c1, rfl⟩
    · rw [x1, x2, pre_eq]; simp
  by_cases c24 : e.op = 24
  · have hs := unk1_size (unkB_self hu) (.inr c24)
    have x1 : extE l e = (2 * (sizeA l e.name : Int) - 1, -1) := by rw [extE_eq]; unfold extN; rw [if_neg c1, if_pos c24]
    have x2 : scE l e = sumE e.name (sizeA l e.name - 1) := by rw [scE_eq, if_pos c24]
    refine ⟨?_, ?_, fun _ => ?_⟩
    · rw [x1]; constructor <;> (show _ ≤ _; omega)
    · right; rw [x1, x2]
      refine ⟨rfl, ?_⟩
      cases sizeA l e.name - 1 <;> simp [sumE, itemE]
    · rw [x1, x2, sumE_len]; show _ = _; omega
  have hxs : ∀ x ∈ e.args.map (extE l), 0 ≤ x.1 := by
    intro x hx
    obtain ⟨a, ha, rfl⟩ := List.mem_map.1 hx
    have := (ih' a ha).nn; omega
  by_cases c3 : e.op = 3
  · have hs := unk1_size (unkB_self hu) (.inl c3)
    obtain ⟨a, ha⟩ := args1 hn c3
    have ia := ih' a (by rw [ha]; simp)
    have xl : lastX (0, -1) (e.args.map (extE l)) = extE l a := by rw [ha]; rfl
    have xh : headE (e.args.map (scE l)) = scE l a := by rw [ha]; rfl
    have x2 : scE l e = chainE e.name (scE l a) (sizeA l e.name) := by rw [scE_eq, if_neg c24, if_pos c3, xh]
    have x1 : extE l e = if (sizeA l e.name : Int) ≤ (extE l a).2 then (1, 0) else if 0 ≤ (extE l a).2 then (1, -1) else
        (if 401 < (sizeA l e.name : Int) * ((extE l a).1 + 4) + 1 then 401 else (sizeA l e.name : Int) * ((extE l a).1 + 4) + 1, -1) := by
      rw [extE_eq]; unfold extN; rw [if_neg c1, if_neg c24, if_neg (by simp [c3]), xl]
    obtain ⟨n1, n2⟩ := ia.nn
    rcases ia.val with ⟨v0, vo, vn⟩ | ⟨v0, vo⟩
    · have x3 : scE l e = if (extE l a).2 < (sizeA l e.name : Int) then itemE e.name (extE l a).2.toNat else constE 0 := by
        rw [x2]; unfold chainE; rw [if_pos vo, vn]
      by_cases hc : (sizeA l e.name : Int) ≤ (extE l a).2
      · rw [if_pos hc] at x1
        rw [if_neg (by omega)] at x3
        refine ⟨by rw [x1]; simp, ?_, fun _ => by rw [x1, x3, pre_const]; simp⟩
        left; rw [x1, x3]; exact ⟨by simp, rfl, rfl⟩
      · rw [if_neg hc, if_pos v0] at x1
        rw [if_pos (by omega)] at x3
        refine ⟨by rw [x1]; simp, ?_, fun _ => by rw [x1, x3, pre_item]; simp⟩
        right; rw [x1, x3]; exact ⟨rfl, by simp [itemE]⟩
    · have x3 : scE l e = ifsE e.name (scE l a) (sizeA l e.name) (sizeA l e.name) := by
        rw [x2]; unfold chainE; rw [if_neg vo]
      rw [v0, if_neg (by omega), if_neg (by omega)] at x1
      have hp : (sizeA l e.name : Int) * ((extE l a).1 + 4) = (extE l a).1 * (sizeA l e.name : Int) + 4 * (sizeA l e.name : Int) := by
        rw [Int.mul_add, Int.mul_comm]; omega
      have hge : (extE l a).1 ≤ (extE l a).1 * (sizeA l e.name : Int) := by
        have := Int.mul_le_mul_of_nonneg_left (show (1 : Int) ≤ (sizeA l e.name : Int) by omega) (show 0 ≤ (extE l a).1 by omega)
        omega
      refine ⟨?_, ?_, fun h4 => ?_⟩
      · rw [x1]
        have : ∀ z : Int, 1 ≤ z → 1 ≤ (if 401 < z then 401 else z) ∧ (if 401 < z then 401 else z) ≤ 401 := fun z hz => by split <;> omega
        exact this _ (by omega)
      · right; rw [x1, x3]
        refine ⟨rfl, ?_⟩
        obtain ⟨k, hk⟩ : ∃ k, sizeA l e.name = k + 1 := ⟨sizeA l e.name - 1, by omega⟩
        rw [hk, ifsE]; simp
      · rw [x1] at h4 ⊢
        simp only at h4 ⊢
        split at h4
        · omega
        · rename_i hc
          rw [if_neg hc, x3, ifsE_len]
          have hl := ia.len (by omega)
          rw [← hl]
          simp [Int.natCast_mul]
  · have x1 : extE l e = (capS 1 (e.args.map (extE l)), -1) := by rw [extE_eq]; unfold extN; rw [if_neg c1, if_neg c24, if_pos c3]
    have x2 : scE l e = .mk e.op e.n e.name (e.args.map (scE l)) := by rw [scE_eq, if_neg c24, if_neg c3]
    have hm := capS_mono (xs := e.args.map (extE l)) (s := 1) (by omega) hxs
    refine ⟨by rw [x1]; exact hm, by right; rw [x1, x2]; exact ⟨rfl, c1⟩, fun h4 => ?_⟩
    rw [x1] at h4 ⊢
    simp only at h4 ⊢
    have hs := capS_sum (by omega) hxs h4
    rw [hs, x2, pre_eq]
    have hall : ∀ a ∈ e.args, (extE l a).1 ≤ 400 := fun a ha => by
      have := sumX_mem hxs (List.mem_map.2 ⟨a, ha, rfl⟩)
      omega
    have key : ∀ (m : List Ex), (∀ a ∈ m, ((pre (scE l a)).length : Int) = (extE l a).1) → ((preL (m.map (scE l))).length : Int) = sumX (m.map (extE l)) := by
      intro m
      induction m with
      | nil => intro _; simp [sumX]
      | cons a r ihr =>
        intro h
        have h1 := h a (by simp)
        have h2 := ihr fun x hx => h x (by simp [hx])
        simp only [List.map_cons, preL_cons, List.length_append, sumX]
        omega
    have := key e.args fun a ha => (ih' a ha).len (hall a ha)
    simp only [Ex.args_mk, List.length_cons]
    omega
end Go.Proofs.YtpgcmnabljandaaGreatDoor
end

section
/-
  Expressions' cells, taken as a whole; appended lists.
-/
set_option linter.unusedVariables false
set_option linter.unusedSimpArgs false
namespace Go.Proofs.YtpgcmnabljandaaGreatDoor
open Go Go.Abs

theorem encE_len (e : Ex) : (encE e).length = 4 := by rw [encE_eq]; rfl
theorem acells_encE (e : Ex) : acells (.agg (encE e)) = some (encE e) := by rw [encE_eq]; simp [acells, AV.atom]
theorem encE_atoms (e : Ex) : (encE e).all AV.atom = true := by
  rw [encE_eq]
  simp
theorem acells_int (k : IntKind) (n : Int) : acells (.int k n) = some [.int k n] := rfl
theorem acells_str (t : List UInt8) : acells (.str t) = some [.str t] := rfl
theorem acells_bool (b : Bool) : acells (.bool b) = some [.bool b] := rfl
theorem acells_sl (sz : Nat) (rows : List (List AV)) (tok : Tok) : acells (.sl sz rows tok) = some [.sl sz rows tok] := rfl
theorem acells_agg {cs : List AV} (h : cs.all AV.atom = true) : acells (.agg cs) = some cs := by simp only [acells, h, if_true]
theorem putAt_whole : ∀ (c new : List AV), c.length = new.length → putAt c 0 new = new := by
  have gen : ∀ (new pre c : List AV), c.length = new.length → putAt (pre ++ c) pre.length new = pre ++ new := by
    intro new
    induction new with
    | nil => intro pre c h; have : c = [] := List.length_eq_zero_iff.1 h; subst this; simp [putAt]
    | cons v r ih =>
      intro pre c h
      cases c with
      | nil => simp at h
      | cons x c =>
        have h' : c.length = r.length := by simpa using h
        have := ih (pre ++ [v]) c h'
        simp only [List.append_assoc, List.singleton_append, List.length_append, List.length_singleton] at this
        rw [putAt]
        have e : (pre ++ x :: c).set pre.length v = pre ++ v :: c := by simp
        rw [e]
        exact this
  intro c new h
  simpa using gen new [] c h
theorem putAt_encE (a b c d : AV) (e : Ex) : putAt [a, b, c, d] 0 (encE e) = encE e := putAt_whole _ _ (by rw [encE_len]; rfl)
theorem putAt_encE2 (x e : Ex) : putAt (encE x) 0 (encE e) = encE e := putAt_whole _ _ (by rw [encE_len, encE_len])
theorem take_encE (e : Ex) : (encE e).take 4 = encE e := List.take_of_length_le (by rw [encE_len]; omega)
theorem fin1_encE (H : List Blk) (e : Ex) : (encE e).map (fin1 H) = encE e := by
  have := nrE' e
  exact fin1s_noRef this

/-- What an appended list looks like. -/
def outK {α : Type} (sz : Nat) (en : α → List AV) (s : List α) : AV := match s with
  | [] => .sl 0 [] .nil
  | a :: r => .sl sz ((a :: r).map en) (.chain 0 (r.length + 1))
def outTK {α : Type} (s : List α) : List (Option Nat) := match s with
  | [] => []
  | _ :: r => [some (r.length + 1)]
@[simp] theorem outK_nil {α : Type} {sz : Nat} {en : α → List AV} : outK sz en ([] : List α) = .sl 0 [] .nil := rfl
@[simp] theorem outTK_nil {α : Type} : outTK ([] : List α) = [] := rfl
theorem outK_atom {α : Type} {sz : Nat} {en : α → List AV} (s : List α) : acells (outK sz en s) = some [outK sz en s] := by cases s <;> rfl
theorem outK_atomB {α : Type} {sz : Nat} {en : α → List AV} (s : List α) : AV.atom (outK sz en s) = true := by cases s <;> rfl
theorem acells_ex {α : Type} {sz : Nat} {en : α → List AV} (o n : Int) (t : Str) (s : List α) : acells (.agg [.int .i64 o, .int .i64 n, .str t, outK sz en s]) = some [.int .i64 o, .int .i64 n, .str t, outK sz en s] :=
  acells_agg (by simp only [List.all_cons, List.all_nil, outK_atomB]; rfl)
theorem outK_fin {α : Type} {sz : Nat} {en : α → List AV} (s : List α) (H : List Blk) (hn : ∀ x, noRefs (en x) = true) : noRef (fin1 H (outK sz en s)) = true ∧ Leq (fin1 H (outK sz en s)) (.sl sz (s.map en) .none) := by
  cases s with
  | nil => simp [outK, Leq]
  | cons a r =>
    have h := noRefss_map hn (a :: r)
    refine ⟨?_, Leq.sl rfl⟩
    simpa [outK] using h
theorem outK_ref {α : Type} {sz : Nat} {en : α → List AV} (s : List α) (hn : ∀ x, noRefs (en x) = true) : noRef (plain (outK sz en s)) = true ∧ Leq (plain (outK sz en s)) (.sl sz (s.map en) .none) := by
  cases s with
  | nil => simp [outK, Leq]
  | cons a r =>
    have h := noRefss_map hn (a :: r)
    refine ⟨?_, Leq.sl rfl⟩
    simpa [outK] using h

/-- No node has more operands than this. -/
def Slim (e : Ex) : Prop := ∀ x ∈ pre e, x.args.length ≤ 1000
theorem Slim.self {e : Ex} (h : Slim e) : e.args.length ≤ 1000 := h e (by rw [pre_eq]; simp)
theorem Slim.arg {e a : Ex} (h : Slim e) (ha : a ∈ e.args) : Slim a := fun x hx => h x (by rw [pre_eq]; exact List.mem_cons_of_mem _ (mem_preL.2 ⟨a, ha, hx⟩))
end Go.Proofs.YtpgcmnabljandaaGreatDoor
end

section
/-
  A scalar form is worth what the expression is worth, in plain Lean.
-/
set_option linter.unusedVariables false
set_option linter.unusedSimpArgs false
namespace Go.Proofs.YtpgcmnabljandaaGreatDoor
open Go Go.Abs

/-- A list of values that are found. -/
structure Sees (l : List Var) (env : List Signal) : Prop where
  has : ∀ s, (findV env s).isSome = hasV l s
  down : ∀ a i, i < 7 → nameS a = true → hasV l (elemS a (i + 1)) = true → hasV l (elemS a i) = true

theorem Sees.none_of {l : List Var} {env : List Signal} (h : Sees l env) {a : Str} (ha : nameS a = true) : ∀ i, sizeA l a ≤ i → i < 8 → findV env (elemS a i) = none := by
  intro i hi h8
  have hnot : hasV l (elemS a (sizeA l a)) = false := sizeA_not (by omega)
  have key : ∀ k, sizeA l a + k < 8 → hasV l (elemS a (sizeA l a + k)) = false := by
    intro k
    induction k with
    | zero => intro _; exact hnot
    | succ k ih =>
      intro hk
      rw [Bool.eq_false_iff]
      intro hh
      have := h.down a (sizeA l a + k) (by omega) ha hh
      rw [ih (by omega)] at this; cases this
  have := key (i - sizeA l a) (by omega)
  rw [show sizeA l a + (i - sizeA l a) = i by omega] at this
  have h2 := h.has (elemS a i)
  rw [this] at h2
  simpa using h2
theorem atV_out {l : List Var} {env : List Signal} (h : Sees l env) {a : Str} (ha : nameS a = true) {x : Int} (hx : (sizeA l a : Int) ≤ x) : atV env a x = 0 := by
  unfold atV
  split
  · rename_i hr
    rw [h.none_of ha x.toNat (by omega) (by omega)]; rfl
  · rfl
theorem valV_item (env : List Signal) (a : Str) (i : Nat) (hi : i < 8) : valV env (itemE a i) = atV env a i := by
  unfold itemE
  rw [valV_eq]
  unfold atV
  rw [if_pos (by omega)]
  simp [nodeV]
theorem valV_const (env : List Signal) (n : Int) : valV env (constE n) = n := by
  unfold constE
  rw [valV_eq]
  simp [nodeV]
theorem valV_sum (env : List Signal) (a : Str) : ∀ k, k < 8 → valV env (sumE a k) = sumV env a (k + 1)
  | 0, _ => by
    have hr := atV_range env a 0
    rw [sumE, valV_item env a 0 (by omega)]
    simp only [sumV, Int.zero_add]
    rw [wrapW_id] <;> simp <;> omega
  | k + 1, h => by
    have ih := valV_sum env a k (by omega)
    rw [sumE, valV_eq]
    simp only [Ex.op_mk, Ex.n_mk, Ex.name_mk, Ex.args_mk, List.map_cons, List.map_nil]
    rw [ih, valV_item env a (k + 1) h]
    simp [nodeV, opW, binW, sumV]
theorem sumV_over {l : List Var} {env : List Signal} (h : Sees l env) {a : Str} (ha : nameS a = true) : ∀ k, sizeA l a + k ≤ 8 → sumV env a (sizeA l a + k) = sumV env a (sizeA l a)
  | 0, _ => rfl
  | k + 1, hk => by
    have ih := sumV_over h ha k (by omega)
    have hr := sumV_range env a (sizeA l a)
    rw [← Nat.add_assoc, sumV, ih, atV_out h ha (by omega), Int.add_zero, wrapW_id hr.1 hr.2]
theorem valV_ifs (env : List Signal) (a : Str) (idx : Ex) (n : Nat) (h8 : n ≤ 8) (hr : 0 ≤ valV env idx) : ∀ k, k ≤ n → valV env (ifsE a idx n k) = if (n : Int) - k ≤ valV env idx ∧ valV env idx < n then atV env a (valV env idx) else 0
  | 0, _ => by
    rw [ifsE, valV_const, if_neg (by omega)]
  | k + 1, hk => by
    have ih := valV_ifs env a idx n h8 hr k (by omega)
    rw [ifsE, valV_eq]
    simp only [Ex.op_mk, Ex.n_mk, Ex.name_mk, Ex.args_mk, List.map_cons, List.map_nil]
    rw [ih, valV_item env a _ (by omega), valV_eq env (Ex.mk 15 0 [] _)]
    simp only [Ex.op_mk, Ex.n_mk, Ex.name_mk, Ex.args_mk, List.map_cons, List.map_nil]
    rw [valV_const]
    generalize valV env idx = x at *
    have e1 : ((n - 1 - k : Nat) : Int) = (n : Int) - 1 - k := by omega
    have hq : nodeV env 15 0 [] [x, ((n - 1 - k : Nat) : Int)] = b2i (decide (x = (n : Int) - 1 - k)) := by
      rw [e1]; simp [nodeV, opW, binW]
    rw [hq]
    have hn22 : ∀ c y z : Int, nodeV env 22 0 [] [c, y, z] = if c ≠ 0 then y else z := fun c y z => by simp [nodeV, opW]
    rw [hn22]
    by_cases hx : x = (n : Int) - 1 - k
    · rw [decide_eq_true hx]
      rw [if_pos (by decide), if_pos (by omega), e1, ← hx]
    · rw [decide_eq_false hx]
      rw [if_neg (by decide)]
      by_cases hy : (n : Int) - k ≤ x ∧ x < n
      · rw [if_pos hy, if_pos (by omega)]
      · rw [if_neg hy, if_neg (by omega)]
theorem sc_val {l : List Var} {env : List Signal} (h : Sees l env) : ∀ e, NodesOk e → unkB l e = false → valV env (scE l e) = valV env e := by
  refine Ex.ind fun e ih hn hu => ?_
  have ih' : ∀ a ∈ e.args, valV env (scE l a) = valV env a := fun a ha => ih a ha (hn.arg ha) (unkB_arg hu ha)
  obtain ⟨k1, k2, k3, k4, k5, k6, k7, k8⟩ := nodeE_zero hn.self
  have h8 := sizeA_le l e.name
  rw [scE_eq]
  by_cases c24 : e.op = 24
  · have hs := unk1_size (unkB_self hu) (.inr c24)
    have hnm := k7 (.inr c24)
    rw [if_pos c24, valV_sum env e.name _ (by omega), valV_eq env e]
    have e1 : sizeA l e.name - 1 + 1 = sizeA l e.name := by omega
    have e2 := sumV_over h hnm (8 - sizeA l e.name) (by omega)
    rw [show sizeA l e.name + (8 - sizeA l e.name) = 8 by omega] at e2
    rw [e1, ← e2]
    unfold nodeV
    rw [if_neg (by omega), if_neg (by omega), if_neg (by omega), if_pos c24]
  rw [if_neg c24]
  by_cases c3 : e.op = 3
  · have hnm := k7 (.inl c3)
    obtain ⟨a, ha⟩ := args1 hn c3
    have ia := ih' a (by rw [ha]; simp)
    have hra := valV_range env a (hn.arg (by rw [ha]; simp))
    have hoa := extOk l a (hn.arg (by rw [ha]; simp)) (unkB_arg hu (by rw [ha]; simp))
    have xh : headE (e.args.map (scE l)) = scE l a := by rw [ha]; rfl
    have hve : valV env e = atV env e.name (valV env a) := by
      rw [valV_eq, ha]
      unfold nodeV
      rw [if_neg (by omega), if_neg (by omega), if_pos c3]
      rfl
    rw [if_pos c3, xh, hve]
    unfold chainE
    by_cases co : (scE l a).op = 1
    · rw [if_pos co]
      have hval : valV env (scE l a) = (scE l a).n := by
        rw [valV_eq]; unfold nodeV; rw [if_pos co]
      rw [ia] at hval
      by_cases cl : (scE l a).n < (sizeA l e.name : Int)
      · rw [if_pos cl, valV_item env e.name _ (by omega)]
        congr 1
        omega
      · rw [if_neg cl, valV_const, atV_out h hnm (by omega)]
    · rw [if_neg co, valV_ifs env e.name (scE l a) _ h8 (by rw [ia]; exact hra.1) _ (Nat.le_refl _), ia]
      by_cases cl : valV env a < (sizeA l e.name : Int)
      · rw [if_pos ⟨by omega, cl⟩]
      · rw [if_neg (fun hh => cl hh.2), atV_out h hnm (by omega)]
  · rw [if_neg c3, valV_eq, valV_eq env e]
    simp only [Ex.op_mk, Ex.n_mk, Ex.name_mk, Ex.args_mk]
    congr 1
    rw [List.map_map]
    exact List.map_congr_left fun a ha => ih' a ha

/-- All that a scalar form asks for is there. -/
theorem known_mem {env : List Signal} {e : Ex} : knownV env e = true ↔ ∀ x ∈ pre e, askV env x = true := by unfold knownV; exact List.all_eq_true
theorem known_item {l : List Var} {env : List Signal} (h : Sees l env) {a : Str} {i : Nat} (hi : i < sizeA l a) : knownV env (itemE a i) = true := by
  rw [knownV_eq]
  unfold askV itemE
  simp only [Ex.op_mk, Ex.name_mk, Ex.args_mk, if_true, List.all_nil, Bool.and_true]
  rw [h.has, sizeA_has hi]
theorem known_const (env : List Signal) (n : Int) : knownV env (constE n) = true := by
  rw [knownV_eq]; unfold askV constE; simp
theorem known_mk {env : List Signal} {o n : Int} {s : Str} {a : List Ex} (h2 : o ≠ 2) (h3 : o ≠ 3) (h24 : o ≠ 24) (h : ∀ x ∈ a, knownV env x = true) : knownV env (.mk o n s a) = true := by
  have h1 : askV env (.mk o n s a) = true := by
    unfold askV
    rw [if_neg (show ¬ (Ex.mk o n s a).op = 2 from h2), if_neg (show ¬ ((Ex.mk o n s a).op = 3 ∨ (Ex.mk o n s a).op = 24) from fun hh => hh.elim h3 h24)]
  rw [knownV_eq, h1, Bool.true_and]
  exact List.all_eq_true.2 h
theorem known_sum {l : List Var} {env : List Signal} (h : Sees l env) {a : Str} : ∀ k, k < sizeA l a → knownV env (sumE a k) = true
  | 0, hk => known_item h hk
  | k + 1, hk => known_mk (by decide) (by decide) (by decide) fun x hx => by
    simp only [List.mem_cons, List.not_mem_nil, or_false] at hx
    rcases hx with rfl | rfl
    · exact known_sum h k (by omega)
    · exact known_item h hk
theorem known_ifs {l : List Var} {env : List Signal} (h : Sees l env) {a : Str} {idx : Ex} (hi : knownV env idx = true) (h1 : 1 ≤ sizeA l a) : ∀ k, knownV env (ifsE a idx (sizeA l a) k) = true
  | 0 => known_const env 0
  | k + 1 => known_mk (by decide) (by decide) (by decide) fun x hx => by
    simp only [List.mem_cons, List.not_mem_nil, or_false] at hx
    rcases hx with rfl | rfl | rfl
    · refine known_mk (by decide) (by decide) (by decide) fun y hy => ?_
      simp only [List.mem_cons, List.not_mem_nil, or_false] at hy
      rcases hy with rfl | rfl
      · exact hi
      · exact known_const env _
    · exact known_item h (by omega)
    · exact known_ifs h hi h1 k
theorem sc_known {l : List Var} {env : List Signal} (h : Sees l env) : ∀ e, NodesOk e → unkB l e = false → knownV env (scE l e) = true := by
  refine Ex.ind fun e ih hn hu => ?_
  have ih' : ∀ a ∈ e.args, knownV env (scE l a) = true := fun a ha => ih a ha (hn.arg ha) (unkB_arg hu ha)
  rw [scE_eq]
  by_cases c24 : e.op = 24
  · have hs := unk1_size (unkB_self hu) (.inr c24)
    rw [if_pos c24]
    exact known_sum h _ (by omega)
  rw [if_neg c24]
  by_cases c3 : e.op = 3
  · have hs := unk1_size (unkB_self hu) (.inl c3)
    obtain ⟨a, ha⟩ := args1 hn c3
    have xh : headE (e.args.map (scE l)) = scE l a := by rw [ha]; rfl
    have ia := ih' a (by rw [ha]; simp)
    have hoa := extOk l a (hn.arg (by rw [ha]; simp)) (unkB_arg hu (by rw [ha]; simp))
    rw [if_pos c3, xh]
    unfold chainE
    split
    · rename_i co
      split
      · rename_i cl
        rcases hoa.val with ⟨v0, _, vn⟩ | ⟨_, vo⟩
        · exact known_item h (by omega)
        · exact absurd co vo
      · exact known_const env 0
    · exact known_ifs h ia hs _
  rw [if_neg c3]
  by_cases c2 : e.op = 2
  · rw [knownV_eq]
    have hs : e.args = [] := by
      obtain ⟨_, _, _, _, ho, _⟩ := nodeE_zero hn.self
      have := operands_args ho (by omega)
      have h0 : arityS e.op = 0 := by rw [c2]; decide
      rw [h0] at this
      exact List.length_eq_zero_iff.1 (by omega)
    have h1 : askV env (.mk e.op e.n e.name (e.args.map (scE l))) = true := by
      unfold askV
      rw [if_pos (show (Ex.mk e.op e.n e.name (e.args.map (scE l))).op = 2 from c2)]
      show (findV env e.name).isSome = true
      rw [h.has]
      exact unk1_var (unkB_self hu) c2
    rw [h1, hs]
    rfl
  · refine known_mk c2 c3 c24 fun x hx => ?_
    obtain ⟨a, ha, rfl⟩ := List.mem_map.1 hx
    exact ih' a ha
theorem e_known {l : List Var} {env : List Signal} (h : Sees l env) {e : Ex} (hu : unkB l e = false) : knownV env e = true := by
  rw [known_mem]
  intro x hx
  have hx1 : unk1 l x = false := by
    rw [Bool.eq_false_iff]
    intro hh
    have : unkB l e = true := List.any_eq_true.2 ⟨x, hx, hh⟩
    rw [this] at hu; cases hu
  unfold askV
  split
  · rename_i h2
    rw [h.has]; exact unk1_var hx1 h2
  split
  · rename_i h3
    rw [h.has]; exact sizeA_has (unk1_size hx1 h3)
  · rfl
end Go.Proofs.YtpgcmnabljandaaGreatDoor
end

section
/-
  Walks: arrays' sizes, names' elements up to the eighth, nodes of scalar expressions.
-/
set_option linter.unusedVariables false
set_option linter.unusedSimpArgs false
set_option maxRecDepth 100000
namespace Go.Proofs.YtpgcmnabljandaaGreatDoor
open Go Go.Abs

theorem itoa100_8 : Pure Tryz.prog GG 100 [.int .i64 8] (.str [UInt8.ofNat (48 + 8)]) := Pure.closed' C00_ok 10 8 (by kernel_rfl)
theorem element181' (a : Str) (i : Nat) (hi : i ≤ 8) (ha : a.length ≤ 1000) : Pure Tryz.prog GG 181 [.str a, .int .i64 i] (.str (elemS a i)) := by
  rcases Nat.lt_or_eq_of_le hi with h | h
  · exact element181 a i h ha
  · subst h
    refine Pure.vc mixed Tryz.func181 rfl (by kernel_rfl) ?_
    have h1 : a.length + 1 ≤ 4611686018427387904 := by omega
    have h2 : a.length + (1 + 1) ≤ 4611686018427387904 := by omega
    have h3 : a.length + (1 + (1 + 1)) ≤ 4611686018427387904 := by omega
    have h4 : a.length + 1 + 1 ≤ 4611686018427387904 := by omega
    have h5 : a.length + 1 + 1 + 1 ≤ 4611686018427387904 := by omega
    simp [h1]
    refine vcCall.call itoa100_8 rfl ?_
    simp [h2, h3, h4, h5, elemS]
theorem format141_8 : Pure Tryz.prog GG 141 [.int .i64 8] (.str [UInt8.ofNat (48 + 8)]) := by
  refine Pure.vc mixed Tryz.func141 rfl (by kernel_rfl) ?_
  simp
  have below : Pure Tryz.prog GG 213 [.int .i64 8] (.int .i64 (-8)) := by
    refine Pure.vc mixed Tryz.func213 rfl (by kernel_rfl) ?_
    have k1 : IntKind.i64.wrap (-8) = -8 := by decide
    simp [k1]
  refine vcCall.call below rfl ?_
  refine vcLoop.intro (fun n env σ => n = 1 ∧ env 0 = .int .i64 8 ∧ env 3 = .str [] ∧ env 4 = .int .i64 (-8) ∧ σ = ⟨[], []⟩) 1 ⟨rfl, by simp⟩ ?_
  rintro n env σ ⟨rfl, h0, h3, h4, rfl⟩
  have k2 : (-8 : Int).tmod 10 = -8 := by decide
  have k3 : IntKind.i64.wrap (48 + 8) = 56 := by decide
  have k4 : IntKind.u8.wrap 56 = 56 := by decide
  have k5 : (-8 : Int).tdiv 10 = 0 := by decide
  have k6 : IntKind.i64.wrap 56 = 56 := by decide
  have k7 : IntKind.i64.wrap 0 = 0 := by decide
  simp [h0, h3, h4, k2, k3, k4, k5, k6, k7, buildSliceA, rowsFill, convA, bytesOf]
theorem element221' (a : Str) (i : Nat) (hi : i ≤ 8) (ha : a.length ≤ 1000) : Pure Tryz.prog GG 221 [.str a, .int .i64 i] (.str (elemS a i)) := by
  rcases Nat.lt_or_eq_of_le hi with h | h
  · exact element221 a i h ha
  · subst h
    refine Pure.vc mixed Tryz.func221 rfl (by kernel_rfl) ?_
    have h1 : a.length + 1 ≤ 4611686018427387904 := by omega
    have h2 : a.length + (1 + 1) ≤ 4611686018427387904 := by omega
    have h3 : a.length + (1 + (1 + 1)) ≤ 4611686018427387904 := by omega
    have h4 : a.length + 1 + 1 ≤ 4611686018427387904 := by omega
    have h5 : a.length + 1 + 1 + 1 ≤ 4611686018427387904 := by omega
    simp [h1]
    refine vcCall.call format141_8 rfl ?_
    simp [h2, h3, h4, h5, elemS]

theorem size154 (l : List Var) (a : Str) (hl : Fits l) (ha : a.length ≤ 1000) (hv : ∀ v ∈ l, varS v.name = true) : Pure Tryz.prog GG 154 [.agg [.sl 4 (l.map encVar) .none], .str a] (.int .i64 (sizeA l a)) := by
  refine Pure.vc mixed Tryz.func154 rfl (by kernel_rfl) ?_
  generalize hr : sizeA l a = r
  simp
  refine vcLoop.intro (fun n ev σ => ∃ i : Nat, i ≤ 8 ∧ n = 8 - i ∧ ev 1 = .str a ∧ ev 2 = .ptr 0 0 ∧ ev 5 = .int .i64 i ∧ σ = ⟨[.cells [.sl 4 (l.map encVar) .none]], []⟩ ∧ ∀ j, j < i → hasV l (elemS a j) = true) 8 ⟨0, by simp⟩ ?_
  rintro n ev σ ⟨i, hi, rfl, h1, h2, h5, rfl, hz⟩
  simp [h1, h2, h5]
  refine vcCall.call (element181' a i hi ha) rfl ?_
  refine vcCall.call (index GG l (elemS a i) hl) (by simp) ?_
  have hf := findI_dec (fun v : Var => v.name == elemS a i) l
  have hd : decide (0 ≤ findI (fun v : Var => v.name == elemS a i) l 0) = hasV l (elemS a i) := hf
  cases hh : hasV l (elemS a i)
  · rw [hh] at hd
    have hn : ¬ 0 ≤ findI (fun v : Var => v.name == elemS a i) l 0 := of_decide_eq_false hd
    have := sizeA_of hi hz fun _ => hh
    rw [this] at hr
    subst hr
    simp [hn, h1, h2, h5]
  · rw [hh] at hd
    have hn : 0 ≤ findI (fun v : Var => v.name == elemS a i) l 0 := of_decide_eq_true hd
    have h8 : i < 8 := by
      rcases Nat.lt_or_eq_of_le hi with h | h
      · exact h
      · subst h; rw [hasV_8 hv] at hh; cases hh
    simp [hn, h1, h2, h5]
    refine ⟨_, by omega, i + 1, by omega, rfl, wr (by omega) (by omega), fun j hj => ?_⟩
    rcases Nat.lt_succ_iff_lt_or_eq.1 hj with h | rfl
    · exact hz j h
    · exact hh
theorem variable232 (a : Str) (i : Nat) (hi : i < 8) (ha : a.length ≤ 1000) : Pure Tryz.prog GG 232 [.str a, .int .i64 i] (.agg (encE (itemE a i))) := by
  refine Pure.vc mixed Tryz.func232 rfl (by kernel_rfl) ?_
  simp
  refine vcCall.call (element181 a i hi ha) rfl ?_
  simp [buildA, fillA, stPlace, putAt, itemE, encE, Leq]
theorem number234 (n : Int) : Pure Tryz.prog GG 234 [.int .i64 n] (.agg (encE (constE n))) := by
  refine Pure.vc mixed Tryz.func234 rfl (by kernel_rfl) ?_
  simp [buildA, fillA, stPlace, putAt, constE, encE, Leq]
theorem node233 (op : Int) (args : List Ex) : Pure Tryz.prog GG 233 [.int .i64 op, .sl 4 (args.map encE) .none] (.agg (encE (.mk op 0 [] args))) := by
  refine Pure.vc mixed Tryz.func233 rfl (by kernel_rfl) ?_
  simp [buildA, fillA, stPlace, putAt, encE, Leq]
theorem ritem162 (a : Str) (i : Nat) (hi : i < 8) (ha : a.length ≤ 1000) : Pure Tryz.prog GG 162 [.str a, .int .i64 i] (.agg (encE (itemE a i))) := by
  refine Pure.vc mixed Tryz.func162 rfl (by kernel_rfl) ?_
  simp
  refine vcCall.call (element221 a i hi ha) rfl ?_
  simp [buildA, fillA, stPlace, putAt, itemE, encE, Leq]
theorem rsize160 (l : List Var) (a : Str) (hl : Fits l) (ha : a.length ≤ 1000) (hv : ∀ v ∈ l, varS v.name = true) : Pure Tryz.prog GG 160 [.sl 4 (l.map encVar) .none, .str a] (.int .i64 (sizeA l a)) := by
  refine Pure.vc mixed Tryz.func160 rfl (by kernel_rfl) ?_
  generalize hr : sizeA l a = r
  simp
  refine vcLoop.intro (fun n ev σ => ∃ i : Nat, i ≤ 8 ∧ n = 8 - i ∧ ev 0 = .sl 4 (l.map encVar) .none ∧ ev 1 = .str a ∧ ev 5 = .int .i64 i ∧ σ = ⟨[], []⟩ ∧ ∀ j, j < i → hasV l (elemS a j) = true) 8 ⟨0, by simp⟩ ?_
  rintro n ev σ ⟨i, hi, rfl, h0, h1, h5, rfl, hz⟩
  have h16 : (i : Int) < 16 := by omega
  simp [h0, h1, h5, h16]
  refine vcCall.call (element221' a i hi ha) rfl ?_
  try simp
  refine vcCall.call (find139 GG l (elemS a i) hl) (by simp) ?_
  have hf := findI_dec (fun v : Var => v.name == elemS a i) l
  have hd : decide (0 ≤ findI (fun v : Var => v.name == elemS a i) l 0) = hasV l (elemS a i) := hf
  cases hh : hasV l (elemS a i)
  · rw [hh] at hd
    have hn : ¬ 0 ≤ findI (fun v : Var => v.name == elemS a i) l 0 := of_decide_eq_false hd
    have := sizeA_of hi hz fun _ => hh
    rw [this] at hr
    subst hr
    simp [hn, h0, h1, h5]
  · rw [hh] at hd
    have hn : 0 ≤ findI (fun v : Var => v.name == elemS a i) l 0 := of_decide_eq_true hd
    have h8 : i < 8 := by
      rcases Nat.lt_or_eq_of_le hi with h | h
      · exact h
      · subst h; rw [hasV_8 hv] at hh; cases hh
    simp [hn, h0, h1, h5]
    refine ⟨_, by omega, i + 1, by omega, rfl, wr (by omega) (by omega), fun j hj => ?_⟩
    rcases Nat.lt_succ_iff_lt_or_eq.1 hj with h | rfl
    · exact hz j h
    · exact hh
end Go.Proofs.YtpgcmnabljandaaGreatDoor
end
