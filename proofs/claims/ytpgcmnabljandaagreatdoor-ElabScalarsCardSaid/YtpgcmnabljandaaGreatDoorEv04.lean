/- A part of the proof: texts Walk34 Walk35. -/
import Derived.Test.YtpgcmnabljandaaGreatDoorEv03
import Derived.Test.YtpgcmnabljandaaGreatDoorWk16
import Derived.Test.YtpgcmnabljandaaGreatDoorEv02
import Derived.Test.YtpgcmnabljandaaGreatDoorWk19

section
/-
  Walks: what an expression asks for is there; its value with an error.
-/

set_option linter.unusedVariables false
set_option linter.unusedSimpArgs false
set_option maxRecDepth 100000
namespace Go.Proofs.YtpgcmnabljandaaGreatDoor
open Go Go.Abs

theorem knownV_names (env : List Signal) (e : Ex) : knownV env e = ((namesS [2] e).all (fun s => (findV env s).isSome) && (namesS [3, 24] e).all fun s => (findV env (elemS s 0)).isSome) := by
  rw [Bool.eq_iff_iff, Bool.and_eq_true, knownV]
  simp only [List.all_eq_true]
  constructor
  · intro h
    refine ⟨fun s hs => ?_, fun s hs => ?_⟩
    · obtain ⟨x, hx, hop, rfl⟩ := namesS_mem.1 hs
      have := h x hx
      have h2 : x.op = 2 := by simpa using hop
      simpa [askV, h2] using this
    · obtain ⟨x, hx, hop, rfl⟩ := namesS_mem.1 hs
      have := h x hx
      have h3 : x.op = 3 ∨ x.op = 24 := by simpa using hop
      unfold askV at this
      rw [if_neg (by omega), if_pos h3] at this
      exact this
  · rintro ⟨h1, h2⟩ x hx
    unfold askV
    split
    · rename_i h
      exact h1 _ (namesS_mem.2 ⟨x, hx, by simp [h], rfl⟩)
    · split
      · rename_i h
        exact h2 _ (namesS_mem.2 ⟨x, hx, by simpa using h, rfl⟩)
      · rfl
theorem all_no' {α : Type} {p : α → Bool} {l : List α} {i : Nat} {a : α} (h : l[i]? = some a) (hp : p a = false) : l.all p = false := all_bad (List.mem_of_getElem? h) hp
theorem all_take {α : Type} {p : α → Bool} {l : List α} {i : Nat} (hi : l.length ≤ i) (h : ∀ a ∈ l.take i, p a = true) : l.all p = true := by
  rw [List.take_of_length_le hi] at h
  exact List.all_eq_true.2 h

theorem names_len {ops : List Int} {e : Ex} : (namesS ops e).length ≤ (pre e).length := by
  unfold namesS
  have : ∀ (l : List Ex) (s : List Str), (l.foldl (addN ops) s).length ≤ s.length + l.length := by
    intro l
    induction l with
    | nil => intro s; simp
    | cons a r ih =>
      intro s
      have h1 := ih (addN ops s a)
      have h2 := addN_length (ops := ops) (s := s) (e := a)
      simp only [List.foldl_cons, List.length_cons]
      omega
  simpa using this (pre e) []
theorem known96 (env : List Signal) (hl : Fits env) (e : Ex) (hwe : Wen e) (hn : NodesOk e) (hsz : (pre e).length ≤ 100000) : Pure Tryz.prog GG 96 [.agg [.sl 2 (env.map encSignal) .none], .agg (encE e)] (.bool (knownV env e)) := by
  refine Pure.vc mixed Tryz.func96 rfl (by kernel_rfl) ?_
  have hnm := names130 e hwe hsz
  have har := arrays128 e hwe hsz
  have hk := knownV_names env e
  generalize knownV env e = r at hk ⊢
  have harr : ∀ s ∈ namesS [3, 24] e, s.length ≤ 1000 := by
    intro s hs
    obtain ⟨x, hx, hop, rfl⟩ := namesS_mem.1 hs
    have := name_len ((nodeE_zero (hn x hx)).2.2.2.2.2.2.1 (by simpa using hop))
    omega
  have l1 := names_len (ops := [2]) (e := e)
  have l2 := names_len (ops := [3, 24]) (e := e)
  generalize namesS [2] e = A at hnm l1 hk ⊢
  generalize namesS [3, 24] e = B at har harr l2 hk ⊢
  simp only [encE_eq e]
  simp
  rw [← encE_eq e]
  refine vcCall.call hnm (by simp) ?_
  try simp
  refine vcLoop.intro (fun n ev σ => ∃ i, i ≤ A.length ∧ n = A.length - i ∧ ev 2 = .ptr 0 0 ∧ ev 3 = .ptr 1 0 ∧ ev 14 = .sl 1 (A.map encStr) .none ∧ ev 15 = .int .i64 A.length ∧ ev 16 = .int .i64 i ∧ σ = ⟨[.cells [.sl 2 (env.map encSignal) .none], .cells (encE e)], []⟩ ∧ ∀ s ∈ A.take i, (findV env s).isSome = true) A.length ⟨0, by simp [encE_eq e]⟩ ?_
  rintro n ev σ ⟨i, hi, rfl, h2, h3, h14, h15, h16, rfl, hz⟩
  cases hv : A[i]? with
  | some s =>
    obtain ⟨hc, hv'⟩ := List.getElem?_eq_some_iff.1 hv
    simp [h2, h3, h14, h15, h16, hc, hv']
    refine vcCall.call (find164 env s hl) (by simp) ?_
    cases hf : (findV env s).isSome
    · rw [all_no' (p := fun s => (findV env s).isSome) hv hf, Bool.false_and] at hk
      subst hk
      simp [findR, hf]
    · simp [findR, hf, h2, h3, h14, h15, h16]
      exact ⟨_, by omega, i + 1, by omega, rfl, wr (by omega) (by omega), by simpa using take_succ_all (p := fun s => (findV env s).isSome = true) hv (by simpa using hz) hf⟩
  | none =>
    have hlen : A.length ≤ i := by simpa using hv
    have hc : ¬ i < A.length := by omega
    rw [all_take (p := fun s => (findV env s).isSome) hlen hz, Bool.true_and] at hk
    simp [h2, h3, h14, h15, h16, hc, encE_eq e]
    rw [← encE_eq e]
    refine vcCall.call har (by simp) ?_
    try simp
    have h2' := h2
    clear h2 h14 h15 h16 hz
    refine vcLoop.intro (fun n ev σ => ∃ i, i ≤ B.length ∧ n = B.length - i ∧ ev 2 = .ptr 0 0 ∧ ev 30 = .sl 1 (B.map encStr) .none ∧ ev 31 = .int .i64 B.length ∧ ev 32 = .int .i64 i ∧ σ = ⟨[.cells [.sl 2 (env.map encSignal) .none], .cells (encE e)], []⟩ ∧ ∀ s ∈ B.take i, (findV env (elemS s 0)).isSome = true) B.length ⟨0, by simp [encE_eq e, h2']⟩ ?_
    rintro n ev σ ⟨i, hi, rfl, h2, h30, h31, h32, rfl, hz⟩
    cases hv : B[i]? with
    | some s =>
      obtain ⟨hc, hv'⟩ := List.getElem?_eq_some_iff.1 hv
      obtain ⟨b, hb, hb0⟩ := atR_val (env := env) (a := s) (i := 0)
      have hb0 := hb0 rfl
      have hat := at165 env s 0 hl (harr s (List.mem_of_getElem? hv))
      rw [hb] at hat
      simp [h2, h30, h31, h32, hc, hv']
      refine vcCall.call hat (by simp) ?_
      cases hf : (findV env (elemS s 0)).isSome
      · rw [all_no' (p := fun s => (findV env (elemS s 0)).isSome) hv hf] at hk
        subst hk
        simp [hb0, hf]
      · simp [hb0, hf, h2, h30, h31, h32]
        exact ⟨_, by omega, i + 1, by omega, rfl, wr (by omega) (by omega), by simpa using take_succ_all (p := fun s => (findV env (elemS s 0)).isSome = true) hv (by simpa using hz) hf⟩
    | none =>
      have hlen : B.length ≤ i := by simpa using hv
      have hc : ¬ i < B.length := by omega
      rw [all_take (p := fun s => (findV env (elemS s 0)).isSome) hlen hz] at hk
      subst hk
      simp [h2, h30, h31, h32, hc]
theorem eval37 (env : List Signal) (hl : Fits env) (e : Ex) (hwe : Wen e) (hh : hgt e < 1000000) (hsz : (pre e).length ≤ 100000) : Pure Tryz.prog GG 37 [.agg (encE e), .sl 2 (env.map encSignal) .none] (.tup [.int .i64 (evalV env e), .int .i64 (evalE env e)]) := by
  refine Pure.vc mixed Tryz.func37 rfl (by kernel_rfl) ?_
  have hva := valid88 e hwe hh
  have hE : evalE env e = if validE e ≠ 0 then 1 else if knownV env e = true then 0 else 7 := rfl
  have hV : evalV env e = if validE e = 0 ∧ knownV env e = true then valV env e else 0 := rfl
  by_cases h0 : validE e = 0
  · have hn := validE_nodes h0
    have hkn := known96 env hl e hwe hn hsz
    have hval := value97 env hl e hwe hn
    cases hk : knownV env e
    · have e1 : evalE env e = 7 := by rw [hE]; simp [h0, hk]
      have e2 : evalV env e = 0 := by rw [hV]; simp [h0, hk]
      rw [e1, e2]
      rw [h0] at hva
      rw [hk] at hkn
      simp only [encE_eq e]
      simp [buildA, fillA, stPlace, putAt]
      rw [← encE_eq e]
      refine vcCall.call hva (by simp) ?_
      simp [encE_eq e]
      rw [← encE_eq e]
      refine vcCall.call hkn (by simp) ?_
      simp
    · have e1 : evalE env e = 0 := by rw [hE]; simp [h0, hk]
      have e2 : evalV env e = valV env e := by rw [hV]; simp [h0, hk]
      rw [e1, e2]
      rw [h0] at hva
      rw [hk] at hkn
      simp only [encE_eq e]
      simp [buildA, fillA, stPlace, putAt]
      rw [← encE_eq e]
      refine vcCall.call hva (by simp) ?_
      simp [encE_eq e]
      rw [← encE_eq e]
      refine vcCall.call hkn (by simp) ?_
      simp [encE_eq e]
      rw [← encE_eq e]
      refine vcCall.call hval (by simp) ?_
      simp
  · have e1 : evalE env e = 1 := by rw [hE]; simp [h0]
    have e2 : evalV env e = 0 := by rw [hV]; simp [h0]
    rw [e1, e2]
    simp only [encE_eq e]
    simp [buildA, fillA, stPlace, putAt]
    rw [← encE_eq e]
    refine vcCall.call hva (by simp) ?_
    simp [h0]
end Go.Proofs.YtpgcmnabljandaaGreatDoor
end

section
/-
  Walks: values of expressions, for the reference.
-/

set_option linter.unusedVariables false
set_option linter.unusedSimpArgs false
set_option maxRecDepth 100000
namespace Go.Proofs.YtpgcmnabljandaaGreatDoor
open Go Go.Abs

theorem all_take' {α : Type} {p : α → Bool} {l : List α} {i : Nat} (hi : l.length ≤ i) (h : ∀ a ∈ l.take i, p a = true) : l.all p = true := by
  rw [List.take_of_length_le hi] at h
  exact List.all_eq_true.2 h
def asksS (op : Int) : Bool := decide (op = 1) || namedS op
theorem rasks224 (op : Int) : Pure Tryz.prog GG 224 [.int .i64 op] (.bool (asksS op)) := by
  refine Pure.vc mixed Tryz.func224 rfl (by kernel_rfl) ?_
  by_cases h : op = 1
  · subst h
    simp [asksS]
  · simp [h]
    refine vcCall.call (named282 op) rfl ?_
    simp [asksS, h]
theorem askV_eq {env : List Signal} {e : Ex} : askV env e = if e.op = 2 then (findV env e.name).isSome else if e.op = 3 ∨ e.op = 24 then (findV env (elemS e.name 0)).isSome else true := rfl
set_option maxHeartbeats 1000000 in
theorem rleaf225 (env : List Signal) (hl : Fits env) (e : Ex) (ops : List Int) (hs : e.op = 3 ∨ e.op = 24 → e.name.length ≤ 1000) (ha : e.op = 3 → ops ≠ []) (hask : asksS e.op = true) :
    Pure Tryz.prog GG 225 [.agg (encE e), .sl 2 (env.map encSignal) .none, .sl 1 (ops.map encInt) .none] (.tup [.int .i64 (if askV env e = true then nodeV env e.op e.n e.name ops else 0), .int .i64 (if askV env e = true then 0 else 7)]) := by
  refine Pure.vc mixed Tryz.func225 rfl (by kernel_rfl) ?_
  rw [askV_eq]
  unfold nodeV
  by_cases c1 : e.op = 1
  · simp only [encE_eq e]
    simp [c1]
  by_cases c2 : e.op = 2
  · simp only [encE_eq e]
    simp [c1, c2]
    refine vcCall.call (rfind283 env e.name hl) (by simp) ?_
    cases hf : findV env e.name <;> simp [findR, hf]
  have hor : e.op = 3 ∨ e.op = 24 := by
    simp only [asksS, namedS, Bool.or_eq_true, decide_eq_true_eq] at hask
    omega
  have hs := hs hor
  simp only [encE_eq e]
  simp [c1, c2]
  refine vcCall.call (relem284 e.name 0 (by omega) hs) rfl ?_
  try simp
  refine vcCall.call (rfind283 env (elemS e.name 0) hl) (by simp) ?_
  cases hf : (findV env (elemS e.name 0)).isSome
  · simp [findR, hf, hor]
    exact ⟨fun h3 h24 => absurd hor (by omega), fun h3 => by omega⟩
  · by_cases c3 : e.op = 3
    · obtain ⟨v, r, rfl⟩ : ∃ v r, ops = v :: r := by
        cases ops with
        | nil => exact absurd rfl (ha c3)
        | cons v r => exact ⟨v, r, rfl⟩
      simp [findR, hf, c3]
      refine vcCall.call (relement285 env e.name v hl hs) (by simp) ?_
      simp
    · have c24 : e.op = 24 := by omega
      simp [findR, hf, c24]
      refine vcLoop.intro (fun n ev σ => ∃ i : Nat, i ≤ 8 ∧ n = 8 - i ∧ ev 1 = .sl 2 (env.map encSignal) .none ∧ ev 3 = .ptr 0 0 ∧ ev 12 = .int .i64 (sumV env e.name i) ∧ ev 13 = .int .i64 i ∧ σ = ⟨[.cells (encE e)], []⟩) 8 ⟨0, by simp [sumV, encE_eq e, c24]⟩ ?_
      rintro n ev σ ⟨i, hi, rfl, h1, h3, h12, h13, rfl⟩
      by_cases hc : i < 8
      · have hc' : (i : Int) < 8 := by omega
        simp [h1, h3, h12, h13, hc', encE_eq e]
        refine vcCall.call (relement285 env e.name i hl hs) (by simp) ?_
        try simp [h1, h3, h12, h13]
        refine vcCall.call (radd286 _ _) rfl ?_
        simp [h1, h3, h12, h13, encE_eq e]
        exact ⟨_, by omega, i + 1, by omega, rfl, rfl, wr (by omega) (by omega)⟩
      · have hi' : i = 8 := by omega
        subst hi'
        simp [h1, h3, h12, h13]
        intro e0; rw [e0] at hf; cases hf

set_option maxHeartbeats 1000000 in
theorem roperate226 (op : Int) (l : List Int) (hr : ∀ v ∈ l, 0 ≤ v ∧ v ≤ 65535) (h22 : op = 22 → l.length = 3) (h23 : op = 23 → 3 ≤ l.length ∧ l.length ≤ 33) (ho : op ≠ 22 → op ≠ 23 → l.length = 1 ∨ l.length = 2) :
    Pure Tryz.prog GG 226 [.int .i64 op, .sl 1 (l.map encInt) .none] (.int .i64 (opW op l)) := by
  refine Pure.vc mixed Tryz.func226 rfl (by kernel_rfl) ?_
  by_cases c22 : op = 22
  · obtain ⟨a, b, c, rfl⟩ := list3 (h22 c22)
    subst c22
    by_cases ha : a = 0
    · simp [ha, opW_22]
    · simp [ha, opW_22]
  by_cases c23 : op = 23
  · obtain ⟨h3, h33⟩ := h23 c23
    subst c23
    obtain ⟨a, ga⟩ : ∃ a, l[0]? = some a := ⟨_, List.getElem?_eq_getElem (by omega)⟩
    obtain ⟨g0, ga'⟩ := List.getElem?_eq_some_iff.1 ga
    have hw : opW 23 l = b2i (insideW a (l.drop 1)) := by
      rw [opW_23, List.getD_eq_getElem?_getD, ga]
      simp
    rw [hw]
    generalize hT : insideW a (l.drop 1) = T
    simp
    refine vcLoop.intro (fun n env σ => ∃ i : Nat, 1 ≤ i ∧ i ≤ l.length + 1 ∧ n = l.length + 1 - i ∧ env 1 = .sl 1 (l.map encInt) .none ∧ env 5 = .int .i64 i ∧ σ = ⟨[], []⟩ ∧ insideW a (l.drop i) = T) l.length ⟨1, by simp, by omega, by omega, by simp, by simp, rfl, hT⟩ ?_
    rintro n env σ ⟨i, hi1, hi2, rfl, h1, h5, rfl, hin⟩
    have w1 : IntKind.i64.wrap ((i : Int) + 1) = (i : Int) + 1 := wr (by omega) (by omega)
    have w2 : IntKind.i64.wrap ((i : Int) + 2) = ((i + 2 : Nat) : Int) := by rw [wr (by omega) (by omega)]; omega
    have n1 : ((i : Int) + 1).toNat = i + 1 := by omega
    have p1 : (0 : Int) ≤ (i : Int) + 1 := by omega
    by_cases hc : i + 1 < l.length
    · obtain ⟨x, gx⟩ : ∃ x, l[i]? = some x := ⟨_, List.getElem?_eq_getElem (by omega)⟩
      obtain ⟨y, gy⟩ : ∃ y, l[i + 1]? = some y := ⟨_, List.getElem?_eq_getElem (by omega)⟩
      obtain ⟨q1, gx'⟩ := List.getElem?_eq_some_iff.1 gx
      obtain ⟨q2, gy'⟩ := List.getElem?_eq_some_iff.1 gy
      rw [drop_cons gx, drop_cons gy, insideW_cons] at hin
      have hc' : (i : Int) + 1 < l.length := by omega
      by_cases c1 : x ≤ a
      · by_cases c2 : a ≤ y
        · have hT1 : T = true := by rw [← hin]; simp [c1, c2]
          rw [hT1]
          simp [h1, h5, w1, n1, p1, hc', hc, q1, q2, g0, ga', gx', gy', c1, c2, b2i]
        · have hin : insideW a (l.drop (i + 2)) = T := by rw [← hin]; simp [c1, c2]
          simp [h1, h5, w1, w2, n1, p1, hc', hc, q1, q2, g0, ga', gx', gy', c1, c2]
          exact ⟨_, by omega, i + 2, by omega, by omega, rfl, by omega, hin⟩
      · have hin : insideW a (l.drop (i + 2)) = T := by rw [← hin]; simp [c1]
        simp [h1, h5, w1, w2, n1, p1, hc', hc, q1, q2, g0, ga', gx', gy', c1]
        exact ⟨_, by omega, i + 2, by omega, by omega, rfl, by omega, hin⟩
    · have hc' : ¬ (i : Int) + 1 < l.length := by omega
      have hs : T = false := by rw [← hin]; exact insideW_short (by simp; omega)
      rw [hs]
      simp [h1, h5, w1, hc', b2i]
  · rcases ho c22 c23 with h | h
    · obtain ⟨a, rfl⟩ := list1 h
      rw [opW_1 c22 c23]
      simp [c22, c23]
      refine vcCall.call (runary287 op a) rfl ?_
      simp
    · obtain ⟨a, b, rfl⟩ := list2 h
      obtain ⟨a0, a1⟩ := hr a (by simp)
      obtain ⟨b0, b1⟩ := hr b (by simp)
      obtain ⟨x, rfl⟩ := Int.eq_ofNat_of_zero_le a0
      obtain ⟨y, rfl⟩ := Int.eq_ofNat_of_zero_le b0
      rw [opW_2 c22 c23]
      simp [c22, c23]
      refine vcCall.call (rbinary288 op x y (by omega) (by omega)) rfl ?_
      simp

/-- The value with the error, for the reference. -/
def valR (env : List Signal) (e : Ex) : AV := .tup [.int .i64 (if knownV env e = true then valV env e else 0), .int .i64 (if knownV env e = true then 0 else 7)]
set_option maxHeartbeats 1000000 in
theorem rvalue148 (env : List Signal) (hl : Fits env) : ∀ e, Wen e → NodesOk e → Pure Tryz.prog GG 148 [.agg (encE e), .sl 2 (env.map encSignal) .none] (valR env e) := by
  refine Ex.ind fun e ih hwe hn => ?_
  refine Pure.vc mixed Tryz.func148 rfl (by kernel_rfl) ?_
  have hfa := hwe.fits
  have hrg : ∀ v ∈ e.args.map (valV env), 0 ≤ v ∧ v ≤ 65535 := by
    intro v hv
    obtain ⟨a, ha, rfl⟩ := List.mem_map.1 hv
    exact valV_range env a (hn.arg ha)
  obtain ⟨k1, k2, k3, k4, k5, k6, k7, k8⟩ := nodeE_zero hn.self
  simp only [encE_eq e]
  simp
  refine vcLoop.intro (fun n ev σ => ∃ i, i ≤ e.args.length ∧ n = e.args.length - i ∧ ev 1 = .sl 2 (env.map encSignal) .none ∧ ev 2 = .ptr 0 0 ∧ ev 6 = outN ((e.args.map (valV env)).take i) ∧ ev 7 = .int .i64 i ∧ σ = ⟨[.cells (encE e)], outTN ((e.args.map (valV env)).take i)⟩ ∧ ∀ a ∈ e.args.take i, knownV env a = true) e.args.length ⟨0, by simp, by simp, by simp, by simp, by simp [outN], by simp, by simp [encE_eq e, outTN], by simp⟩ ?_
  rintro n ev σ ⟨i, hi, rfl, h1, h2, h6, h7, rfl, hz⟩
  cases hv : e.args[i]? with
  | some a =>
    obtain ⟨hc, hv'⟩ := List.getElem?_eq_some_iff.1 hv
    have hm := List.mem_of_getElem? hv
    have ht : (e.args.map (valV env)).take (i + 1) = (e.args.map (valV env)).take i ++ [valV env a] := by
      rw [List.take_add_one, List.getElem?_map, hv]; rfl
    have hlen : ((e.args.map (valV env)).take i).length ≤ e.args.length := by simp; omega
    generalize hR : (e.args.map (valV env)).take i = R at h6 ht hlen ⊢
    have ih := ih a hm (hwe.arg hm) (hn.arg hm)
    simp [h1, h2, h6, h7, hc, hv', encE_eq e, encE_eq a]
    rw [← encE_eq a]
    refine vcCall.call ih (by simp) ?_
    cases hk : knownV env a
    · have x : knownV env e = false := by
        rw [knownV_eq, all_bad hm hk, Bool.and_false]
      simp [valR, hk, x]
    · have hz' := take_succ_all (p := fun a => knownV env a = true) hv hz hk
      cases R with
      | nil =>
        simp only [outN] at h6
        simp [valR, hk, outN, outTN, appendA, buildSliceA, rowsFill, rowsOf, h1, h2, h6, h7]
        exact ⟨_, by omega, i + 1, by omega, rfl, by rw [ht]; simp [outN], wr (by omega) (by omega), by rw [ht]; simp [outTN], hz'⟩
      | cons b r =>
        have hb : r.length ≤ 1073741822 := by have := args_le hn; simp at hlen; omega
        simp only [outN] at h6
        simp [valR, hk, outN, outTN, appendA, buildSliceA, rowsFill, rowsOf, hb, h1, h2, h6, h7]
        exact ⟨_, by omega, i + 1, by omega, rfl, by rw [ht]; simp [outN], wr (by omega) (by omega), by rw [ht]; simp [outTN], hz'⟩
  | none =>
    have hle : e.args.length ≤ i := by simpa using hv
    have hc : ¬ i < e.args.length := by omega
    rw [List.take_of_length_le (by simp; omega)] at h6 ⊢
    have hall : e.args.all (knownV env) = true := all_take' hle hz
    have hkn : knownV env e = askV env e := by rw [knownV_eq, hall, Bool.and_true]
    unfold valR
    rw [hkn, valV_eq]
    have hleaf := rleaf225 env hl e (e.args.map (valV env))
    generalize hR : e.args.map (valV env) = R at h6 hrg hleaf ⊢
    have hRl : R.length = e.args.length := by rw [← hR]; simp
    simp [h1, h2, h6, h7, hc, encE_eq e]
    refine vcCall.call (rasks224 e.op) (by simp) ?_
    cases hask : asksS e.op
    · have hne : e.op ≠ 1 ∧ e.op ≠ 2 ∧ e.op ≠ 3 ∧ e.op ≠ 24 := by
        simp only [asksS, namedS, Bool.or_eq_false_iff, decide_eq_false_iff_not] at hask
        omega
      obtain ⟨c1, c2, c3, c24⟩ := hne
      have x1 : askV env e = true := by rw [askV_eq, if_neg c2, if_neg (by omega)]
      have x2 : nodeV env e.op e.n e.name R = opW e.op R := by unfold nodeV; rw [if_neg c1, if_neg c2, if_neg c3, if_neg c24]
      rw [x1, x2]
      simp [h1, h2, h6, h7]
      refine vcCall.outN2 (by simp) (roperate226 e.op R hrg (fun c => ?_) (fun c => ?_) (fun c22 c23 => ?_)) ?_
      · rw [hRl]; exact args_of hn (n := 3) (by omega) (by rw [c]; decide)
      · rw [hRl]; have := operands_in k5 c; omega
      · rw [hRl]; exact op_args hn c1 c2 c3 c24 c22 c23
      · simp
    · have hleaf := hleaf (fun c => by have := name_len (k7 c); omega) (fun c e0 => by
        have := args_of hn (n := 1) (by omega) (by rw [c]; decide)
        rw [e0] at hRl; simp at hRl; omega) hask
      simp [h1, h2, h6, h7, encE_eq e]
      rw [← encE_eq e]
      refine vcCall.outN3 (by simp) (by simp) hleaf ?_
      simp
theorem reval86 (env : List Signal) (hl : Fits env) (e : Ex) (hwe : Wen e) (hh : hgt e ≤ 1000) (hsz : (pre e).length ≤ 100000) : Pure Tryz.prog GG 86 [.agg (encE e), .sl 2 (env.map encSignal) .none] (.tup [.int .i64 (evalV env e), .int .i64 (evalE env e)]) := by
  refine Pure.vc mixed Tryz.func86 rfl (by kernel_rfl) ?_
  have hva := valid92 e hwe hh hsz
  have hE : evalE env e = if validE e ≠ 0 then 1 else if knownV env e = true then 0 else 7 := rfl
  have hV : evalV env e = if validE e = 0 ∧ knownV env e = true then valV env e else 0 := rfl
  simp only [encE_eq e]
  simp
  rw [← encE_eq e]
  refine vcCall.call hva (by simp) ?_
  by_cases h0 : validE e = 0
  · have hn := validE_nodes h0
    have hval := rvalue148 env hl e hwe hn
    have e1 : valR env e = .tup [.int .i64 (evalV env e), .int .i64 (evalE env e)] := by
      rw [hE, hV]
      unfold valR
      simp [h0]
    rw [e1] at hval
    simp [h0, encE_eq e]
    rw [← encE_eq e]
    refine vcCall.call hval (by simp) ?_
    simp
  · have e1 : evalE env e = 1 := by rw [hE]; simp [h0]
    have e2 : evalV env e = 0 := by rw [hV]; simp [h0]
    rw [e1, e2]
    simp [h0]
end Go.Proofs.YtpgcmnabljandaaGreatDoor
end
