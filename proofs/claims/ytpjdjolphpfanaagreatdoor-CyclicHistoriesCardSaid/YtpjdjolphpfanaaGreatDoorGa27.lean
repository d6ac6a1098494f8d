/- A part of the proof. -/
import Derived.Test.YtpjdjolphpfanaaGreatDoorGa20
import Derived.Test.YtpjdjolphpfanaaGreatDoorGa16
set_option linter.unusedVariables false
set_option linter.unusedSimpArgs false
set_option maxRecDepth 100000
set_option linter.defProp false
section
namespace Go.Proofs.YtpjdjolphpfanaaGreatDoor
open Go Go.Abs
def namedS (op : Int) : Bool := decide (op = 2 ∨ op = 3 ∨ op = 24)
theorem named282 (op : Int) : Pure Tryz.prog GG 147 [.int .i64 op] (.bool (namedS op)) := by
  refine Pure.vc mixed Tryz.func147 rfl (by kernel_rfl) ?_
  by_cases o2 : op = 2
  · subst o2; simp [namedS]
  by_cases o3 : op = 3
  · subst o3; simp [namedS]
  by_cases o24 : op = 24
  · subst o24; simp [namedS]
  simp [namedS, o2, o3, o24]

theorem arity346 (op : Int) (h1 : ¬ op < 1) (h2 : ¬ 25 < op) : Pure Tryz.prog GG 148 [.int .i64 op] (.int .i64 (arityS op)) := by
  refine Pure.k mixed Tryz.func148 rfl (by kernel_rfl) ?_
  have : op = 1 ∨ op = 2 ∨ op = 3 ∨ op = 4 ∨ op = 5 ∨ op = 6 ∨ op = 7 ∨ op = 8 ∨ op = 9 ∨ op = 10 ∨ op = 11 ∨ op = 12 ∨ op = 13 ∨ op = 14 ∨ op = 15 ∨ op = 16 ∨ op = 17 ∨ op = 18 ∨ op = 19 ∨ op = 20 ∨ op = 21 ∨ op = 22 ∨ op = 23 ∨ op = 24 ∨ op = 25 := by omega
  rcases this with rfl | rfl | rfl | rfl | rfl | rfl | rfl | rfl | rfl | rfl | rfl | rfl | rfl | rfl | rfl | rfl | rfl | rfl | rfl | rfl | rfl | rfl | rfl | rfl | rfl <;> simp [arityS]


set_option maxHeartbeats 20000000 in
theorem wrong291 (e : Ex) (hs : Fits e.name) : Pure Tryz.prog GG 113 [.agg (encE e)] (.int .i64 (nodeE e)) := by
  refine Pure.vc mixed Tryz.func113 rfl (by kernel_rfl) ?_
  have hvar := isVar347 e.name hs
  have hnam := isName210 e.name hs
  have hnd := named282 e.op
  rw [encE_eq]
  obtain ⟨op, n, s, a⟩ := e
  simp only [Ex.op_mk, Ex.n_mk, Ex.name_mk, Ex.args_mk] at hnd hvar hnam hs ⊢
  have ht : (a.length : Int).tmod 2 = ((a.length % 2 : Nat) : Int) := rfl
  by_cases c1 : op < 1
  · have x : nodeE (.mk op n s a) = 1 := by simp [nodeE, c1]
    rw [x]
    simp [c1]
  by_cases c2 : 25 < op
  · have x : nodeE (.mk op n s a) = 1 := by simp [nodeE, c2]
    rw [x]
    simp [c1, c2]
  have har := arity346 op c1 c2
  by_cases n1 : n < 0
  · have x : nodeE (.mk op n s a) = 1 := by
      by_cases o1 : op = 1
      · simp [nodeE, o1, n1]
      · simp [nodeE, c1, c2, o1, show ¬ n = 0 by omega]
    rw [x]
    simp [c1, c2, n1]
  by_cases n2 : 65535 < n
  · have x : nodeE (.mk op n s a) = 1 := by
      by_cases o1 : op = 1
      · simp [nodeE, o1, n2]
      · simp [nodeE, c1, c2, o1, show ¬ n = 0 by omega]
    rw [x]
    simp [c1, c2, n1, n2]
  by_cases hnm : s = []
  · subst hnm
    by_cases o1 : op = 1
    · subst o1
      by_cases n0 : n = 0
      · subst n0
        simp []
        refine vcCall.call har (by simp) ?_
        by_cases hl : (a.length : Int) = arityS 1
        rotate_left
        · have ho : operandsS (.mk 1 0 [] a) = false := by simp [operandsS, hl]
          have x : nodeE (.mk 1 0 [] a) = 1 := by simp [nodeE, ho]
          rw [x]
          simp [hl]
        have ho : operandsS (.mk 1 0 [] a) = true := by simp [operandsS, hl]
        simp [hl]
        refine vcCall.call hnd (by simp) ?_
        have hndf : namedS 1 = false := by simp [namedS]
        have x : nodeE (.mk 1 0 [] a) = 0 := by (simp [nodeE, ho] <;> omega)
        rw [x, hndf]
        simp
      · skip
        simp [n0, n1, n2]
        refine vcCall.call har (by simp) ?_
        by_cases hl : (a.length : Int) = arityS 1
        rotate_left
        · have ho : operandsS (.mk 1 n [] a) = false := by simp [operandsS, hl]
          have x : nodeE (.mk 1 n [] a) = 1 := by simp [nodeE, ho]
          rw [x]
          simp [hl]
        have ho : operandsS (.mk 1 n [] a) = true := by simp [operandsS, hl]
        simp [hl]
        refine vcCall.call hnd (by simp) ?_
        have hndf : namedS 1 = false := by simp [namedS]
        have x : nodeE (.mk 1 n [] a) = 0 := by (simp [nodeE, ho] <;> omega)
        rw [x, hndf]
        simp
    by_cases n0 : n = 0
    rotate_left
    · have x : nodeE (.mk op n [] a) = 1 := by simp [nodeE, o1, n0]
      rw [x]
      have b1 : (op == 1) = false := by simpa using o1
      have b1' : (op != 1) = true := by simpa using o1
      have bn : (n != 0) = true := by simpa using n0
      simp [c1, c2, n1, n2, n0, o1, b1, b1', bn]
    subst n0
    by_cases o2 : op = 2
    · subst o2
      simp []
      refine vcCall.call har (by simp) ?_
      by_cases hl : (a.length : Int) = arityS 2
      rotate_left
      · have ho : operandsS (.mk 2 0 [] a) = false := by simp [operandsS, hl]
        have x : nodeE (.mk 2 0 [] a) = 1 := by simp [nodeE, ho]
        rw [x]
        simp [hl]
      have ho : operandsS (.mk 2 0 [] a) = true := by simp [operandsS, hl]
      simp [hl]
      refine vcCall.call hvar (by simp) ?_
      cases hv : varS []
      · have x : nodeE (.mk 2 0 [] a) = 7 := by simp [nodeE, ho, hv]
        rw [x]
        simp
      · have x : nodeE (.mk 2 0 [] a) = 0 := by simp [nodeE, ho, hv]
        rw [x]
        simp
        refine vcCall.call hnd (by simp) ?_
        simp [namedS]
    by_cases o3 : op = 3
    · subst o3
      simp []
      refine vcCall.call har (by simp) ?_
      by_cases hl : (a.length : Int) = arityS 3
      rotate_left
      · have ho : operandsS (.mk 3 0 [] a) = false := by simp [operandsS, hl]
        have x : nodeE (.mk 3 0 [] a) = 1 := by simp [nodeE, ho]
        rw [x]
        simp [hl]
      have ho : operandsS (.mk 3 0 [] a) = true := by simp [operandsS, hl]
      simp [hl]
      refine vcCall.call hnd (by simp) ?_
      simp [namedS]
      refine vcCall.call hnam (by simp) ?_
      cases hv : nameS []
      · have x : nodeE (.mk 3 0 [] a) = 7 := by simp [nodeE, ho, hv]
        rw [x]
        simp
      · have x : nodeE (.mk 3 0 [] a) = 0 := by simp [nodeE, ho, hv]
        rw [x]
        simp
    by_cases o24 : op = 24
    · subst o24
      simp []
      refine vcCall.call har (by simp) ?_
      by_cases hl : (a.length : Int) = arityS 24
      rotate_left
      · have ho : operandsS (.mk 24 0 [] a) = false := by simp [operandsS, hl]
        have x : nodeE (.mk 24 0 [] a) = 1 := by simp [nodeE, ho]
        rw [x]
        simp [hl]
      have ho : operandsS (.mk 24 0 [] a) = true := by simp [operandsS, hl]
      simp [hl]
      refine vcCall.call hnd (by simp) ?_
      simp [namedS]
      refine vcCall.call hnam (by simp) ?_
      cases hv : nameS []
      · have x : nodeE (.mk 24 0 [] a) = 7 := by simp [nodeE, ho, hv]
        rw [x]
        simp
      · have x : nodeE (.mk 24 0 [] a) = 0 := by simp [nodeE, ho, hv]
        rw [x]
        simp
    by_cases o23 : op = 23
    · subst o23
      by_cases l1 : a.length < 3
      · have l1' : (a.length : Int) < 3 := by omega
        have l1'' : ¬ (3 : Int) ≤ a.length := by omega
        have ho : operandsS (.mk 23 0 [] a) = false := by show decide (a.length % 2 = 1 ∧ 3 ≤ a.length ∧ a.length ≤ 33) = false; exact decide_eq_false (by omega)
        have x : nodeE (.mk 23 0 [] a) = 1 := by simp [nodeE, ho]
        rw [x]
        simp [l1', l1'']
      have l1' : ¬ (a.length : Int) < 3 := by omega
      have l1'' : (3 : Int) ≤ a.length := by omega
      by_cases l2 : 33 < a.length
      · have l2' : (33 : Int) < a.length := by omega
        have l2'' : ¬ (a.length : Int) ≤ 33 := by omega
        have ho : operandsS (.mk 23 0 [] a) = false := by show decide (a.length % 2 = 1 ∧ 3 ≤ a.length ∧ a.length ≤ 33) = false; exact decide_eq_false (by omega)
        have x : nodeE (.mk 23 0 [] a) = 1 := by simp [nodeE, ho]
        rw [x]
        simp [l1', l1'', l2', l2'']
      have l2' : ¬ (33 : Int) < a.length := by omega
      have l2'' : (a.length : Int) ≤ 33 := by omega
      by_cases l3 : a.length % 2 = 0
      · have l3' : (a.length : Int) % 2 = 0 := by omega
        have l4 : (a.length : Int).tmod 2 = 0 := by rw [ht]; omega
        have ho : operandsS (.mk 23 0 [] a) = false := by show decide (a.length % 2 = 1 ∧ 3 ≤ a.length ∧ a.length ≤ 33) = false; exact decide_eq_false (by omega)
        have x : nodeE (.mk 23 0 [] a) = 1 := by simp [nodeE, ho]
        rw [x]
        simp [l1', l1'', l2', l2'', l3', l4]
      have l3' : ¬ (a.length : Int) % 2 = 0 := by omega
      have l4 : ¬ (a.length : Int).tmod 2 = 0 := by rw [ht]; omega
      have ho : operandsS (.mk 23 0 [] a) = true := by show decide (a.length % 2 = 1 ∧ 3 ≤ a.length ∧ a.length ≤ 33) = true; exact decide_eq_true (by omega)
      simp [l1', l1'', l2', l2'', l3', l4]
      refine vcCall.call hnd (by simp) ?_
      have hndf : namedS 23 = false := by simp [namedS]
      have x : nodeE (.mk 23 0 [] a) = 0 := by simp [nodeE, ho, c1, c2]
      rw [x, hndf]
      simp
    have b1 : (op == 1) = false := by simpa using o1
    have b1' : (op != 1) = true := by simpa using o1
    have b2 : (op == 2) = false := by simpa using o2
    have b2' : (op != 2) = true := by simpa using o2
    have b3 : (op == 3) = false := by simpa using o3
    have b3' : (op != 3) = true := by simpa using o3
    have b24 : (op == 24) = false := by simpa using o24
    have b24' : (op != 24) = true := by simpa using o24
    have b23 : (op == 23) = false := by simpa using o23
    have b23' : (op != 23) = true := by simpa using o23
    simp [c1, c2, o1, o2, o3, o24, o23, b1, b2, b3, b24, b23, b1', b2', b3', b24', b23']
    refine vcCall.call har (by simp) ?_
    by_cases hl : (a.length : Int) = arityS op
    rotate_left
    · have ho : operandsS (.mk op 0 [] a) = false := by simp [operandsS, hl, o1, o2, o3, o24, o23]
      have x : nodeE (.mk op 0 [] a) = 1 := by simp [nodeE, ho]
      rw [x]
      simp [hl]
    have ho : operandsS (.mk op 0 [] a) = true := by simp [operandsS, hl, o1, o2, o3, o24, o23]
    simp [hl, o1, o2, o3, o24, o23]
    refine vcCall.call hnd (by simp) ?_
    have hndf : namedS op = false := by simp [namedS, o1, o2, o3, o24, o23]
    have x : nodeE (.mk op 0 [] a) = 0 := by simp [nodeE, ho, c1, c2, o1, o2, o3, o24, o23]
    rw [x, hndf]
    simp
  · have hie : s.isEmpty = false := by simpa using hnm
    by_cases o1 : op = 1
    · subst o1
      have x : nodeE (.mk 1 n s a) = 1 := by simp [nodeE, hnm]
      rw [x]
      by_cases n0 : n = 0
      · subst n0
        simp [n1, n2, hnm, hie]
        refine vcCall.call hnd (by simp) ?_
        simp [namedS]
      · skip
        simp [n1, n2, hnm, hie, n0]
        refine vcCall.call hnd (by simp) ?_
        simp [namedS]
    by_cases n0 : n = 0
    rotate_left
    · have x : nodeE (.mk op n s a) = 1 := by simp [nodeE, o1, n0]
      rw [x]
      have b1 : (op == 1) = false := by simpa using o1
      have b1' : (op != 1) = true := by simpa using o1
      have bn : (n != 0) = true := by simpa using n0
      simp [c1, c2, n1, n2, n0, o1, b1, b1', bn]
    subst n0
    by_cases o2 : op = 2
    · subst o2
      simp [hnm, hie]
      refine vcCall.call hnd (by simp) ?_
      simp [namedS]
      refine vcCall.call har (by simp) ?_
      by_cases hl : (a.length : Int) = arityS 2
      rotate_left
      · have ho : operandsS (.mk 2 0 s a) = false := by simp [operandsS, hl]
        have x : nodeE (.mk 2 0 s a) = 1 := by simp [nodeE, ho]
        rw [x]
        simp [hl]
      have ho : operandsS (.mk 2 0 s a) = true := by simp [operandsS, hl]
      simp [hl]
      refine vcCall.call hvar (by simp) ?_
      cases hv : varS s
      · have x : nodeE (.mk 2 0 s a) = 7 := by simp [nodeE, ho, hv]
        rw [x]
        simp
      · have x : nodeE (.mk 2 0 s a) = 0 := by simp [nodeE, ho, hv]
        rw [x]
        simp
        refine vcCall.call hnd (by simp) ?_
        simp [namedS]
    by_cases o3 : op = 3
    · subst o3
      simp [hnm, hie]
      refine vcCall.call hnd (by simp) ?_
      simp [namedS]
      refine vcCall.call har (by simp) ?_
      by_cases hl : (a.length : Int) = arityS 3
      rotate_left
      · have ho : operandsS (.mk 3 0 s a) = false := by simp [operandsS, hl]
        have x : nodeE (.mk 3 0 s a) = 1 := by simp [nodeE, ho]
        rw [x]
        simp [hl]
      have ho : operandsS (.mk 3 0 s a) = true := by simp [operandsS, hl]
      simp [hl]
      refine vcCall.call hnd (by simp) ?_
      simp [namedS]
      refine vcCall.call hnam (by simp) ?_
      cases hv : nameS s
      · have x : nodeE (.mk 3 0 s a) = 7 := by simp [nodeE, ho, hv]
        rw [x]
        simp
      · have x : nodeE (.mk 3 0 s a) = 0 := by simp [nodeE, ho, hv]
        rw [x]
        simp
    by_cases o24 : op = 24
    · subst o24
      simp [hnm, hie]
      refine vcCall.call hnd (by simp) ?_
      simp [namedS]
      refine vcCall.call har (by simp) ?_
      by_cases hl : (a.length : Int) = arityS 24
      rotate_left
      · have ho : operandsS (.mk 24 0 s a) = false := by simp [operandsS, hl]
        have x : nodeE (.mk 24 0 s a) = 1 := by simp [nodeE, ho]
        rw [x]
        simp [hl]
      have ho : operandsS (.mk 24 0 s a) = true := by simp [operandsS, hl]
      simp [hl]
      refine vcCall.call hnd (by simp) ?_
      simp [namedS]
      refine vcCall.call hnam (by simp) ?_
      cases hv : nameS s
      · have x : nodeE (.mk 24 0 s a) = 7 := by simp [nodeE, ho, hv]
        rw [x]
        simp
      · have x : nodeE (.mk 24 0 s a) = 0 := by simp [nodeE, ho, hv]
        rw [x]
        simp
    by_cases o23 : op = 23
    · subst o23
      have x : nodeE (.mk 23 0 s a) = 1 := by simp [nodeE, hnm]
      rw [x]
      simp [hnm, hie]
      refine vcCall.call hnd (by simp) ?_
      simp [namedS]
    have b1 : (op == 1) = false := by simpa using o1
    have b1' : (op != 1) = true := by simpa using o1
    have b2 : (op == 2) = false := by simpa using o2
    have b2' : (op != 2) = true := by simpa using o2
    have b3 : (op == 3) = false := by simpa using o3
    have b3' : (op != 3) = true := by simpa using o3
    have b24 : (op == 24) = false := by simpa using o24
    have b24' : (op != 24) = true := by simpa using o24
    have b23 : (op == 23) = false := by simpa using o23
    have b23' : (op != 23) = true := by simpa using o23
    have x : nodeE (.mk op 0 s a) = 1 := by simp [nodeE, c1, c2, o1, o2, o3, o24, o23, hnm]
    rw [x]
    simp [c1, c2, o1, o2, o3, o24, o23, b1, b2, b3, b24, b23, b1', b2', b3', b24', b23', hnm, hie]
    refine vcCall.call hnd (by simp) ?_
    simp [namedS, o2, o3, o24]
end Go.Proofs.YtpjdjolphpfanaaGreatDoor
end
