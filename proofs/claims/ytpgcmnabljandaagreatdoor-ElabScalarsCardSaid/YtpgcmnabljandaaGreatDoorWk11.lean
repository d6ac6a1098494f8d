/- A part of the proof: texts Walk12. -/
import Derived.Test.YtpgcmnabljandaaGreatDoorWk10

/-
  Walks: the error of a node.
-/
set_option linter.unusedVariables false
set_option linter.unusedSimpArgs false
set_option maxRecDepth 100000
namespace Go.Proofs.YtpgcmnabljandaaGreatDoor
open Go Go.Abs

set_option maxHeartbeats 8000000 in
theorem node151 (e : Ex) (hs : Fits e.name) : Pure Tryz.prog GG 151 [.agg (encE e)] (.int .i64 (nodeE e)) := by
  refine Pure.vc mixed Tryz.func151 rfl (by kernel_rfl) ?_
  have hop := operands228 e
  have hvar := isVar229 e.name hs
  have hnam := isName168 e.name
  rw [encE_eq] at hop ⊢
  obtain ⟨op, n, s, a⟩ := e
  simp only [Ex.op_mk, Ex.n_mk, Ex.name_mk, Ex.args_mk] at hop hvar hnam hs ⊢
  by_cases c1 : op < 1
  · have x : nodeE (.mk op n s a) = 1 := by simp [nodeE, c1]
    have o2 : ¬ op = 2 := by omega
    have o3 : ¬ op = 3 := by omega
    have o24 : ¬ op = 24 := by omega
    rw [x]
    simp [c1, o2, o3, o24]
  by_cases c2 : 25 < op
  · have x : nodeE (.mk op n s a) = 1 := by simp [nodeE, c2]
    have o2 : ¬ op = 2 := by omega
    have o3 : ¬ op = 3 := by omega
    have o24 : ¬ op = 24 := by omega
    rw [x]
    simp [c1, c2, o2, o3, o24]
  by_cases o1 : op = 1
  · subst o1
    by_cases n1 : n < 0
    · have x : nodeE (.mk 1 n s a) = 1 := by simp [nodeE, n1]
      rw [x]
      simp [n1]
    by_cases n2 : 65535 < n
    · have x : nodeE (.mk 1 n s a) = 1 := by simp [nodeE, n2]
      rw [x]
      simp [n1, n2]
    by_cases hnm : s = []
    · subst hnm
      simp [n1, n2]
      refine vcCall.call hop (by simp) ?_
      cases ho : operandsS (.mk 1 n [] a)
      · have x : nodeE (.mk 1 n [] a) = 1 := by simp [nodeE, ho]
        rw [x]
        simp
      · have x : nodeE (.mk 1 n [] a) = 0 := by simp [nodeE, ho]; omega
        rw [x]
        simp
    · have x : nodeE (.mk 1 n s a) = 1 := by simp [nodeE, hnm]
      have hie : s.isEmpty = false := by simpa using hnm
      have hnb : (s == []) = false := by simpa using hnm
      rw [x]
      simp [n1, n2, hnm, hie, hnb]
  by_cases n0 : n = 0
  · subst n0
    by_cases o2 : op = 2
    · subst o2
      simp
      refine vcCall.call hop (by simp) ?_
      cases ho : operandsS (.mk 2 0 s a)
      · have x : nodeE (.mk 2 0 s a) = 1 := by simp [nodeE, ho]
        rw [x]
        simp
      · simp
        refine vcCall.call hvar (by simp) ?_
        cases hv : varS s
        · have x : nodeE (.mk 2 0 s a) = 7 := by simp [nodeE, ho, hv]
          rw [x]
          simp
        · have x : nodeE (.mk 2 0 s a) = 0 := by simp [nodeE, ho, hv]
          rw [x]
          simp
    by_cases o3 : op = 3
    · subst o3
      simp
      refine vcCall.call hop (by simp) ?_
      cases ho : operandsS (.mk 3 0 s a)
      · have x : nodeE (.mk 3 0 s a) = 1 := by simp [nodeE, ho]
        rw [x]
        simp
      · simp
        refine vcCall.call hnam (by simp) ?_
        cases hv : nameS s
        · have x : nodeE (.mk 3 0 s a) = 7 := by simp [nodeE, ho, hv]
          rw [x]
          simp
        · have x : nodeE (.mk 3 0 s a) = 0 := by simp [nodeE, ho, hv]
          rw [x]
          simp
    by_cases o24 : op = 24
    · subst o24
      simp
      refine vcCall.call hop (by simp) ?_
      cases ho : operandsS (.mk 24 0 s a)
      · have x : nodeE (.mk 24 0 s a) = 1 := by simp [nodeE, ho]
        rw [x]
        simp
      · simp
        refine vcCall.call hnam (by simp) ?_
        cases hv : nameS s
        · have x : nodeE (.mk 24 0 s a) = 7 := by simp [nodeE, ho, hv]
          rw [x]
          simp
        · have x : nodeE (.mk 24 0 s a) = 0 := by simp [nodeE, ho, hv]
          rw [x]
          simp
    have b1 : (op == 1) = false := by simpa using o1
    have b1' : (op != 1) = true := by simpa using o1
    have b2 : (op == 2) = false := by simpa using o2
    have b3 : (op == 3) = false := by simpa using o3
    have b24 : (op == 24) = false := by simpa using o24
    by_cases hnm : s = []
    · subst hnm
      simp [c1, c2, o1, o2, o3, o24, b1, b1', b2, b3, b24]
      refine vcCall.call hop (by simp) ?_
      cases ho : operandsS (.mk op 0 [] a)
      · have x : nodeE (.mk op 0 [] a) = 1 := by simp [nodeE, ho]
        rw [x]
        simp
      · have x : nodeE (.mk op 0 [] a) = 0 := by simp [nodeE, ho, c1, c2, o1, o2, o3, o24]
        rw [x]
        simp [o2, o3, o24, b2, b3, b24]
    · have hie : s.isEmpty = false := by simpa using hnm
      have x : nodeE (.mk op 0 s a) = 1 := by simp [nodeE, c1, c2, o1, o2, o3, o24, hnm]
      rw [x]
      simp [c1, c2, o1, o2, o3, o24, b1, b1', b2, b3, b24, hnm, hie]
  · have x : nodeE (.mk op n s a) = 1 := by simp [nodeE, o1, n0]
    rw [x]
    by_cases o2 : op = 2
    · subst o2; simp [n0]
    by_cases o3 : op = 3
    · subst o3; simp [n0]
    by_cases o24 : op = 24
    · subst o24; simp [n0]
    have b1 : (op == 1) = false := by simpa using o1
    have b1' : (op != 1) = true := by simpa using o1
    have b2 : (op == 2) = false := by simpa using o2
    have b3 : (op == 3) = false := by simpa using o3
    have b24 : (op == 24) = false := by simpa using o24
    have bn : (n != 0) = true := by simpa using n0
    simp [c1, c2, o1, o2, o3, o24, n0, b1, b1', b2, b3, b24, bn]
end Go.Proofs.YtpgcmnabljandaaGreatDoor
