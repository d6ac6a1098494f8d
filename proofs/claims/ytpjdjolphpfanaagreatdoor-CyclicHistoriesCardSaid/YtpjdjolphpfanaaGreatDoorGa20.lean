/- A part of the proof. -/
import Derived.Test.YtpjdjolphpfanaaGreatDoorGa15
set_option linter.unusedVariables false
set_option linter.unusedSimpArgs false
set_option maxRecDepth 100000
set_option linter.defProp false
section
namespace Go.Proofs.YtpjdjolphpfanaaGreatDoor
open Go Go.Abs

set_option maxHeartbeats 4000000 in
theorem arity289 (op : Int) : Pure Tryz.prog GG 183 [.int .i64 op] (.int .i64 (arityS op)) := by
  refine Pure.vc mixed Tryz.func183 rfl (by kernel_rfl) ?_
  by_cases o1 : op = 1
  · subst o1; simp [arityS]
  by_cases o2 : op = 2
  · subst o2; simp [arityS]
  by_cases o24 : op = 24
  · subst o24; simp [arityS]
  by_cases o3 : op = 3
  · subst o3; simp [arityS]
  by_cases o4 : op = 4
  · subst o4; simp [arityS]
  by_cases o5 : op = 5
  · subst o5; simp [arityS]
  by_cases o6 : op = 6
  · subst o6; simp [arityS]
  by_cases o25 : op = 25
  · subst o25; simp [arityS]
  by_cases o22 : op = 22
  · subst o22; simp [arityS]
  by_cases o23 : op = 23
  · subst o23; simp [arityS]
  by_cases c1 : op < 1
  · have e : arityS op = -1 := by simp [arityS, o1, o2, o24, o3, o4, o5, o6, o25, o22, o23, c1]
    rw [e]
    simp [o1, o2, o24, o3, o4, o5, o6, o25, o22, o23, c1]
  by_cases c2 : 25 < op
  · have e : arityS op = -1 := by simp [arityS, o1, o2, o24, o3, o4, o5, o6, o25, o22, o23, c2]
    rw [e]
    simp [o1, o2, o24, o3, o4, o5, o6, o25, o22, o23, c1, c2]
  have e : arityS op = 2 := by simp [arityS, o1, o2, o24, o3, o4, o5, o6, o25, o22, o23, c1, c2]
  rw [e]
  simp [o1, o2, o24, o3, o4, o5, o6, o25, o22, o23, c1, c2]

theorem operands228 (e : Ex) : Pure Tryz.prog GG 141 [.agg (encE e)] (.bool (operandsS e)) := by
  refine Pure.vc mixed Tryz.func141 rfl (by kernel_rfl) ?_
  have ht : (e.args.length : Int).tmod 2 = ((e.args.length % 2 : Nat) : Int) := rfl
  by_cases o23 : e.op = 23
  · by_cases c1 : e.args.length % 2 = 1
    · have c1' : ((e.args.length % 2 : Nat) : Int) = 1 := by omega
      by_cases c2 : 3 ≤ e.args.length
      · have c2' : (3 : Int) ≤ e.args.length := by omega
        by_cases c3 : e.args.length ≤ 33
        · have c3' : (e.args.length : Int) ≤ 33 := by omega
          have x : operandsS e = true := by simp [operandsS, o23, c1, c2, c3]
          rw [x]
          simp only [encE_eq, o23]
          simp [ht, c1', c2', c3']
        · have c3' : ¬ (e.args.length : Int) ≤ 33 := by omega
          have x : operandsS e = false := by simp [operandsS, o23, c3]
          rw [x]
          simp only [encE_eq, o23]
          simp [ht, c1', c2', c3']
      · have c2' : ¬ (3 : Int) ≤ e.args.length := by omega
        have x : operandsS e = false := by simp [operandsS, o23, c2]
        rw [x]
        simp only [encE_eq, o23]
        simp [ht, c1', c2']
    · have c1' : ¬ ((e.args.length % 2 : Nat) : Int) = 1 := by omega
      have c1'' : ¬ (e.args.length : Int) % 2 = 1 := by omega
      have x : operandsS e = false := by simp [operandsS, o23, c1]
      rw [x]
      simp only [encE_eq, o23]
      simp [ht, c1', c1'']
  · have x : operandsS e = decide ((e.args.length : Int) = arityS e.op) := by simp [operandsS, o23]
    rw [x]
    simp only [encE_eq]
    simp [o23]
    refine vcCall.call (arity289 e.op) (by simp) ?_
    simp
    try (rw [Bool.eq_iff_iff]; simp)
end Go.Proofs.YtpjdjolphpfanaaGreatDoor
end
