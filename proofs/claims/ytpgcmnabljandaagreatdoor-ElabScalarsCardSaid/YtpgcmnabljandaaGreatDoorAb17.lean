/- A part of the proof: texts AbsLook. -/
import Derived.Test.YtpgcmnabljandaaGreatDoorAb15
import Derived.Test.YtpgcmnabljandaaGreatDoorAb16
import Derived.Test.YtpgcmnabljandaaGreatDoorAb14

/-
  How the functions that works() reaches are looked at; calls on closed arguments. Printed by a program.
-/
set_option linter.unusedVariables false
set_option maxRecDepth 100000
namespace Go.Proofs.YtpgcmnabljandaaGreatDoor
open Go Go.Abs
def pickB {α : Type} (b : Bool) (x y : α) : α := match b with
  | true => x
  | false => y
theorem pickB_cases {α : Type} {p : α → Prop} {b : Bool} {x y : α} (hx : b = true → p x) (hy : p y) : p (pickB b x y) := by
  cases b
  · exact hy
  · exact hx rfl
def looks (g : Nat) : Look :=
  pickB (Nat.beq g 12) ⟨⟨false, [(10, .step 0 [8, 6, 5] (.step 1 [8, 6, 5, 3, 2] (.step 2 [8, 6, 5, 3] (.step 3 [8, 6, 5] (.fork (.cons 4 (.step 5 [8, 6] (.fork (.cons 6 (.step 7 [8] (.step 8 [] (.done))) (.cons 7 (.step 6 [8] (.step 8 [] (.done))) (.nil))))) (.cons 7 (.step 4 [8, 6, 5] (.step 5 [8, 6] (.step 6 [8] (.step 8 [] (.done))))) (.nil))))))), [])], [], []⟩, false⟩ <|
  pickB (Nat.beq g 55) ⟨⟨false, [(1, .step 0 [7, 6] (.step 1 [7, 6] (.step 2 [7, 6, 5, 4, 3] (.step 3 [7, 6, 5, 4] (.step 4 [7, 6, 5] (.step 5 [7, 6] (.step 6 [7] (.step 7 [] (.done)))))))), [6])], [], []⟩, false⟩ <|
  pickB (Nat.beq g 56) ⟨⟨true, [(8, .step 0 [11, 10, 9, 8, 7, 5, 2, 1] (.step 1 [11, 10, 9, 8, 7, 5, 2] (.step 2 [11, 10, 9, 8, 7, 5] (.step 3 [11, 10, 9, 8, 7, 4] (.step 4 [11, 10, 9, 8, 7] (.step 5 [11, 10, 9, 8, 7] (.step 6 [11, 10, 9, 8, 7] (.step 7 [11, 10, 9, 8] (.step 8 [9] (.step 10 [11] (.fork (.cons 9 (.step 11 [] (.done)) (.cons 11 (.step 9 [] (.done)) (.nil))))))))))))), [])], [], []⟩, true⟩ <|
  pickB (Nat.beq g 57) ⟨⟨false, [(1, .step 0 [7, 6] (.step 1 [7, 6] (.step 2 [7, 6, 5, 4, 3] (.step 3 [7, 6, 5, 4] (.step 4 [7, 6, 5] (.step 5 [7, 6] (.step 6 [7] (.step 7 [] (.done)))))))), [6])], [], []⟩, false⟩ <|
  pickB (Nat.beq g 60) ⟨⟨false, [], [], [(191, 4)]⟩, true⟩ <|
  pickB (Nat.beq g 103) ⟨⟨false, [], [], []⟩, true⟩ <|
  pickB (Nat.beq g 121) ⟨⟨false, [], [], []⟩, true⟩ <|
  pickB (Nat.beq g 127) ⟨⟨true, [], [], []⟩, false⟩ <|
  pickB (Nat.beq g 180) ⟨⟨false, [(4, .step 0 [9] (.step 1 [9, 8, 2] (.step 2 [9, 8] (.step 3 [9, 8, 7, 6] (.step 4 [9, 8, 7, 6, 5] (.step 5 [9, 8, 7, 6] (.step 6 [9, 8, 7] (.step 7 [9, 8] (.step 8 [9] (.step 9 [] (.done)))))))))), [9]), (17, .step 0 [9] (.step 1 [9, 8, 2] (.step 2 [9, 8] (.step 3 [9, 8, 4] (.step 4 [9, 8] (.step 5 [9, 8, 7, 6] (.step 6 [9, 8, 7] (.step 7 [9, 8] (.step 8 [9] (.step 9 [] (.done)))))))))), [9]), (19, .step 0 [10] (.step 1 [10, 9, 2] (.step 2 [10, 9] (.step 3 [10, 9, 8, 5, 4] (.step 4 [10, 9, 8, 5] (.step 5 [10, 9, 8] (.step 6 [10, 9, 8, 7] (.step 7 [10, 9, 8] (.step 8 [10, 9] (.step 9 [10] (.step 10 [] (.done))))))))))), [10])], [], []⟩, false⟩ <|
  pickB (Nat.beq g 197) ⟨⟨true, [], [], []⟩, true⟩ <|
  pickB (Nat.beq g 244) ⟨⟨false, [(1, .step 1 [9, 8, 6, 5, 4, 3, 2] (.fork (.cons 0 (.step 2 [9, 8, 6, 5, 4, 3] (.step 3 [9, 8, 6, 5, 4] (.step 4 [9, 8, 6, 5] (.step 5 [9, 8] (.step 6 [9] (.step 7 [9, 8] (.step 8 [9] (.step 9 [] (.done))))))))) (.cons 2 (.fork (.cons 0 (.step 3 [9, 8, 6, 5, 4] (.step 4 [9, 8, 6, 5] (.step 5 [9, 8] (.step 6 [9] (.step 7 [9, 8] (.step 8 [9] (.step 9 [] (.done)))))))) (.cons 7 (.step 0 [9, 8, 6, 5, 4, 3] (.step 3 [9, 8, 6, 5, 4] (.step 4 [9, 8, 6, 5] (.step 5 [9, 8] (.step 6 [9] (.step 8 [9] (.step 9 [] (.done)))))))) (.nil)))) (.cons 7 (.fork (.cons 0 (.step 2 [9, 8, 6, 5, 4, 3] (.step 3 [9, 8, 6, 5, 4] (.step 4 [9, 8, 6, 5] (.step 5 [9, 8] (.step 6 [9] (.step 8 [9] (.step 9 [] (.done)))))))) (.cons 2 (.step 0 [9, 8, 6, 5, 4, 3] (.step 3 [9, 8, 6, 5, 4] (.step 4 [9, 8, 6, 5] (.step 5 [9, 8] (.step 6 [9] (.step 8 [9] (.step 9 [] (.done)))))))) (.nil)))) (.nil))))), [0])], [], []⟩, false⟩ <|
  pickB (Nat.beq g 249) ⟨⟨true, [(3, .step 0 [12, 11, 10, 9, 8, 7, 5, 3, 2, 1] (.step 1 [12, 11, 10, 9, 8, 7, 5, 3, 2] (.step 2 [12, 11, 10, 9, 8, 7, 5, 3] (.step 3 [12, 11, 10, 9, 8, 7, 5] (.step 4 [12, 11, 10, 9, 8, 7] (.step 5 [12, 11, 10, 9, 8, 7] (.step 6 [12, 11, 10, 9, 8, 7] (.step 7 [12, 11, 10, 9, 8] (.step 8 [9] (.step 10 [12, 11] (.step 11 [12] (.fork (.cons 9 (.step 12 [] (.done)) (.cons 12 (.step 9 [] (.done)) (.nil)))))))))))))), [])], [], []⟩, true⟩ <|
  pickB (Nat.beq g 311) ⟨⟨false, [], [], []⟩, true⟩ <|
  pickB (Nat.beq g 315) ⟨⟨true, [], [], []⟩, false⟩ <|
  pickB (Nat.beq g 364) ⟨⟨true, [], [], []⟩, true⟩ <|
  ⟨o0, false⟩
theorem looks_bw (G : Nat → AV) : ∀ g x k, (looks g).o.bw.lookup x = some k → BwOk Tryz.prog G x k := by
  intro g x k h
  by_cases hg : g = 60
  · subst hg
    have e : (looks 60).o.bw = [(191, 4)] := rfl
    rw [e] at h
    simp only [List.lookup] at h
    split at h
    · rename_i hx
      cases h
      rw [show x = 191 by simpa using hx]
      exact bw191 G
    · cases h
  · exfalso
    have e : (looks g).o.bw = [] := pickB_cases (p := fun l : Look => l.o.bw = []) (fun _ => rfl) (pickB_cases (p := fun l : Look => l.o.bw = []) (fun _ => rfl) (pickB_cases (p := fun l : Look => l.o.bw = []) (fun _ => rfl) (pickB_cases (p := fun l : Look => l.o.bw = []) (fun _ => rfl) (pickB_cases (p := fun l : Look => l.o.bw = []) (fun h => absurd (Nat.eq_of_beq_eq_true h) hg) (pickB_cases (p := fun l : Look => l.o.bw = []) (fun _ => rfl) (pickB_cases (p := fun l : Look => l.o.bw = []) (fun _ => rfl) (pickB_cases (p := fun l : Look => l.o.bw = []) (fun _ => rfl) (pickB_cases (p := fun l : Look => l.o.bw = []) (fun _ => rfl) (pickB_cases (p := fun l : Look => l.o.bw = []) (fun _ => rfl) (pickB_cases (p := fun l : Look => l.o.bw = []) (fun _ => rfl) (pickB_cases (p := fun l : Look => l.o.bw = []) (fun _ => rfl) (pickB_cases (p := fun l : Look => l.o.bw = []) (fun _ => rfl) (pickB_cases (p := fun l : Look => l.o.bw = []) (fun _ => rfl) (pickB_cases (p := fun l : Look => l.o.bw = []) (fun _ => rfl) (rfl)))))))))))))))
    rw [e] at h
    cases h
def S11 : Nat := 27096695209163301122494731887402195193908062713632494002509602719717227018025644819453140863390310048784232741435392
def GG (g : Nat) : AV := match g with
  | 0 => .rptr [.sl 1 (keyw.map encStr) .none]
  | _ => .any
noncomputable def FG : Nat → Option Bod := FF looks S11
theorem fok11 : (List.range 512).all (fun g => !Nat.testBit S11 g || okF looks g) = true := by kernel_rfl
theorem FG_ok : BodOk Tryz.prog GG FG := FF_ok (looks_bw GG) fok11 (by decide +kernel)
def C00 (_ : FuncId) (_ : List AV) : Option AV := none
theorem C00_ok : ConOk Tryz.prog GG C00 := fun _ _ _ _ h => by cases h
theorem Pure.closed {m n : Nat} {g : FuncId} {b : Bod} {args : List AV} {r : AV} (hb : FG g = some b) (hlen : args.length ≤ b.n)
    (h : (match runC DD GG (callN DD GG FG C00 m n) m b.o b.c (envOf args) ⟨[], []⟩ with
      | some l => match oneOf DD b.rs l with
        | some r' => eqA r' r
        | none => false
      | none => false) = true) : Pure Tryz.prog GG g args r := Pure.run mixed DD_eq FG_ok C00_ok hb hlen h
/-- The same by one check. -/
noncomputable def closedB (C : FuncId → List AV → Option AV) (m n : Nat) (g : FuncId) (args : List AV) (r : AV) : Bool := match FG g with
  | some b => Nat.ble args.length b.n && (match runC DD GG (callN DD GG FG C m n) m b.o b.c (envOf args) ⟨[], []⟩ with
      | some l => match oneOf DD b.rs l with
        | some r' => eqA r' r
        | none => false
      | none => false)
  | none => false
theorem Pure.closed' {C : FuncId → List AV → Option AV} (hC : ConOk Tryz.prog GG C) (m n : Nat) {g : FuncId} {args : List AV} {r : AV} (h : closedB C m n g args r = true) : Pure Tryz.prog GG g args r := by
  unfold closedB at h
  split at h
  · rename_i b hb
    simp only [Bool.and_eq_true] at h
    exact Pure.run mixed DD_eq FG_ok hC hb (Nat.le_of_ble_eq_true h.1) h.2
  · cases h
end Go.Proofs.YtpgcmnabljandaaGreatDoor
