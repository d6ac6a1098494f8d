/- A part of the proof. -/
import Derived.Test.YtpjdjolphpfanaaGreatDoorGa32
set_option linter.unusedVariables false
set_option linter.unusedSimpArgs false
set_option linter.defProp false
section
namespace Go.Abs
open Go Go.RowKit
section
section
variable {P : Program} {G : Nat → AV}
theorem callStep_sound {F : Nat → Option Bod} {C : FuncId → List AV → Option AV} (hm : P.follows .mixedOrders = true) (hF : BodOk P G F) (hC : ConOk P G C) {m : Nat} {call : CallT} (ih : CallOk P G call) : CallOk P G (callStep (Dof P) G F C m call) := by
  intro d g args σ l h Q hq
  have h' := h
  clear h
  unfold callStep at h'
  split at h'
  · split at h'
    · rename_i hno
      split at h'
      · rename_i r hr
        cases h'
        have hp := hC g args r hno hr
        have hpl : args.map plain = args := by
          have : ∀ l : List AV, noRefs l = true → l.map plain = l := by
            intro l
            induction l with
            | nil => intro _; rfl
            | cons a t iht =>
              intro hl
              simp only [noRefs, Bool.and_eq_true] at hl
              rw [List.map_cons, iht hl.2]
              congr 1
              have p1 : ∀ a : AV, noRef a = true → pl1 a = a := by
                intro a ha; unfold pl1; split
                · simp [noRef] at ha
                · rfl
              have p1s : ∀ l : List AV, noRefs l = true → l.map pl1 = l := by
                intro l
                induction l with
                | nil => intro _; rfl
                | cons a t ih2 => intro hl; simp only [noRefs, Bool.and_eq_true] at hl; rw [List.map_cons, p1 a hl.1, ih2 hl.2]
              have p2 : ∀ a : AV, noRef a = true → pl2 a = a := by
                intro a ha; unfold pl2; split
                · simp only [noRef] at ha; rw [p1s _ ha]
                · exact p1 a ha
              have p2s : ∀ l : List AV, noRefs l = true → l.map pl2 = l := by
                intro l
                induction l with
                | nil => intro _; rfl
                | cons a t ih2 => intro hl; simp only [noRefs, Bool.and_eq_true] at hl; rw [List.map_cons, p2 a hl.1, ih2 hl.2]
              unfold plain; split
              · have := hl.1; simp only [noRef] at this; rw [p2s _ this]
              · exact p2 a hl.1
          exact this args hno
        exact vcCall.of (.inl ⟨by rw [hpl]; exact hno, by rw [hpl]; exact hp⟩) (hq _ _ (List.mem_singleton.2 rfl))
      · cases h'
    · cases h'
  rename_i b hb
  obtain ⟨fn, f1, f2, f3, f4, f5, f6, f7⟩ := hF g b hb
  split at h'
  · cases h'
  rename_i hlen
  have hlen' : args.length ≤ fn.ntmps := by rw [f3]; exact Nat.le_of_ble_eq_true hlen
  have pure : ∀ (args' : List AV) (l1 : List OutR) (r : AV), args'.length = args.length → runC (Dof P) G call m b.n b.o b.c (envOf args') ⟨[], []⟩ = some l1 → oneOf (Dof P) b.rs l1 = some r → Pure P G g args' r := by
    intro args' l1 r hl h1 h2
    refine Pure.vcO b.o true hm f1 f2 ?_ (runC_sound ih f7 b.c h1 fun p hp => by rw [f4]; exact oneOf_spec h2 p hp)
    simp only [Bool.and_eq_true, decide_eq_true_eq, bne_iff_ne, ne_eq]
    exact ⟨⟨by rw [f3]; exact f5, by omega⟩, f6⟩
  split at h'
  · rename_i hno
    simp only [Bool.and_eq_true] at hno
    split at h'
    · rename_i l1 h1
      split at h'
      · rename_i r h2
        rw [forceAV_eq] at h'
        cases h'
        exact vcCall.of (.inl ⟨hno.1, pure _ l1 r (by simp) h1 h2⟩) (hq _ _ (List.mem_singleton.2 rfl))
      · cases h'
    · cases h'
  · split at h'
    · split at h'
      · rename_i l1 h1
        split at h'
        · rename_i r h2
          split at h'
          · rename_i hbare
            rw [forceAV_eq] at h'
            cases h'
            exact vcCall.of (.inr ⟨hbare, pure _ l1 r (by simp) h1 h2⟩) (hq _ _ (List.mem_singleton.2 rfl))
          · cases h'
        · cases h'
      · cases h'
    · split at h'
      · rename_i l1 h1
        refine ACall.of_body f1 f2 f6 hlen' (vcC_sound hm b.c (by rw [f3]; exact f5) (runC_sound ih f7 b.c h1 fun o ho => ?_))
        obtain ⟨u, e1, e2⟩ := bindO_spec h' o ho
        split at e1
        · rename_i v hv
          cases e1
          obtain ⟨k1, l2, k2, rfl⟩ := endOf_spec hv
          exact ⟨k1, l2, by rw [f4]; exact k2, hq _ _ (e2 _ (List.mem_singleton.2 rfl))⟩
        · cases e1
      · cases h'


/-- A step that asks the contracts 'X' first. 'K': the functions that X knows. -/
def callStepX (D : Nat → Option TI) (G : Nat → AV) (F : Nat → Option Bod) (C : FuncId → List AV → Option AV) (K : FuncId → Bool) (X : FuncId → List AV → Option AV) (m : Nat) (ih : CallT) : CallT := fun d g args σ => match K g with
  | true => match noRefs (args.map plain) with
    | true => match X g (args.map plain) with
      | some r => some [(r, σ)]
      | none => none
    | false => match X g (args.map (frz σ.H 8)) with
      | some r => match bare r with
        | true => some [(r, σ)]
        | false => none
      | none => none
  | false => callStep D G F C m ih d g args σ
def callX (D : Nat → Option TI) (G : Nat → AV) (F : Nat → Option Bod) (C : FuncId → List AV → Option AV) (K : FuncId → Bool) (X : FuncId → List AV → Option AV) (m : Nat) (n : Nat) : CallT :=
  Nat.rec (fun _ _ _ _ => none) (fun _ ih => callStepX D G F C K X m ih) n
def ConX (P : Program) (G : Nat → AV) (X : FuncId → List AV → Option AV) : Prop := ∀ g args r, X g args = some r → Pure P G g args r
theorem callX_sound {F : Nat → Option Bod} {C X : FuncId → List AV → Option AV} {K : FuncId → Bool} (hm : P.follows .mixedOrders = true) (hF : BodOk P G F) (hC : ConOk P G C) (hX : ConX P G X) {m : Nat} : ∀ (n : Nat), CallOk P G (callX (Dof P) G F C K X m n) := by
  intro n
  induction n with
  | zero => intro d g args σ l h; simp [callX] at h
  | succ n ih =>
    intro d g args σ l h Q hq
    have h' : callStepX (Dof P) G F C K X m (callX (Dof P) G F C K X m n) d g args σ = some l := h
    clear h
    unfold callStepX at h'
    split at h'
    · split at h'
      · rename_i hno
        split at h'
        · rename_i r hr
          cases h'
          exact vcCall.of (.inl ⟨hno, hX _ _ _ hr⟩) (hq _ _ (List.mem_singleton.2 rfl))
        · cases h'
      · split at h'
        · rename_i r hr
          split at h'
          · rename_i hb
            cases h'
            exact vcCall.of (.inr ⟨hb, hX _ _ _ hr⟩) (hq _ _ (List.mem_singleton.2 rfl))
          · cases h'
        · cases h'
    · exact callStep_sound hm hF hC ih d g args σ l h' Q hq
/-- What a call comes to, as a number of outcomes frozen to one. -/
def outX (D : Nat → Option TI) (G : Nat → AV) (F : Nat → Option Bod) (C : FuncId → List AV → Option AV) (K : FuncId → Bool) (X : FuncId → List AV → Option AV) (m n : Nat) (b : Bod) (args : List AV) : Option AV :=
  match runC D G (callX D G F C K X m n) m b.n b.o b.c (envOf args) ⟨[], []⟩ with
  | some l => oneOf D b.rs l
  | none => none
theorem Pure.outX {F : Nat → Option Bod} {C X : FuncId → List AV → Option AV} {K : FuncId → Bool} {D : Nat → Option TI} (hm : P.follows .mixedOrders = true) (hD : Dof P = D) (hF : BodOk P G F) (hC : ConOk P G C) (hX : ConX P G X)
    {m n : Nat} {g : FuncId} {b : Bod} {args : List AV} {r : AV} (hb : F g = some b) (hlen : args.length ≤ b.n) (h : outX D G F C K X m n b args = some r) : Pure P G g args r := by
  subst hD
  unfold Go.Abs.outX at h
  split at h
  · rename_i l1 h1
    obtain ⟨fn, f1, f2, f3, f4, f5, f6, f7⟩ := hF g b hb
    refine Pure.vcO b.o true hm f1 f2 ?_ (runC_sound (callX_sound hm hF hC hX n) f7 b.c h1 fun p hp => by rw [f4]; exact oneOf_spec h p hp)
    simp only [Bool.and_eq_true, decide_eq_true_eq, bne_iff_ne, ne_eq]
    exact ⟨⟨by rw [f3]; exact f5, by omega⟩, f6⟩
  · cases h
end
end
end Go.Abs
end
