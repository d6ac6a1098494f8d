/- A part of the proof: texts AbsMono AbsRun2. -/
import Derived.Test.YtpgcmnabljandaaGreatDoorAb10
import Derived.Test.YtpgcmnabljandaaGreatDoorAb11

section
/-
  A condition grows with what is asked at its end; a cut between two parts.
-/
set_option linter.unusedVariables false
namespace Go.Abs
open Go Go.RowKit
section
variable {P : Program} {G : Nat → AV} {mu d lw : Bool} {ops : Array Oper}
theorem vcR_imp {Q Q' : Env → St → Prop} (hq : ∀ env σ, Q env σ → Q' env σ) : ∀ (l : List Oper) {env : Env} {σ : St}, vcR P G mu ops d lw l env σ Q → vcR P G mu ops d lw l env σ Q'
  | [], env, σ, h => hq _ _ h
  | o :: r, env, σ, h => by
    simp only [vcR] at h ⊢
    exact vcG.imp h fun env v σ h => vcR_imp hq r h
mutual
theorem vcS_imp {ac : List Nat} {Q Q' : Env → St → Prop} (hq : ∀ env σ, Q env σ → Q' env σ) : ∀ (s : Sch) {env : Env} {σ : St}, vcS P G mu ac ops s env σ Q → vcS P G mu ac ops s env σ Q'
  | .done, env, σ, h => by simp only [vcS] at h ⊢; exact hq _ _ h
  | .step k dp s, env, σ, h => by
    simp only [vcS] at h ⊢
    split at h
    · rename_i o ho
      exact vcG.imp h fun env v σ h => vcS_imp hq s h
    · exact h.elim
  | .fork a, env, σ, h => by
    simp only [vcS] at h ⊢
    exact vcAlts_imp hq a h
theorem vcAlts_imp {ac : List Nat} {Q Q' : Env → St → Prop} (hq : ∀ env σ, Q env σ → Q' env σ) : ∀ (a : Alts) {env : Env} {σ : St}, vcAlts P G mu ac ops a env σ Q → vcAlts P G mu ac ops a env σ Q'
  | .nil, env, σ, h => by simp only [vcAlts]
  | .cons k s r, env, σ, h => by
    simp only [vcAlts] at h ⊢
    refine ⟨?_, vcAlts_imp hq r h.2⟩
    have h1 := h.1
    split at h1
    · rename_i o ho
      exact vcG.imp h1 fun env v σ h => vcS_imp hq s h
    · exact h1.elim
end
theorem aThen_imp {n n' : Env → St → Prop} {Q Q' : Exit → Env → St → Prop} (hn : ∀ env σ, n env σ → n' env σ) (hq : ∀ e env σ, Q e env σ → Q' e env σ) : ∀ e env σ, aThen n Q e env σ → aThen n' Q' e env σ := by
  intro e env σ h
  cases e <;> first | exact hn _ _ h | exact hq _ _ _ h
theorem aBlock_imp {id : Nat} {Q Q' : Exit → Env → St → Prop} (hq : ∀ e env σ, Q e env σ → Q' e env σ) : ∀ e env σ, aBlock id Q e env σ → aBlock id Q' e env σ := by
  intro e env σ h
  cases e with
  | exit i =>
    simp only [aBlock_exit] at h ⊢
    split at h
    · rename_i hi; rw [if_pos hi]; exact hq _ _ _ h
    · rename_i hi; rw [if_neg hi]; exact hq _ _ _ h
  | _ => exact hq _ _ _ h
/-- No range over a function within. -/
def plainC : Code → Bool
  | .seq x y => plainC x && plainC y
  | .cond _ x y => plainC x && plainC y
  | .block _ c => plainC c
  | .loop c => plainC c
  | .rangeFunc .. => false
  | _ => true
theorem vcC_imp {o : Opts} : ∀ (c : Code) {env : Env} {σ : St} {Q Q' : Exit → Env → St → Prop}, plainC c = true → (∀ e env σ, Q e env σ → Q' e env σ) → vcC P G o c env σ Q → vcC P G o c env σ Q'
  | .skip, _, _, _, _, _, hq, h => hq _ _ _ h
  | .ret, _, _, _, _, _, hq, h => hq _ _ _ h
  | .exit _, _, _, _, _, _, hq, h => hq _ _ _ h
  | .seq x y, env, σ, Q, Q', hp, hq, h => by
    simp only [plainC, Bool.and_eq_true] at hp
    simp only [vcC] at h ⊢
    exact vcC_imp x hp.1 (aThen_imp (fun env σ h => vcC_imp y hp.2 hq h) hq) h
  | .cond c x y, env, σ, Q, Q', hp, hq, h => by
    simp only [plainC, Bool.and_eq_true] at hp
    simp only [vcC] at h ⊢
    split at h
    · exact ⟨fun e => vcC_imp x hp.1 hq (h.1 e), fun e => vcC_imp y hp.2 hq (h.2 e)⟩
    · exact h.elim
  | .block id c, env, σ, Q, Q', hp, hq, h => by
    simp only [plainC] at hp
    simp only [vcC] at h ⊢
    exact vcC_imp c hp (aBlock_imp hq) h
  | .region id ops false, env, σ, Q, Q', hp, hq, h => by
    simp only [vcC] at h ⊢
    exact vcR_imp (fun env σ h => hq _ _ _ h) _ h
  | .region id ops true, env, σ, Q, Q', hp, hq, h => by
    simp only [vcC] at h ⊢
    split at h
    · exact vcS_imp (fun env σ h => hq _ _ _ h) _ h
    · exact vcR_imp (fun env σ h => hq _ _ _ h) _ h
  | .loop c, env, σ, Q, Q', hp, hq, h => by
    simp only [plainC] at hp
    simp only [vcC] at h ⊢
    obtain ⟨I, n, h0, hr⟩ := h
    exact ⟨I, n, h0, fun n env σ hI => vcC_imp c hp (aThen_imp (fun _ _ h => h) hq) (hr n env σ hI)⟩
  | .rangeFunc .., _, _, _, _, hp, _, _ => by simp [plainC] at hp
  | .scope c, _, _, _, _, _, _, h => by simp only [vcC] at h
  | .label l, _, _, _, _, _, _, h => by simp only [vcC] at h
  | .goto l, _, _, _, _, _, _, h => by simp only [vcC] at h
  | .refuse w, _, _, _, _, _, _, h => by simp only [vcC] at h
/-- A cut. -/
theorem vc_cut {o : Opts} {x y : Code} {env : Env} {σ : St} {Q : Exit → Env → St → Prop} (I : Env → St → Prop) (hp : plainC x = true) (h1 : vcC P G o x env σ (aThen I Q)) (h2 : ∀ env σ, I env σ → vcC P G o y env σ Q) : vcC P G o (.seq x y) env σ Q := by
  simp only [vcC]
  exact vcC_imp x hp (aThen_imp h2 fun _ _ _ h => h) h1
end
end Go.Abs
end

section
/-
  Calls with contracts that look at what is handed over as the callee sees it.
-/
set_option linter.unusedVariables false
set_option linter.unusedSimpArgs false
namespace Go.Abs
open Go Go.RowKit
section
variable {P : Program} {G : Nat → AV}
theorem callStep_sound {F : Nat → Option Bod} {C : FuncId → List AV → Option AV} (hm : P.follows .mixedOrders = true) (hF : BodOk P G F) (hC : ConOk P G C) {m : Nat} {call : CallT} (ih : CallOk P G call) : CallOk P G (callStep (Dof P) G F C m call) := by
  intro d g args σ l h Q hq
  have h' := h
  clear h
  unfold callStep at h'
  split at h'
  · split at h'
    · rename_i hno
      split at h'
      · rename_i r hr
        cases h'
        have hp := hC g args r hno hr
        have hpl : args.map plain = args := by
          have : ∀ l : List AV, noRefs l = true → l.map plain = l := by
            intro l
            induction l with
            | nil => intro _; rfl
            | cons a t iht =>
              intro hl
              simp only [noRefs, Bool.and_eq_true] at hl
              rw [List.map_cons, iht hl.2]
              congr 1
              have p1 : ∀ a : AV, noRef a = true → pl1 a = a := by
                intro a ha; unfold pl1; split
                · simp [noRef] at ha
                · rfl
              have p1s : ∀ l : List AV, noRefs l = true → l.map pl1 = l := by
                intro l
                induction l with
                | nil => intro _; rfl
                | cons a t ih2 => intro hl; simp only [noRefs, Bool.and_eq_true] at hl; rw [List.map_cons, p1 a hl.1, ih2 hl.2]
              have p2 : ∀ a : AV, noRef a = true → pl2 a = a := by
                intro a ha; unfold pl2; split
                · simp only [noRef] at ha; rw [p1s _ ha]
                · exact p1 a ha
              have p2s : ∀ l : List AV, noRefs l = true → l.map pl2 = l := by
                intro l
                induction l with
                | nil => intro _; rfl
                | cons a t ih2 => intro hl; simp only [noRefs, Bool.and_eq_true] at hl; rw [List.map_cons, p2 a hl.1, ih2 hl.2]
              unfold plain; split
              · have := hl.1; simp only [noRef] at this; rw [p2s _ this]
              · exact p2 a hl.1
          exact this args hno
        exact vcCall.of (.inl ⟨by rw [hpl]; exact hno, by rw [hpl]; exact hp⟩) (hq _ _ (List.mem_singleton.2 rfl))
      · cases h'
    · cases h'
  rename_i b hb
  obtain ⟨fn, f1, f2, f3, f4, f5, f6, f7⟩ := hF g b hb
  split at h'
  · cases h'
  rename_i hlen
  have hlen' : args.length ≤ fn.ntmps := by rw [f3]; exact Nat.le_of_ble_eq_true hlen
  have pure : ∀ (args' : List AV) (l1 : List Out) (r : AV), args'.length = args.length → runC (Dof P) G call m b.o b.c (envOf args') ⟨[], []⟩ = some l1 → oneOf (Dof P) b.rs l1 = some r → Pure P G g args' r := by
    intro args' l1 r hl h1 h2
    refine Pure.vcO b.o true hm f1 f2 ?_ (runC_sound ih f7 b.c h1 fun p hp => by rw [f4]; exact oneOf_spec h2 p hp)
    simp only [Bool.and_eq_true, decide_eq_true_eq, bne_iff_ne, ne_eq]
    exact ⟨⟨by rw [f3]; exact f5, by omega⟩, f6⟩
  split at h'
  · rename_i hno
    simp only [Bool.and_eq_true] at hno
    split at h'
    · rename_i l1 h1
      split at h'
      · rename_i r h2
        rw [forceAV_eq] at h'
        cases h'
        exact vcCall.of (.inl ⟨hno.1, pure _ l1 r (by simp) h1 h2⟩) (hq _ _ (List.mem_singleton.2 rfl))
      · cases h'
    · cases h'
  · split at h'
    · split at h'
      · rename_i l1 h1
        split at h'
        · rename_i r h2
          split at h'
          · rename_i hbare
            rw [forceAV_eq] at h'
            cases h'
            exact vcCall.of (.inr ⟨hbare, pure _ l1 r (by simp) h1 h2⟩) (hq _ _ (List.mem_singleton.2 rfl))
          · cases h'
        · cases h'
      · cases h'
    · split at h'
      · rename_i l1 h1
        refine ACall.of_body f1 f2 f6 hlen' (vcC_sound hm b.c (by rw [f3]; exact f5) (runC_sound ih f7 b.c h1 fun o ho => ?_))
        obtain ⟨u, e1, e2⟩ := bindO_spec h' o ho
        split at e1
        · rename_i v hv
          cases e1
          obtain ⟨k1, l2, k2, rfl⟩ := endOf_spec hv
          exact ⟨k1, l2, by rw [f4]; exact k2, hq _ _ (e2 _ (List.mem_singleton.2 rfl))⟩
        · cases e1
      · cases h'


/-- A step that asks the contracts 'X' first. 'K': the functions that X knows. -/
def callStepX (D : Nat → Option TI) (G : Nat → AV) (F : Nat → Option Bod) (C : FuncId → List AV → Option AV) (K : FuncId → Bool) (X : FuncId → List AV → Option AV) (m : Nat) (ih : CallT) : CallT := fun d g args σ => match K g with
  | true => match noRefs (args.map plain) with
    | true => match X g (args.map plain) with
      | some r => some [(r, σ)]
      | none => none
    | false => match X g (args.map (frz σ.H 8)) with
      | some r => match bare r with
        | true => some [(r, σ)]
        | false => none
      | none => none
  | false => callStep D G F C m ih d g args σ
def callX (D : Nat → Option TI) (G : Nat → AV) (F : Nat → Option Bod) (C : FuncId → List AV → Option AV) (K : FuncId → Bool) (X : FuncId → List AV → Option AV) (m : Nat) (n : Nat) : CallT :=
  Nat.rec (fun _ _ _ _ => none) (fun _ ih => callStepX D G F C K X m ih) n
def ConX (P : Program) (G : Nat → AV) (X : FuncId → List AV → Option AV) : Prop := ∀ g args r, X g args = some r → Pure P G g args r
theorem callX_sound {F : Nat → Option Bod} {C X : FuncId → List AV → Option AV} {K : FuncId → Bool} (hm : P.follows .mixedOrders = true) (hF : BodOk P G F) (hC : ConOk P G C) (hX : ConX P G X) {m : Nat} : ∀ (n : Nat), CallOk P G (callX (Dof P) G F C K X m n) := by
  intro n
  induction n with
  | zero => intro d g args σ l h; simp [callX] at h
  | succ n ih =>
    intro d g args σ l h Q hq
    have h' : callStepX (Dof P) G F C K X m (callX (Dof P) G F C K X m n) d g args σ = some l := h
    clear h
    unfold callStepX at h'
    split at h'
    · split at h'
      · rename_i hno
        split at h'
        · rename_i r hr
          cases h'
          exact vcCall.of (.inl ⟨hno, hX _ _ _ hr⟩) (hq _ _ (List.mem_singleton.2 rfl))
        · cases h'
      · split at h'
        · rename_i r hr
          split at h'
          · rename_i hb
            cases h'
            exact vcCall.of (.inr ⟨hb, hX _ _ _ hr⟩) (hq _ _ (List.mem_singleton.2 rfl))
          · cases h'
        · cases h'
    · exact callStep_sound hm hF hC ih d g args σ l h' Q hq
/-- What a call comes to, as a number of outcomes frozen to one. -/
def outX (D : Nat → Option TI) (G : Nat → AV) (F : Nat → Option Bod) (C : FuncId → List AV → Option AV) (K : FuncId → Bool) (X : FuncId → List AV → Option AV) (m n : Nat) (b : Bod) (args : List AV) : Option AV :=
  match runC D G (callX D G F C K X m n) m b.o b.c (envOf args) ⟨[], []⟩ with
  | some l => oneOf D b.rs l
  | none => none
theorem Pure.outX {F : Nat → Option Bod} {C X : FuncId → List AV → Option AV} {K : FuncId → Bool} {D : Nat → Option TI} (hm : P.follows .mixedOrders = true) (hD : Dof P = D) (hF : BodOk P G F) (hC : ConOk P G C) (hX : ConX P G X)
    {m n : Nat} {g : FuncId} {b : Bod} {args : List AV} {r : AV} (hb : F g = some b) (hlen : args.length ≤ b.n) (h : outX D G F C K X m n b args = some r) : Pure P G g args r := by
  subst hD
  unfold Go.Abs.outX at h
  split at h
  · rename_i l1 h1
    obtain ⟨fn, f1, f2, f3, f4, f5, f6, f7⟩ := hF g b hb
    refine Pure.vcO b.o true hm f1 f2 ?_ (runC_sound (callX_sound hm hF hC hX n) f7 b.c h1 fun p hp => by rw [f4]; exact oneOf_spec h p hp)
    simp only [Bool.and_eq_true, decide_eq_true_eq, bne_iff_ne, ne_eq]
    exact ⟨⟨by rw [f3]; exact f5, by omega⟩, f6⟩
  · cases h
end
end Go.Abs
end
