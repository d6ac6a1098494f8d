/- A part of the proof. -/
import Derived.Test.YtpjdjolphpfanaaGreatDoorGa34
import Derived.Test.YtpjdjolphpfanaaGreatDoorGa35
import Derived.Test.YtpjdjolphpfanaaGreatDoorGa15
set_option linter.unusedVariables false
set_option maxRecDepth 1000000
set_option linter.unusedSimpArgs false
set_option linter.defProp false
section
namespace Go.Proofs.YtpjdjolphpfanaaGreatDoor
open Go Go.Abs
section
def tokLe : Tok → Tok → Bool
  | _, .none => true
  | .nil, .nil => true
  | .tight, .tight => true
  | _, _ => false
theorem tokLe_spec {a b : Tok} (h : tokLe a b = true) : b = .none ∨ b = a := by
  cases a <;> cases b <;> simp [tokLe] at h ⊢
mutual
/-- Less is known of the second. -/
def leqB : AV → AV → Bool
  | .bool a, .bool b => a == b
  | .int k a, .int k' b => decide (k = k') && (a == b)
  | .str a, .str b => a == b
  | .sl sz r tok, .sl sz' r' tok' => (Nat.beq sz sz' && (tokLe tok tok' && leqR r r')) || (r.isEmpty && (r'.isEmpty && !tok'.known))
  | .agg c, .agg c' => leqL c c'
  | _, _ => false
def leqL : List AV → List AV → Bool
  | [], [] => true
  | a :: r, b :: s => leqB a b && leqL r s
  | _, _ => false
def leqR : List (List AV) → List (List AV) → Bool
  | [], [] => true
  | a :: r, b :: s => leqL a b && b.all AV.atom && leqR r s
  | _, _ => false
end
mutual
theorem leqB_spec : ∀ (a b : AV), leqB a b = true → Leq a b
  | .bool a, b, h => by
    cases b <;> simp [leqB] at h
    subst h; exact Leq.refl _
  | .int k a, b, h => by
    cases b <;> simp [leqB] at h
    obtain ⟨rfl, rfl⟩ := h; exact Leq.refl _
  | .str a, b, h => by
    cases b <;> simp [leqB] at h
    subst h; exact Leq.refl _
  | .sl sz r tok, b, h => by
    cases b <;> simp only [leqB] at h <;> try (cases h; done)
    rename_i sz' r' tok'
    simp only [Bool.and_eq_true, Bool.or_eq_true] at h
    simp only [Leq]
    rcases h with h | h
    · exact .inr ⟨Nat.eq_of_beq_eq_true h.1, leqR_spec r r' h.2.2, tokLe_spec h.2.1⟩
    · have ht : tok' = .none := by have := h.2.2; cases tok' <;> simp [Tok.known] at this ⊢
      exact .inl ⟨by simpa using h.1, by simpa using h.2.1, ht⟩
  | .agg c, b, h => by
    cases b <;> simp only [leqB] at h <;> try (cases h; done)
    simp only [Leq]
    exact leqL_spec _ _ h
  | .any, b, h => by simp [leqB] at h
  | .nilp, b, h => by simp [leqB] at h
  | .ptr .., b, h => by simp [leqB] at h
  | .rptr _, b, h => by simp [leqB] at h
  | .ms .., b, h => by simp [leqB] at h
  | .nilm, b, h => by simp [leqB] at h
  | .map _, b, h => by simp [leqB] at h
  | .iter _, b, h => by simp [leqB] at h
  | .fn .., b, h => by simp [leqB] at h
  | .nilf, b, h => by simp [leqB] at h
  | .tup _, b, h => by simp [leqB] at h
theorem leqL_spec : ∀ (a b : List AV), leqL a b = true → LeqL a b
  | [], [], _ => by simp [LeqL]
  | a :: r, b :: s, h => by
    simp only [leqL, Bool.and_eq_true] at h
    simp only [LeqL]
    exact ⟨leqB_spec a b h.1, leqL_spec r s h.2⟩
  | [], _ :: _, h => by simp [leqL] at h
  | _ :: _, [], h => by simp [leqL] at h
theorem leqR_spec : ∀ (a b : List (List AV)), leqR a b = true → LeqR a b
  | [], [], _ => by simp [LeqR]
  | a :: r, b :: s, h => by
    simp only [leqR, Bool.and_eq_true] at h
    simp only [LeqR]
    exact ⟨.inr ⟨leqL_spec a b h.1.1, h.1.2⟩, leqR_spec r s h.2⟩
  | [], _ :: _, h => by simp [leqR] at h
  | _ :: _, [], h => by simp [leqR] at h
end


section
variable {P : Program} {G : Nat → AV}
theorem callStepX_sound {F : Nat → Option Bod} {C X : FuncId → List AV → Option AV} {K : FuncId → Bool} (hm : P.follows .mixedOrders = true) (hF : BodOk P G F) (hC : ConOk P G C) (hX : ConX P G X) {m : Nat} {call : CallT} (ih : CallOk P G call) : CallOk P G (callStepX (Dof P) G F C K X m call) := by
  intro d g args σ l h Q hq
  have h' := h
  clear h
  unfold callStepX at h'
  split at h'
  · split at h'
    · rename_i hno
      split at h'
      · rename_i r hr
        cases h'
        exact vcCall.of (.inl ⟨hno, hX _ _ _ hr⟩) (hq _ _ (List.mem_singleton.2 rfl))
      · cases h'
    · split at h'
      · rename_i r hr
        split at h'
        · rename_i hb
          cases h'
          exact vcCall.of (.inr ⟨hb, hX _ _ _ hr⟩) (hq _ _ (List.mem_singleton.2 rfl))
        · cases h'
      · cases h'
  · exact callStep_sound hm hF hC ih d g args σ l h' Q hq
end
/-- What 'attempt' leaves. -/
def leftA (n : Nat) (p : AV × St) : Option (List (AV × St)) := match p.2.H[n]? with
  | some (.cells [_]) => some [(.int .i64 0, ⟨p.2.H.set n (.cells [.int .i64 0]) ++ [.cells [.int .i64 0]], p.2.T⟩)]
  | _ => none
def stepA (D : Nat → Option TI) (G : Nat → AV) (F : Nat → Option Bod) (C : FuncId → List AV → Option AV) (K : FuncId → Bool) (X : FuncId → List AV → Option AV) (m : Nat) (ih : CallT) : CallT := fun d g args σ => match Nat.beq g 165 with
  | false => callStepX D G F C K X m ih d g args σ
  | true => match d, args with
    | false, [.fn f first cap] => match ih false f (first ++ cap) (σ.push (.cells [.int .i64 0])) with
      | some l => bindO l (leftA σ.H.length)
      | none => none
    | _, _ => none
def callA (D : Nat → Option TI) (G : Nat → AV) (F : Nat → Option Bod) (C : FuncId → List AV → Option AV) (K : FuncId → Bool) (X : FuncId → List AV → Option AV) (m n : Nat) : CallT :=
  Nat.rec (fun _ _ _ _ => none) (fun _ ih => stepA D G F C K X m ih) n
theorem callA_sound {G : Nat → AV} {F : Nat → Option Bod} {C X : FuncId → List AV → Option AV} {K : FuncId → Bool} (hF : BodOk Tryz.prog G F) (hC : ConOk Tryz.prog G C) (hX : ConX Tryz.prog G X) {m : Nat} : ∀ n, CallOk Tryz.prog G (callA (Dof Tryz.prog) G F C K X m n) := by
  intro n
  induction n with
  | zero => intro d g args σ l h; simp [callA] at h
  | succ n ih =>
    intro d g args σ l h Q hq
    have h' : stepA (Dof Tryz.prog) G F C K X m (callA (Dof Tryz.prog) G F C K X m n) d g args σ = some l := h
    clear h
    unfold stepA at h'
    split at h'
    · exact callStepX_sound mixed hF hC hX ih d g args σ l h' Q hq
    · rename_i hg
      have hg := Nat.eq_of_beq_eq_true hg
      subst hg
      split at h'
      · rename_i f first cap
        split at h'
        · rename_i l1 h1
          have hin := ih false f (first ++ cap) (σ.push (.cells [.int .i64 0])) l1 h1 (fun v τ => (v, τ) ∈ l1) fun v τ h => h
          refine attempt284 (G := quiet G) (H := quiet G) rfl (R := fun v τ => (v, τ) ∈ l1) hin ?_ (fun c τ h => h.elim)
          intro v τ hv
          obtain ⟨x, e1, e2⟩ := bindO_spec h' _ hv
          unfold leftA at e1
          split at e1
          · rename_i y hy
            simp only [Option.some.injEq] at e1
            subst e1
            exact ⟨⟨_, hy⟩, hq _ _ (e2 _ (List.mem_singleton.2 rfl))⟩
          · cases e1
        · cases h'
      · cases h'
def C1 (g : FuncId) (args : List AV) : Option AV := match Nat.beq g 97 with
  | true => match args with
    | [.str s] => some (.bool (nameS s))
    | _ => none
  | false => match Nat.beq g 236 with
    | true => match args with
      | [.str s, .int .u8 c] => some (.int .i64 (Lib.indexByte s c.toNat.toUInt8))
      | _ => none
    | false => none
theorem C1_ok : ConOk Tryz.prog GG C1 := by
  intro g args r hno h
  unfold C1 at h
  split at h
  · rename_i hg
    split at h
    · cases h
      rw [Nat.eq_of_beq_eq_true hg]
      exact isName168 _
    · cases h
  · split at h
    · rename_i hg
      split at h
      · cases h
        rw [Nat.eq_of_beq_eq_true hg]
        exact indexByte368 _ _ _
      · cases h
    · cases h
def leqT (a b : AV) : Bool := match a, b with
  | .tup c, .tup d => leqL c d
  | a, b => leqB a b
theorem leqT_spec {a b : AV} (h : leqT a b = true) : Leq a b := by
  unfold leqT at h
  split at h
  · simp only [Leq]; exact leqL_spec _ _ h
  · exact leqB_spec _ _ h
noncomputable def closedA (F : Nat → Option Bod) (K : FuncId → Bool) (X : FuncId → List AV → Option AV) (m n : Nat) (g : FuncId) (args : List AV) (r : AV) : Bool := match F g with
  | some b => Nat.ble args.length b.n && (match runC DD GG (callA DD GG F C1 K X m n) m b.n b.o b.c (envOf args) ⟨[], []⟩ with
    | some l => match oneOf DD b.rs l with
      | some r' => leqT r' r
      | none => false
    | none => false)
  | none => false
theorem Pure.closedA {F : Nat → Option Bod} {K : FuncId → Bool} {X : FuncId → List AV → Option AV} (hF : BodOk Tryz.prog GG F) (hX : ConX Tryz.prog GG X) (m n : Nat) {g : FuncId} {args : List AV} {r : AV} (h : closedA F K X m n g args r = true) : Pure Tryz.prog GG g args r := by
  unfold Go.Proofs.YtpjdjolphpfanaaGreatDoor.closedA at h
  split at h
  · rename_i b hb
    simp only [Bool.and_eq_true] at h
    obtain ⟨h1, h2⟩ := h
    rw [← DD_eq] at h2
    split at h2
    · rename_i l hl
      split at h2
      · rename_i r' hr
        obtain ⟨fn, f1, f2, f3, f4, f5, f6, f7⟩ := hF g b hb
        have hlen := Nat.le_of_ble_eq_true h1
        have hp : Pure Tryz.prog GG g args r' := by
          refine Pure.vcO b.o true mixed f1 f2 ?_ (runC_sound (callA_sound hF C1_ok hX n) f7 b.c hl fun p hp => by rw [f4]; exact oneOf_spec hr p hp)
          simp only [Bool.and_eq_true, decide_eq_true_eq, bne_iff_ne, ne_eq]
          exact ⟨⟨by rw [f3]; exact f5, by omega⟩, f6⟩
        exact Pure.sub (G := quiet GG) hp (LeqL.refl _) (leqT_spec h2)
      · cases h2
    · cases h2
  · cases h
/-- The last arguments are looked at first. -/
def leqQ : List AV → List AV → Bool
  | [], [] => true
  | a :: r, b :: s => leqQ r s && leqB a b
  | _, _ => false
theorem leqQ_spec : ∀ (a b : List AV), leqQ a b = true → LeqL a b
  | [], [], _ => by simp [LeqL]
  | a :: r, b :: s, h => by
    simp only [leqQ, Bool.and_eq_true] at h
    simp only [LeqL]
    exact ⟨leqB_spec a b h.2, leqQ_spec r s h.1⟩
  | [], _ :: _, h => by simp [leqQ] at h
  | _ :: _, [], h => by simp [leqQ] at h
def pickB {α : Type} (b : Bool) (x y : α) : α := match b with
  | true => x
  | false => y
theorem pickB_cases {α : Type} {p : α → Prop} {b : Bool} {x y : α} (hx : b = true → p x) (hy : p y) : p (pickB b x y) := by
  cases b
  · exact hy
  · exact hx rfl
def K0 (_ : FuncId) : Bool := false
def X0 (_ : FuncId) (_ : List AV) : Option AV := none
theorem X0_ok : ConX Tryz.prog GG X0 := fun _ _ _ h => by cases h
/-- A step of a table of contracts. -/
theorem conX_step {b : FuncId} {a : List AV} {s : AV} {k : Option AV} {g : FuncId} {args : List AV} {r : AV} (hp : Pure Tryz.prog GG b a s) (hk : pickB (Nat.beq g b && leqQ args a) (some s) k = some r) : Pure Tryz.prog GG g args r ∨ k = some r := by
  cases hb : (Nat.beq g b && leqQ args a)
  · rw [hb] at hk; exact .inr hk
  · rw [hb] at hk
    simp only [Bool.and_eq_true] at hb
    cases hk
    rw [Nat.eq_of_beq_eq_true hb.1]
    exact .inl (Pure.less (G := quiet GG) hp (leqQ_spec _ _ hb.2))
theorem conX_eq {b : FuncId} {a : List AV} {s : AV} {k : Option AV} {g : FuncId} {args : List AV} {r : AV} (hp : Pure Tryz.prog GG b a s) (hk : pickB (Nat.beq g b && eqVL args a) (some s) k = some r) : Pure Tryz.prog GG g args r ∨ k = some r := by
  cases hb : (Nat.beq g b && eqVL args a)
  · rw [hb] at hk; exact .inr hk
  · rw [hb] at hk
    simp only [Bool.and_eq_true] at hb
    cases hk
    rw [Nat.eq_of_beq_eq_true hb.1, eqVL_spec _ _ hb.2]
    exact .inl hp
def looksC (g : Nat) : Look :=
  pickB (Nat.beq g 8) ⟨⟨false, [], [], []⟩, true⟩ <|
  pickB (Nat.beq g 19) ⟨⟨true, [(16, .step 1 [14, 12, 11, 2] (.step 3 [14, 12, 11, 10, 4] (.step 4 [14, 12, 11, 10] (.step 5 [14, 12, 11, 10, 9, 8, 6] (.step 6 [14, 12, 11, 10, 9, 8] (.step 7 [14, 12, 11, 10, 9, 8] (.step 8 [14, 12, 11, 10, 9] (.step 9 [14, 12, 11, 10] (.fork (.cons 0 (.fork (.cons 2 (.fork (.cons 10 (.step 11 [14, 12] (.step 12 [14] (.step 13 [14] (.step 14 [] (.done))))) (.cons 13 (.step 10 [14, 12, 11] (.step 11 [14, 12] (.step 12 [14] (.step 14 [] (.done))))) (.nil)))) (.cons 10 (.step 2 [14, 12, 11] (.step 11 [14, 12] (.step 12 [14] (.step 13 [14] (.step 14 [] (.done)))))) (.cons 13 (.fork (.cons 2 (.step 10 [14, 12, 11] (.step 11 [14, 12] (.step 12 [14] (.step 14 [] (.done))))) (.cons 10 (.step 2 [14, 12, 11] (.step 11 [14, 12] (.step 12 [14] (.step 14 [] (.done))))) (.nil)))) (.nil))))) (.cons 2 (.fork (.cons 0 (.fork (.cons 10 (.step 11 [14, 12] (.step 12 [14] (.step 13 [14] (.step 14 [] (.done))))) (.cons 13 (.step 10 [14, 12, 11] (.step 11 [14, 12] (.step 12 [14] (.step 14 [] (.done))))) (.nil)))) (.cons 10 (.step 0 [14, 12] (.step 11 [14, 12] (.step 12 [14] (.step 13 [14] (.step 14 [] (.done)))))) (.cons 13 (.fork (.cons 0 (.step 10 [14, 12, 11] (.step 11 [14, 12] (.step 12 [14] (.step 14 [] (.done))))) (.cons 10 (.step 0 [14, 12] (.step 11 [14, 12] (.step 12 [14] (.step 14 [] (.done))))) (.nil)))) (.nil))))) (.cons 10 (.step 0 [14, 12] (.step 2 [14, 12, 11] (.step 11 [14, 12] (.step 12 [14] (.step 13 [14] (.step 14 [] (.done))))))) (.cons 13 (.fork (.cons 0 (.fork (.cons 2 (.step 10 [14, 12, 11] (.step 11 [14, 12] (.step 12 [14] (.step 14 [] (.done))))) (.cons 10 (.step 2 [14, 12, 11] (.step 11 [14, 12] (.step 12 [14] (.step 14 [] (.done))))) (.nil)))) (.cons 2 (.fork (.cons 0 (.step 10 [14, 12, 11] (.step 11 [14, 12] (.step 12 [14] (.step 14 [] (.done))))) (.cons 10 (.step 0 [14, 12] (.step 11 [14, 12] (.step 12 [14] (.step 14 [] (.done))))) (.nil)))) (.cons 10 (.step 0 [14, 12] (.step 2 [14, 12, 11] (.step 11 [14, 12] (.step 12 [14] (.step 14 [] (.done)))))) (.nil))))) (.nil))))))))))))), [10]), (29, .step 0 [15, 14, 1] (.step 2 [15, 14] (.step 3 [15, 14, 13, 7, 6, 4] (.step 4 [15, 14, 13, 7, 6] (.step 5 [15, 14, 13, 7, 6] (.step 6 [15, 14, 13, 7] (.step 7 [15, 14, 13] (.step 8 [15, 14, 13, 12, 11, 10] (.step 9 [15, 14, 13, 12, 11, 10] (.step 10 [15, 14, 13, 12, 11] (.step 11 [15, 14, 13, 12] (.step 12 [15, 14, 13] (.fork (.cons 1 (.step 13 [15, 14] (.step 14 [15] (.step 15 [] (.done)))) (.cons 13 (.step 1 [15, 14] (.step 14 [15] (.step 15 [] (.done)))) (.nil))))))))))))))), []), (31, .step 0 [6, 5, 4, 3] (.step 1 [6, 5, 4] (.step 3 [6, 5, 4] (.fork (.cons 2 (.step 4 [6, 5] (.step 5 [6] (.step 6 [] (.done)))) (.cons 4 (.step 2 [6, 5] (.step 5 [6] (.step 6 [] (.done)))) (.nil)))))), [])], [], []⟩, false⟩ <|
  pickB (Nat.beq g 23) ⟨⟨false, [], [], []⟩, true⟩ <|
  pickB (Nat.beq g 34) ⟨⟨false, [(6, .step 0 [7, 6, 1] (.step 2 [7, 6] (.step 3 [7, 6, 5, 4] (.step 4 [7, 6, 5] (.fork (.cons 1 (.step 5 [7, 6] (.step 6 [7] (.step 7 [] (.done)))) (.cons 5 (.step 1 [7, 6] (.step 6 [7] (.step 7 [] (.done)))) (.nil))))))), [])], [], []⟩, true⟩ <|
  pickB (Nat.beq g 35) ⟨⟨false, [(1, .step 0 [7, 6, 5, 2, 1] (.step 1 [7, 6, 5, 2] (.step 2 [7, 6, 5] (.step 3 [7, 6, 5, 4] (.step 4 [7, 6, 5] (.step 5 [7, 6] (.step 6 [7] (.step 7 [] (.done)))))))), [])], [], []⟩, false⟩ <|
  ⟨o0, false⟩
theorem looksC_bw (G : Nat → AV) : ∀ g x k, (looksC g).o.bw.lookup x = some k → BwOk Tryz.prog G x k := by
  intro g x k h
  have e : (looksC g).o.bw = [] := pickB_cases (p := fun l : Look => l.o.bw = []) (fun _ => rfl) (pickB_cases (p := fun l : Look => l.o.bw = []) (fun _ => rfl) (pickB_cases (p := fun l : Look => l.o.bw = []) (fun _ => rfl) (pickB_cases (p := fun l : Look => l.o.bw = []) (fun _ => rfl) (pickB_cases (p := fun l : Look => l.o.bw = []) (fun _ => rfl) (rfl)))))
  rw [e] at h
  cases h
def SC : Nat := 604463198178479778038016
theorem fokC : (List.range 512).all (fun g => !Nat.testBit SC g || okF looksC g) = true := by kernel_rfl
noncomputable def FC : Nat → Option Bod := FF looksC SC
theorem FC_ok : BodOk Tryz.prog GG FC := FF_ok (looksC_bw GG) fokC (by decide +kernel)
def looksD (g : Nat) : Look :=
  pickB (Nat.beq g 37) ⟨⟨false, [(23, .step 0 [4, 3, 2] (.step 1 [4, 3] (.step 2 [4, 3] (.step 3 [4] (.step 4 [] (.done))))), [])], [], []⟩, false⟩ <|
  pickB (Nat.beq g 60) ⟨⟨false, [(4, .step 1 [8, 7, 6] (.step 2 [8, 7, 6, 5, 3] (.fork (.cons 0 (.fork (.cons 3 (.step 4 [8, 7, 6, 5] (.step 5 [8, 7, 6] (.step 6 [8, 7] (.step 7 [8] (.step 8 [] (.done)))))) (.cons 4 (.step 3 [8, 7, 6, 5] (.step 5 [8, 7, 6] (.step 6 [8, 7] (.step 7 [8] (.step 8 [] (.done)))))) (.nil)))) (.cons 3 (.step 4 [8, 7, 6, 5] (.fork (.cons 0 (.step 5 [8, 7, 6] (.step 6 [8, 7] (.step 7 [8] (.step 8 [] (.done))))) (.cons 5 (.step 0 [8, 7, 6] (.step 6 [8, 7] (.step 7 [8] (.step 8 [] (.done))))) (.nil))))) (.cons 4 (.fork (.cons 0 (.step 3 [8, 7, 6, 5] (.step 5 [8, 7, 6] (.step 6 [8, 7] (.step 7 [8] (.step 8 [] (.done)))))) (.cons 3 (.fork (.cons 0 (.step 5 [8, 7, 6] (.step 6 [8, 7] (.step 7 [8] (.step 8 [] (.done))))) (.cons 5 (.step 0 [8, 7, 6] (.step 6 [8, 7] (.step 7 [8] (.step 8 [] (.done))))) (.nil)))) (.nil)))) (.nil)))))), [3, 5])], [], []⟩, true⟩ <|
  pickB (Nat.beq g 61) ⟨⟨false, [], [], []⟩, true⟩ <|
  pickB (Nat.beq g 62) ⟨⟨false, [(4, .step 0 [4, 3, 2] (.step 1 [4, 3] (.step 2 [4, 3] (.step 3 [4] (.step 4 [] (.done))))), [])], [], []⟩, true⟩ <|
  pickB (Nat.beq g 63) ⟨⟨false, [], [], []⟩, true⟩ <|
  pickB (Nat.beq g 91) ⟨⟨false, [], [], []⟩, true⟩ <|
  pickB (Nat.beq g 191) ⟨⟨true, [(7, .step 0 [10, 9] (.step 1 [10, 9, 8, 7, 2] (.step 2 [10, 9, 8, 7] (.step 3 [10, 9, 8, 7, 6, 5] (.step 4 [10, 9, 8, 7, 6, 5] (.step 5 [10, 9, 8, 7, 6] (.step 6 [10, 9, 8, 7] (.step 7 [10, 9, 8] (.step 8 [10, 9] (.step 9 [10] (.step 10 [] (.done))))))))))), [])], [], []⟩, true⟩ <|
  pickB (Nat.beq g 88) ⟨⟨false, [], [], []⟩, true⟩ <|
  pickB (Nat.beq g 89) ⟨⟨false, [], [], []⟩, true⟩ <|
  pickB (Nat.beq g 92) ⟨⟨false, [], [], []⟩, true⟩ <|
  pickB (Nat.beq g 93) ⟨⟨false, [], [], []⟩, true⟩ <|
  pickB (Nat.beq g 94) ⟨⟨true, [], [], []⟩, true⟩ <|
  pickB (Nat.beq g 121) ⟨⟨false, [], [], []⟩, true⟩ <|
  pickB (Nat.beq g 124) ⟨⟨false, [(8, .step 0 [7, 6, 5, 3, 2, 1] (.step 1 [7, 6, 5, 3, 2] (.step 2 [7, 6, 5, 3] (.step 3 [7, 6, 5] (.fork (.cons 4 (.step 5 [7, 6] (.step 6 [7] (.step 7 [] (.done)))) (.cons 5 (.step 4 [7, 6] (.step 6 [7] (.step 7 [] (.done)))) (.nil))))))), [])], [], []⟩, false⟩ <|
  pickB (Nat.beq g 126) ⟨⟨false, [], [], []⟩, true⟩ <|
  pickB (Nat.beq g 127) ⟨⟨false, [(13, .step 0 [15, 14] (.step 1 [15, 14] (.step 2 [15, 14] (.step 3 [15, 14] (.step 4 [15, 14, 13, 6, 5] (.step 7 [15, 14, 13, 12] (.step 8 [15, 14, 13, 12, 9] (.step 9 [15, 14, 13, 12] (.step 10 [15, 14, 13, 12] (.step 11 [15, 14, 13, 12] (.fork (.cons 5 (.step 6 [15, 14, 13] (.step 12 [15, 14, 13] (.step 13 [15, 14] (.step 14 [15] (.step 15 [] (.done)))))) (.cons 12 (.step 5 [15, 14, 13, 6] (.step 6 [15, 14, 13] (.step 13 [15, 14] (.step 14 [15] (.step 15 [] (.done)))))) (.nil))))))))))))), [12, 14])], [], []⟩, true⟩ <|
  pickB (Nat.beq g 131) ⟨⟨false, [(6, .step 0 [10, 9] (.step 1 [10, 9, 8, 7, 6, 5, 4, 3, 2] (.step 2 [10, 9, 8, 7, 6, 5, 4, 3] (.step 3 [10, 9, 8, 7, 6, 5, 4] (.step 4 [10, 9, 8, 7, 6, 5] (.step 5 [10, 9, 8, 7, 6] (.step 6 [10, 9, 8] (.step 7 [10, 9] (.step 8 [10, 9] (.step 9 [10] (.step 10 [] (.done))))))))))), [])], [], []⟩, true⟩ <|
  pickB (Nat.beq g 132) ⟨⟨false, [(3, .step 0 [3, 2] (.step 1 [3] (.step 2 [3] (.step 3 [] (.done)))), [])], [], []⟩, false⟩ <|
  pickB (Nat.beq g 164) ⟨⟨false, [(3, .step 2 [7, 6, 5, 3] (.fork (.cons 0 (.fork (.cons 1 (.fork (.cons 3 (.step 4 [7, 6, 5] (.step 5 [7, 6] (.step 6 [7] (.step 7 [] (.done))))) (.cons 4 (.step 3 [7, 6, 5] (.step 5 [7, 6] (.step 6 [7] (.step 7 [] (.done))))) (.nil)))) (.cons 3 (.step 1 [7, 6, 5] (.step 4 [7, 6, 5] (.step 5 [7, 6] (.step 6 [7] (.step 7 [] (.done)))))) (.cons 4 (.fork (.cons 1 (.step 3 [7, 6, 5] (.step 5 [7, 6] (.step 6 [7] (.step 7 [] (.done))))) (.cons 3 (.step 1 [7, 6, 5] (.step 5 [7, 6] (.step 6 [7] (.step 7 [] (.done))))) (.nil)))) (.nil))))) (.cons 1 (.fork (.cons 0 (.fork (.cons 3 (.step 4 [7, 6, 5] (.step 5 [7, 6] (.step 6 [7] (.step 7 [] (.done))))) (.cons 4 (.step 3 [7, 6, 5] (.step 5 [7, 6] (.step 6 [7] (.step 7 [] (.done))))) (.nil)))) (.cons 3 (.step 0 [7, 6, 5] (.step 4 [7, 6, 5] (.step 5 [7, 6] (.step 6 [7] (.step 7 [] (.done)))))) (.cons 4 (.fork (.cons 0 (.step 3 [7, 6, 5] (.step 5 [7, 6] (.step 6 [7] (.step 7 [] (.done))))) (.cons 3 (.step 0 [7, 6, 5] (.step 5 [7, 6] (.step 6 [7] (.step 7 [] (.done))))) (.nil)))) (.nil))))) (.cons 3 (.step 0 [7, 6, 5] (.step 1 [7, 6, 5] (.step 4 [7, 6, 5] (.step 5 [7, 6] (.step 6 [7] (.step 7 [] (.done))))))) (.cons 4 (.fork (.cons 0 (.fork (.cons 1 (.step 3 [7, 6, 5] (.step 5 [7, 6] (.step 6 [7] (.step 7 [] (.done))))) (.cons 3 (.step 1 [7, 6, 5] (.step 5 [7, 6] (.step 6 [7] (.step 7 [] (.done))))) (.nil)))) (.cons 1 (.fork (.cons 0 (.step 3 [7, 6, 5] (.step 5 [7, 6] (.step 6 [7] (.step 7 [] (.done))))) (.cons 3 (.step 0 [7, 6, 5] (.step 5 [7, 6] (.step 6 [7] (.step 7 [] (.done))))) (.nil)))) (.cons 3 (.step 0 [7, 6, 5] (.step 1 [7, 6, 5] (.step 5 [7, 6] (.step 6 [7] (.step 7 [] (.done)))))) (.nil))))) (.nil)))))), [3]), (7, .step 0 [7, 3, 2, 1] (.step 1 [7, 3, 2] (.step 2 [7, 3] (.step 3 [7] (.step 4 [7, 5] (.step 5 [7] (.step 6 [7] (.step 7 [] (.done)))))))), []), (9, .step 0 [8, 7] (.step 1 [8, 7, 6, 4, 3, 2] (.step 2 [8, 7, 6, 4, 3] (.step 3 [8, 7, 6, 4] (.step 4 [8, 7, 6] (.step 5 [8, 7, 6] (.step 6 [8, 7] (.step 7 [8] (.step 8 [] (.done))))))))), [6])], [], []⟩, true⟩ <|
  pickB (Nat.beq g 166) ⟨⟨false, [(0, .step 1 [5, 4, 3] (.step 2 [5, 4, 3] (.fork (.cons 0 (.step 3 [5, 4] (.step 4 [5] (.step 5 [] (.done)))) (.cons 3 (.step 0 [5, 4] (.step 4 [5] (.step 5 [] (.done)))) (.nil))))), [3, 4])], [], []⟩, true⟩ <|
  pickB (Nat.beq g 167) ⟨⟨false, [], [], []⟩, true⟩ <|
  pickB (Nat.beq g 168) ⟨⟨false, [(13, .step 1 [8, 7, 6, 5] (.step 2 [8, 7, 6, 5, 4, 3] (.step 3 [8, 7, 6, 5, 4] (.step 4 [8, 7, 6, 5] (.fork (.cons 0 (.step 5 [8, 7, 6] (.step 6 [8, 7] (.step 7 [8] (.step 8 [] (.done))))) (.cons 5 (.step 0 [8, 7, 6] (.step 6 [8, 7] (.step 7 [8] (.step 8 [] (.done))))) (.nil))))))), [5, 6]), (15, .step 0 [5, 4] (.step 1 [5, 4, 3, 2] (.step 2 [5, 4, 3] (.step 3 [5, 4] (.step 4 [5] (.step 5 [] (.done)))))), [4]), (17, .step 0 [6, 5] (.step 1 [6, 5] (.step 2 [6, 5, 4, 3] (.step 3 [6, 5, 4] (.step 4 [6, 5] (.step 5 [6] (.step 6 [] (.done))))))), [5]), (19, .step 0 [5, 4] (.step 1 [5, 4, 3, 2] (.step 2 [5, 4, 3] (.step 3 [5, 4] (.step 4 [5] (.step 5 [] (.done)))))), [4]), (21, .step 0 [8, 7, 6] (.step 1 [8, 7, 6, 3, 2] (.step 2 [8, 7, 6, 3] (.step 3 [8, 7, 6] (.step 4 [8, 7, 6, 5] (.step 5 [8, 7, 6] (.step 6 [8, 7] (.step 7 [8] (.step 8 [] (.done))))))))), [6]), (23, .step 0 [6, 4] (.step 1 [6, 4, 3, 2] (.step 2 [6, 4, 3] (.step 3 [6, 4] (.fork (.cons 4 (.step 5 [6] (.step 6 [] (.done))) (.cons 5 (.step 4 [6] (.step 6 [] (.done))) (.nil))))))), [4]), (24, .step 0 [8, 7, 2, 1] (.step 1 [8, 7, 2] (.step 2 [8, 7] (.step 3 [8, 7, 5, 4] (.step 4 [8, 7, 5] (.step 5 [8, 7] (.step 6 [8, 7] (.step 7 [8] (.step 8 [] (.done))))))))), [7]), (25, .step 0 [10, 9] (.step 1 [10, 9, 2] (.step 2 [10, 9] (.step 3 [10, 9, 5, 4] (.step 4 [10, 9, 5] (.step 5 [10, 9] (.step 6 [10, 9, 8, 7] (.step 7 [10, 9, 8] (.step 8 [10, 9] (.step 9 [10] (.step 10 [] (.done))))))))))), [9])], [], []⟩, true⟩ <|
  pickB (Nat.beq g 169) ⟨⟨false, [(4, .step 0 [13, 12, 11, 10, 9, 8, 7, 3, 2, 1] (.step 1 [13, 12, 11, 10, 9, 8, 7, 3, 2] (.step 2 [13, 12, 11, 10, 9, 8, 7, 3] (.step 4 [13, 12, 11, 10, 9, 8, 7, 6] (.step 5 [13, 12, 11, 10, 9, 8, 7, 6] (.fork (.cons 3 (.step 6 [13, 12, 11, 10, 9, 8, 7] (.step 7 [13, 12, 11, 10, 9, 8] (.step 8 [13, 12, 11] (.step 9 [13, 12, 11] (.step 10 [13, 12, 11] (.step 11 [13, 12] (.step 12 [13] (.step 13 [] (.done))))))))) (.cons 6 (.step 3 [13, 12, 11, 10, 9, 8, 7] (.step 7 [13, 12, 11, 10, 9, 8] (.step 8 [13, 12, 11] (.step 9 [13, 12, 11] (.step 10 [13, 12, 11] (.step 11 [13, 12] (.step 12 [13] (.step 13 [] (.done))))))))) (.nil)))))))), [6, 7])], [], []⟩, true⟩ <|
  pickB (Nat.beq g 171) ⟨⟨false, [], [], []⟩, true⟩ <|
  pickB (Nat.beq g 154) ⟨⟨false, [(9, .step 1 [9, 8, 7] (.step 2 [9, 8, 7, 5, 4, 3] (.step 3 [9, 8, 7, 5, 4] (.step 4 [9, 8, 7, 5] (.step 6 [9, 8, 7] (.fork (.cons 0 (.step 5 [9, 8, 7] (.step 7 [9, 8] (.step 8 [9] (.step 9 [] (.done))))) (.cons 5 (.step 0 [9, 8, 7] (.step 7 [9, 8] (.step 8 [9] (.step 9 [] (.done))))) (.nil)))))))), []), (14, .step 0 [8, 7, 3, 2, 1] (.step 1 [8, 7, 3, 2] (.step 2 [8, 7, 3] (.step 3 [8, 7] (.step 4 [8, 7] (.step 5 [8, 7, 6] (.step 6 [8, 7] (.step 7 [8] (.step 8 [] (.done))))))))), [])], [], []⟩, true⟩ <|
  pickB (Nat.beq g 155) ⟨⟨false, [(1, .step 0 [9, 8, 3, 2, 1] (.step 1 [9, 8, 3, 2] (.step 2 [9, 8, 3] (.step 3 [9, 8] (.step 4 [9, 8, 7, 6, 5] (.step 5 [9, 8, 7, 6] (.step 6 [9, 8, 7] (.step 7 [9, 8] (.step 8 [9] (.step 9 [] (.done)))))))))), [8])], [], []⟩, true⟩ <|
  pickB (Nat.beq g 203) ⟨⟨false, [], [], []⟩, true⟩ <|
  pickB (Nat.beq g 205) ⟨⟨false, [], [], []⟩, true⟩ <|
  pickB (Nat.beq g 207) ⟨⟨false, [(9, .step 0 [25, 24] (.step 1 [25, 24, 23] (.step 2 [25, 24, 23, 22, 21, 20, 19, 5, 4, 3] (.step 3 [25, 24, 23, 22, 21, 20, 19, 5, 4] (.step 4 [25, 24, 23, 22, 21, 20, 19, 5] (.step 5 [25, 24, 23, 22, 21, 20, 19] (.step 6 [25, 24, 23, 22, 21, 20, 19, 18, 16, 15, 12, 11, 9, 8, 7] (.step 7 [25, 24, 23, 22, 21, 20, 19, 18, 16, 15, 12, 11, 9, 8] (.step 8 [25, 24, 23, 22, 21, 20, 19, 18, 16, 15, 12, 11, 9] (.step 9 [25, 24, 23, 22, 21, 20, 19, 18, 16, 15, 12, 11] (.step 10 [25, 24, 23, 22, 21, 20, 19, 18, 16, 15, 12, 11] (.step 11 [25, 24, 23, 22, 21, 20, 19, 18, 16, 15, 12] (.step 12 [25, 24, 23, 22, 21, 20, 19, 18, 16, 15] (.step 13 [25, 24, 23, 22, 21, 20, 19, 18, 16, 15, 14] (.step 14 [25, 24, 23, 22, 21, 20, 19, 18, 16, 15] (.step 15 [25, 24, 23, 22, 21, 20, 19, 18, 16] (.step 16 [25, 24, 23, 22, 21, 20, 19, 18] (.step 17 [25, 24, 23, 22, 21, 20, 19, 18] (.step 18 [25, 24, 23, 22, 21, 20, 19] (.step 19 [25, 24, 23, 22, 21, 20] (.step 20 [25, 24, 23] (.step 21 [25, 24, 23] (.step 22 [25, 24, 23] (.step 23 [25, 24] (.step 24 [25] (.step 25 [] (.done)))))))))))))))))))))))))), [23])], [], []⟩, true⟩ <|
  pickB (Nat.beq g 209) ⟨⟨false, [], [], []⟩, true⟩ <|
  pickB (Nat.beq g 213) ⟨⟨false, [(5, .step 0 [9, 8] (.step 1 [9, 8, 7] (.step 2 [9, 8, 7] (.step 3 [9, 8, 7, 6, 5] (.step 4 [9, 8, 7, 6, 5] (.step 5 [9, 8, 7, 6] (.step 6 [9, 8, 7] (.step 7 [9, 8] (.step 8 [9] (.step 9 [] (.done)))))))))), [7, 8]), (6, .step 0 [10, 9] (.step 1 [10, 9, 8] (.step 2 [10, 9, 8, 6, 5] (.step 3 [10, 9, 8, 6, 5, 4] (.step 4 [10, 9, 8, 6, 5] (.step 5 [10, 9, 8, 6] (.step 6 [10, 9, 8] (.step 7 [10, 9, 8] (.step 8 [10, 9] (.step 9 [10] (.step 10 [] (.done))))))))))), [8, 9])], [], []⟩, true⟩ <|
  pickB (Nat.beq g 219) ⟨⟨false, [(5, .step 0 [6, 3, 2, 1] (.step 1 [6, 3, 2] (.step 2 [6, 3] (.step 3 [6] (.step 4 [6] (.step 5 [6] (.step 6 [] (.done))))))), [])], [], []⟩, true⟩ <|
  pickB (Nat.beq g 220) ⟨⟨false, [], [], []⟩, true⟩ <|
  pickB (Nat.beq g 221) ⟨⟨false, [(5, .step 0 [13, 3, 2, 1] (.step 1 [13, 3, 2] (.step 2 [13, 3] (.step 3 [13] (.step 4 [13, 6, 5] (.step 5 [13, 6] (.step 6 [13] (.step 7 [13, 9, 8] (.step 8 [13, 9] (.step 9 [13] (.step 10 [13, 12, 11] (.step 11 [13, 12] (.step 12 [13] (.step 13 [] (.done)))))))))))))), [13]), (11, .step 0 [27, 26] (.step 1 [27, 26, 25, 24, 16, 8, 4, 3, 2] (.step 2 [27, 26, 25, 24, 16, 8, 4, 3] (.step 3 [27, 26, 25, 24, 16, 8, 4] (.step 4 [27, 26, 25, 24, 16, 8] (.step 5 [27, 26, 25, 24, 16, 8, 6] (.step 6 [27, 26, 25, 24, 16, 8] (.step 7 [27, 26, 25, 24, 16, 8] (.step 8 [27, 26, 25, 24, 16] (.step 9 [27, 26, 25, 24, 16, 12, 11, 10] (.step 10 [27, 26, 25, 24, 16, 12, 11] (.step 11 [27, 26, 25, 24, 16, 12] (.step 12 [27, 26, 25, 24, 16] (.step 13 [27, 26, 25, 24, 16, 14] (.step 14 [27, 26, 25, 24, 16] (.step 15 [27, 26, 25, 24, 16] (.step 16 [27, 26, 25, 24] (.step 17 [27, 26, 25, 24, 20, 19, 18] (.step 18 [27, 26, 25, 24, 20, 19] (.step 19 [27, 26, 25, 24, 20] (.step 20 [27, 26, 25, 24] (.step 21 [27, 26, 25, 24, 22] (.step 22 [27, 26, 25, 24] (.step 23 [27, 26, 25, 24] (.step 24 [27, 26, 25] (.step 25 [27, 26] (.step 26 [27] (.step 27 [] (.done)))))))))))))))))))))))))))), [26]), (12, .step 0 [27, 26] (.step 1 [27, 26, 25, 24, 16, 8, 4, 3, 2] (.step 2 [27, 26, 25, 24, 16, 8, 4, 3] (.step 3 [27, 26, 25, 24, 16, 8, 4] (.step 4 [27, 26, 25, 24, 16, 8] (.step 5 [27, 26, 25, 24, 16, 8, 6] (.step 6 [27, 26, 25, 24, 16, 8] (.step 7 [27, 26, 25, 24, 16, 8] (.step 8 [27, 26, 25, 24, 16] (.step 9 [27, 26, 25, 24, 16, 12, 11, 10] (.step 10 [27, 26, 25, 24, 16, 12, 11] (.step 11 [27, 26, 25, 24, 16, 12] (.step 12 [27, 26, 25, 24, 16] (.step 13 [27, 26, 25, 24, 16, 14] (.step 14 [27, 26, 25, 24, 16] (.step 15 [27, 26, 25, 24, 16] (.step 16 [27, 26, 25, 24] (.step 17 [27, 26, 25, 24, 20, 19, 18] (.step 18 [27, 26, 25, 24, 20, 19] (.step 19 [27, 26, 25, 24, 20] (.step 20 [27, 26, 25, 24] (.step 21 [27, 26, 25, 24, 22] (.step 22 [27, 26, 25, 24] (.step 23 [27, 26, 25, 24] (.step 24 [27, 26, 25] (.step 25 [27, 26] (.step 26 [27] (.step 27 [] (.done)))))))))))))))))))))))))))), [26]), (14, .step 0 [6, 3, 2, 1] (.step 1 [6, 3, 2] (.step 2 [6, 3] (.step 3 [6] (.step 4 [6] (.step 5 [6] (.step 6 [] (.done))))))), [])], [], []⟩, true⟩ <|
  pickB (Nat.beq g 192) ⟨⟨false, [], [], []⟩, true⟩ <|
  pickB (Nat.beq g 251) ⟨⟨false, [], [], []⟩, true⟩ <|
  pickB (Nat.beq g 256) ⟨⟨false, [(5, .step 0 [10, 9] (.step 1 [10, 9, 5] (.step 2 [10, 9, 5, 4, 3] (.step 3 [10, 9, 5, 4] (.step 4 [10, 9, 5] (.step 6 [10, 9, 8, 7] (.step 7 [10, 9, 8] (.fork (.cons 5 (.step 8 [10, 9] (.step 9 [10] (.step 10 [] (.done)))) (.cons 8 (.step 5 [10, 9] (.step 9 [10] (.step 10 [] (.done)))) (.nil)))))))))), [5, 9]), (6, .step 0 [13, 12] (.step 1 [13, 12, 10] (.step 2 [13, 12, 10, 9] (.step 3 [13, 12, 10, 9, 5, 4] (.step 4 [13, 12, 10, 9, 5] (.step 5 [13, 12, 10, 9] (.step 6 [13, 12, 10, 9, 8, 7] (.step 7 [13, 12, 10, 9, 8] (.step 8 [13, 12, 10, 9] (.step 11 [13, 12] (.step 9 [13, 12, 10] (.step 10 [13, 12] (.step 12 [13] (.step 13 [] (.done)))))))))))))), [9, 10, 12])], [], []⟩, true⟩ <|
  pickB (Nat.beq g 257) ⟨⟨false, [], [], []⟩, true⟩ <|
  pickB (Nat.beq g 260) ⟨⟨false, [], [], []⟩, true⟩ <|
  pickB (Nat.beq g 264) ⟨⟨false, [], [], []⟩, true⟩ <|
  pickB (Nat.beq g 266) ⟨⟨false, [(10, .step 0 [10, 3, 2, 1] (.step 1 [10, 3, 2] (.step 2 [10, 3] (.step 3 [10] (.step 4 [10] (.step 5 [10, 9, 8, 7, 6] (.step 6 [10, 9, 8, 7] (.step 7 [10, 9, 8] (.step 8 [10, 9] (.step 9 [10] (.step 10 [] (.done))))))))))), []), (11, .step 0 [10, 9, 8] (.step 1 [10, 9, 8, 7, 4, 3, 2] (.step 2 [10, 9, 8, 7, 4, 3] (.step 3 [10, 9, 8, 7, 4] (.step 4 [10, 9, 8, 7] (.step 5 [10, 9, 8, 7, 6] (.step 6 [10, 9, 8, 7] (.step 7 [10, 9, 8] (.step 8 [10, 9] (.step 9 [10] (.step 10 [] (.done))))))))))), [])], [], []⟩, true⟩ <|
  ⟨o0, false⟩
theorem looksD_bw (G : Nat → AV) : ∀ g x k, (looksD g).o.bw.lookup x = some k → BwOk Tryz.prog G x k := by
  intro g x k h
  have e : (looksD g).o.bw = [] := pickB_cases (p := fun l : Look => l.o.bw = []) (fun _ => rfl) (pickB_cases (p := fun l : Look => l.o.bw = []) (fun _ => rfl) (pickB_cases (p := fun l : Look => l.o.bw = []) (fun _ => rfl) (pickB_cases (p := fun l : Look => l.o.bw = []) (fun _ => rfl) (pickB_cases (p := fun l : Look => l.o.bw = []) (fun _ => rfl) (pickB_cases (p := fun l : Look => l.o.bw = []) (fun _ => rfl) (pickB_cases (p := fun l : Look => l.o.bw = []) (fun _ => rfl) (pickB_cases (p := fun l : Look => l.o.bw = []) (fun _ => rfl) (pickB_cases (p := fun l : Look => l.o.bw = []) (fun _ => rfl) (pickB_cases (p := fun l : Look => l.o.bw = []) (fun _ => rfl) (pickB_cases (p := fun l : Look => l.o.bw = []) (fun _ => rfl) (pickB_cases (p := fun l : Look => l.o.bw = []) (fun _ => rfl) (pickB_cases (p := fun l : Look => l.o.bw = []) (fun _ => rfl) (pickB_cases (p := fun l : Look => l.o.bw = []) (fun _ => rfl) (pickB_cases (p := fun l : Look => l.o.bw = []) (fun _ => rfl) (pickB_cases (p := fun l : Look => l.o.bw = []) (fun _ => rfl) (pickB_cases (p := fun l : Look => l.o.bw = []) (fun _ => rfl) (pickB_cases (p := fun l : Look => l.o.bw = []) (fun _ => rfl) (pickB_cases (p := fun l : Look => l.o.bw = []) (fun _ => rfl) (pickB_cases (p := fun l : Look => l.o.bw = []) (fun _ => rfl) (pickB_cases (p := fun l : Look => l.o.bw = []) (fun _ => rfl) (pickB_cases (p := fun l : Look => l.o.bw = []) (fun _ => rfl) (pickB_cases (p := fun l : Look => l.o.bw = []) (fun _ => rfl) (pickB_cases (p := fun l : Look => l.o.bw = []) (fun _ => rfl) (pickB_cases (p := fun l : Look => l.o.bw = []) (fun _ => rfl) (pickB_cases (p := fun l : Look => l.o.bw = []) (fun _ => rfl) (pickB_cases (p := fun l : Look => l.o.bw = []) (fun _ => rfl) (pickB_cases (p := fun l : Look => l.o.bw = []) (fun _ => rfl) (pickB_cases (p := fun l : Look => l.o.bw = []) (fun _ => rfl) (pickB_cases (p := fun l : Look => l.o.bw = []) (fun _ => rfl) (pickB_cases (p := fun l : Look => l.o.bw = []) (fun _ => rfl) (pickB_cases (p := fun l : Look => l.o.bw = []) (fun _ => rfl) (pickB_cases (p := fun l : Look => l.o.bw = []) (fun _ => rfl) (pickB_cases (p := fun l : Look => l.o.bw = []) (fun _ => rfl) (pickB_cases (p := fun l : Look => l.o.bw = []) (fun _ => rfl) (pickB_cases (p := fun l : Look => l.o.bw = []) (fun _ => rfl) (pickB_cases (p := fun l : Look => l.o.bw = []) (fun _ => rfl) (pickB_cases (p := fun l : Look => l.o.bw = []) (fun _ => rfl) (pickB_cases (p := fun l : Look => l.o.bw = []) (fun _ => rfl) (pickB_cases (p := fun l : Look => l.o.bw = []) (fun _ => rfl) (pickB_cases (p := fun l : Look => l.o.bw = []) (fun _ => rfl) (rfl)))))))))))))))))))))))))))))))))))))))))
  rw [e] at h
  cases h
def SD : Nat := 104017619170806421033888238379199046621748094690517100200662656308857197071589113524784201728
theorem fokD : (List.range 512).all (fun g => !Nat.testBit SD g || okF looksD g) = true := by kernel_rfl
noncomputable def FD : Nat → Option Bod := FF looksD SD
theorem FD_ok : BodOk Tryz.prog GG FD := FF_ok (looksD_bw GG) fokD (by decide +kernel)
def looksR (g : Nat) : Look :=
  pickB (Nat.beq g 56) ⟨⟨false, [], [], []⟩, true⟩ <|
  ⟨o0, false⟩
theorem looksR_bw (G : Nat → AV) : ∀ g x k, (looksR g).o.bw.lookup x = some k → BwOk Tryz.prog G x k := by
  intro g x k h
  have e : (looksR g).o.bw = [] := pickB_cases (p := fun l : Look => l.o.bw = []) (fun _ => rfl) (rfl)
  rw [e] at h
  cases h
def SR : Nat := 77371252671509057884913664
theorem fokR : (List.range 512).all (fun g => !Nat.testBit SR g || okF looksR g) = true := by kernel_rfl
noncomputable def FR : Nat → Option Bod := FF looksR SR
theorem FR_ok : BodOk Tryz.prog GG FR := FF_ok (looksR_bw GG) fokR (by decide +kernel)
def looksV (g : Nat) : Look :=
  pickB (Nat.beq g 69) ⟨⟨true, [], [], []⟩, false⟩ <|
  pickB (Nat.beq g 102) ⟨⟨true, [], [], []⟩, true⟩ <|
  ⟨o0, false⟩
theorem looksV_bw (G : Nat → AV) : ∀ g x k, (looksV g).o.bw.lookup x = some k → BwOk Tryz.prog G x k := by
  intro g x k h
  have e : (looksV g).o.bw = [] := pickB_cases (p := fun l : Look => l.o.bw = []) (fun _ => rfl) (pickB_cases (p := fun l : Look => l.o.bw = []) (fun _ => rfl) (rfl))
  rw [e] at h
  cases h
def SV : Nat := 91183484681608806042543681889267083221372200278845030400
theorem fokV : (List.range 512).all (fun g => !Nat.testBit SV g || okF looksV g) = true := by kernel_rfl
noncomputable def FV : Nat → Option Bod := FF looksV SV
theorem FV_ok : BodOk Tryz.prog GG FV := FF_ok (looksV_bw GG) fokV (by decide +kernel)
def looksW (g : Nat) : Look :=
  pickB (Nat.beq g 6) ⟨⟨false, [(2, .step 0 [15, 14, 13, 12, 9, 8, 7, 6, 5, 4] (.step 1 [15, 14, 13, 12, 9, 8, 7, 6, 5, 4, 2] (.step 2 [15, 14, 13, 12, 9, 8, 7, 6, 5, 4] (.step 3 [15, 14, 13, 12, 9, 8, 7, 6, 5, 4] (.step 4 [15, 14, 13, 12, 9, 8, 7, 6, 5] (.step 5 [15, 14, 13, 12, 9, 8, 7, 6] (.step 6 [15, 14, 13, 12] (.step 7 [15, 14, 13] (.step 8 [15, 14] (.step 9 [15] (.fork (.cons 10 (.step 11 [15, 14, 13, 12] (.step 12 [15, 14, 13] (.step 13 [15, 14] (.step 14 [15] (.step 15 [] (.done)))))) (.cons 11 (.step 10 [15, 14, 13, 12] (.step 12 [15, 14, 13] (.step 13 [15, 14] (.step 14 [15] (.step 15 [] (.done)))))) (.nil))))))))))))), [])], [], []⟩, false⟩ <|
  ⟨o0, false⟩
theorem looksW_bw (G : Nat → AV) : ∀ g x k, (looksW g).o.bw.lookup x = some k → BwOk Tryz.prog G x k := by
  intro g x k h
  have e : (looksW g).o.bw = [] := pickB_cases (p := fun l : Look => l.o.bw = []) (fun _ => rfl) (rfl)
  rw [e] at h
  cases h
def SW : Nat := 604462909948052086465856
theorem fokW : (List.range 512).all (fun g => !Nat.testBit SW g || okF looksW g) = true := by kernel_rfl
noncomputable def FW : Nat → Option Bod := FF looksW SW
theorem FW_ok : BodOk Tryz.prog GG FW := FF_ok (looksW_bw GG) fokW (by decide +kernel)
end
theorem valid0F : Pure Tryz.prog GG 20 [.agg [.sl 4 [[.str [97], .int .i64 1, .int .i64 2, .int .i64 0]] .tight, .sl 0 [] .nil, .sl 0 [] .nil, .sl 0 [] .nil, .sl 1 [[.sl 1 [[.int .i64 0]] .tight]] .tight]] (.int .i64 0) := Pure.closedA FV_ok (K := K0) X0_ok 2000 60 (by kernel_rfl)
theorem valid1F : Pure Tryz.prog GG 20 [.agg [.sl 4 [[.str [97], .int .i64 1, .int .i64 2, .int .i64 0]] .tight, .sl 4 [[.int .i64 23, .int .i64 0, .str [], .sl 4 [[.int .i64 2, .int .i64 0, .str [97], .sl 0 [] .nil], [.int .i64 1, .int .i64 0, .str [], .sl 0 [] .nil], [.int .i64 1, .int .i64 0, .str [], .sl 0 [] .nil]] .none]] .none, .sl 0 [] .nil, .sl 0 [] .nil, .sl 1 [[.sl 1 [[.int .i64 0]] .tight]] .tight]] (.int .i64 0) := Pure.closedA FV_ok (K := K0) X0_ok 2000 60 (by kernel_rfl)
def KV (g : FuncId) : Bool := Nat.beq g 20
def XV (g : FuncId) (args : List AV) : Option AV :=
  pickB (Nat.beq g 20 && leqQ args [.agg [.sl 4 [[.str [97], .int .i64 1, .int .i64 2, .int .i64 0]] .tight, .sl 0 [] .nil, .sl 0 [] .nil, .sl 0 [] .nil, .sl 1 [[.sl 1 [[.int .i64 0]] .tight]] .tight]]) (some (.int .i64 0)) <|
  pickB (Nat.beq g 20 && leqQ args [.agg [.sl 4 [[.str [97], .int .i64 1, .int .i64 2, .int .i64 0]] .tight, .sl 4 [[.int .i64 23, .int .i64 0, .str [], .sl 4 [[.int .i64 2, .int .i64 0, .str [97], .sl 0 [] .nil], [.int .i64 1, .int .i64 0, .str [], .sl 0 [] .nil], [.int .i64 1, .int .i64 0, .str [], .sl 0 [] .nil]] .none]] .none, .sl 0 [] .nil, .sl 0 [] .nil, .sl 1 [[.sl 1 [[.int .i64 0]] .tight]] .tight]]) (some (.int .i64 0)) <|
  none
theorem XV_ok : ConX Tryz.prog GG XV := by
  intro g args r h
  unfold XV at h
  rcases conX_step valid0F h with h | h
  · exact h
  rcases conX_step valid1F h with h | h
  · exact h
  cases h
theorem kept0F : Pure Tryz.prog GG 55 [.agg [.sl 4 [[.str [97], .int .i64 1, .int .i64 2, .int .i64 0]] .tight, .sl 0 [] .nil, .sl 0 [] .nil, .sl 0 [] .nil, .sl 1 [[.sl 1 [[.int .i64 0]] .tight]] .tight]] (.tup [.sl 1 [] .none, .int .i64 0]) := Pure.closedA FD_ok (K := KV) XV_ok 2000 60 (by kernel_rfl)
def KQ0 (g : FuncId) : Bool := Nat.beq g 20 || Nat.beq g 55
def XQ0 (g : FuncId) (args : List AV) : Option AV :=
  pickB (Nat.beq g 20 && leqQ args [.agg [.sl 4 [[.str [97], .int .i64 1, .int .i64 2, .int .i64 0]] .tight, .sl 0 [] .nil, .sl 0 [] .nil, .sl 0 [] .nil, .sl 1 [[.sl 1 [[.int .i64 0]] .tight]] .tight]]) (some (.int .i64 0)) <|
  pickB (Nat.beq g 20 && leqQ args [.agg [.sl 4 [[.str [97], .int .i64 1, .int .i64 2, .int .i64 0]] .tight, .sl 4 [[.int .i64 23, .int .i64 0, .str [], .sl 4 [[.int .i64 2, .int .i64 0, .str [97], .sl 0 [] .nil], [.int .i64 1, .int .i64 0, .str [], .sl 0 [] .nil], [.int .i64 1, .int .i64 0, .str [], .sl 0 [] .nil]] .none]] .none, .sl 0 [] .nil, .sl 0 [] .nil, .sl 1 [[.sl 1 [[.int .i64 0]] .tight]] .tight]]) (some (.int .i64 0)) <|
  pickB (Nat.beq g 55 && leqQ args [.agg [.sl 4 [[.str [97], .int .i64 1, .int .i64 2, .int .i64 0]] .tight, .sl 0 [] .nil, .sl 0 [] .nil, .sl 0 [] .nil, .sl 1 [[.sl 1 [[.int .i64 0]] .tight]] .tight]]) (some (.tup [.sl 1 [] .none, .int .i64 0])) <|
  none
theorem XQ0_ok : ConX Tryz.prog GG XQ0 := by
  intro g args r h
  unfold XQ0 at h
  rcases conX_step valid0F h with h | h
  · exact h
  rcases conX_step valid1F h with h | h
  · exact h
  rcases conX_step kept0F h with h | h
  · exact h
  cases h
theorem rules0F : Pure Tryz.prog GG 33 [.agg [.sl 4 [[.str [97], .int .i64 1, .int .i64 2, .int .i64 0]] .tight, .sl 0 [] .nil, .sl 0 [] .nil, .sl 0 [] .nil, .sl 1 [[.sl 1 [[.int .i64 0]] .tight]] .tight]] (.tup [.sl 4 [] .none, .int .i64 0]) := Pure.closedA FR_ok (K := KQ0) XQ0_ok 2000 60 (by kernel_rfl)
end Go.Proofs.YtpjdjolphpfanaaGreatDoor
end
