/- A part of the proof. -/
import Derived.Test.YtpjdjolphpfanaaGreatDoorGa04
set_option linter.unusedVariables false
set_option linter.unusedSimpArgs false
set_option linter.defProp false
section
namespace Go.Abs
open Go Go.RowKit

/-- Two lists, member by member. -/
inductive F2 {α β : Type} (R : α → β → Prop) : List α → List β → Prop
  | nil : F2 R [] []
  | cons {a : α} {b : β} {l : List α} {m : List β} (h : R a b) (t : F2 R l m) : F2 R (a :: l) (b :: m)

namespace F2
variable {α β γ δ : Type} {R : α → β → Prop} {S : γ → δ → Prop}
theorem len : ∀ {l : List α} {m : List β}, F2 R l m → l.length = m.length
  | _, _, .nil => rfl
  | _, _, .cons _ t => by simp [t.len]
theorem filter {p : α → Bool} {q : β → Bool} (hpq : ∀ a b, R a b → p a = q b) : ∀ {l : List α} {m : List β}, F2 R l m → F2 R (l.filter p) (m.filter q)
  | _, _, .nil => .nil
  | _, _, .cons (a := a) (b := b) h t => by
    have e := hpq a b h
    simp only [List.filter_cons, e]
    split
    · exact .cons h (filter hpq t)
    · exact filter hpq t
theorem append : ∀ {l l' : List α} {m m' : List β}, F2 R l m → F2 R l' m' → F2 R (l ++ l') (m ++ m')
  | _, _, _, _, .nil, k => k
  | _, _, _, _, .cons h t, k => .cons h (append t k)
theorem map {f : α → γ} {g : β → δ} (hfg : ∀ a b, R a b → S (f a) (g b)) : ∀ {l : List α} {m : List β}, F2 R l m → F2 S (l.map f) (m.map g)
  | _, _, .nil => .nil
  | _, _, .cons h t => .cons (hfg _ _ h) (map hfg t)
theorem get : ∀ {l : List α} {m : List β}, F2 R l m → ∀ {j : Nat} {b : β}, m[j]? = some b → ∃ a, l[j]? = some a ∧ R a b
  | _, _, .nil, _, _, e => by simp at e
  | _, _, .cons h t, j, b, e => by
    cases j with
    | zero => simp at e; subst e; exact ⟨_, rfl, h⟩
    | succ j => simp at e; obtain ⟨a, h1, h2⟩ := get t e; exact ⟨a, by simpa using h1, h2⟩
theorem all {p : α → Bool} {q : β → Bool} (hpq : ∀ a b, R a b → p a = q b) : ∀ {l : List α} {m : List β}, F2 R l m → l.all p = m.all q
  | _, _, .nil => rfl
  | _, _, .cons h t => by simp [hpq _ _ h, all hpq t]
theorem of_get : ∀ {l : List α} {m : List β}, l.length = m.length → (∀ (i : Nat) (a : α), l[i]? = some a → ∃ b, m[i]? = some b ∧ R a b) → F2 R l m
  | [], [], _, _ => .nil
  | a :: l, b :: m, hl, h => by
    obtain ⟨b', e, hr⟩ := h 0 a rfl
    simp at e; subst e
    exact .cons hr (of_get (by simpa using hl) fun i a e => by
      obtain ⟨b', e', hr'⟩ := h (i + 1) a (by simpa using e)
      exact ⟨b', by simpa using e', hr'⟩)
  | [], _ :: _, hl, _ => by simp at hl
  | _ :: _, [], hl, _ => by simp at hl
end F2

section
variable {P : Program} {G : Nat → AV} {w0 : World} {ro0 : Nat → Nat → Option Value} {K : Kn} {σ : St} {w w' : World} {N : Nat} {env : Env} {a : Act}

theorem mrange_sound (h : WRel G w0 ro0 K σ w) {t kt et : Nat} {x : Value} {b : Nat} (hu : P.underlying t = some (.map kt et)) (hx : VRel K (.map b) x) {es : List (AV × AV × Nat)} {clock : Nat} (hb : σ.H[b]? = some (.map es clock)) :
    Ran P G w0 ro0 K w (Instr.range t x) (.iter σ.H.length) (σ.push (.miter (some b) clock [] clock)) := by
  simp only [VRel] at hx
  obtain ⟨B, hm, rfl⟩ := hx
  obtain ⟨B', g1, g2, g3, ⟨es', g4, g5, g6⟩, g8⟩ := h.blk b _ hb
  rw [hm] at g1; cases g1
  have hle := Kn.le_addM h w.heap.size (objSize (Obj.mapIter (some B) clock #[] clock))
  refine ⟨.pointer (some ⟨w.heap.size, 0, none⟩), w.alloc (.mapIter (some B) clock #[] clock), K.addM σ.H.length w.heap.size (objSize _), ?_, hle, h.push ?_, ?_⟩
  · simp [Instr.range, run_underlying hu, getObj, Sem.run, g4]
  · simp only [BlkRel]; exact ⟨some B, rfl, B, hm, rfl⟩
  · simp only [VRel]; exact ⟨w.heap.size, by simp [Kn.addM], rfl⟩

theorem mrange_nil (h : WRel G w0 ro0 K σ w) {t kt et : Nat} {x : Value} (hu : P.underlying t = some (.map kt et)) (hx : VRel K .nilm x) :
    Ran P G w0 ro0 K w (Instr.range t x) (.iter σ.H.length) (σ.push (.miter none 0 [] 0)) := by
  simp only [VRel] at hx
  subst hx
  refine ⟨.pointer (some ⟨w.heap.size, 0, none⟩), w.alloc (.mapIter none 0 #[] 0), K.addM σ.H.length w.heap.size (objSize _), ?_, Kn.le_addM h _ _, h.push ?_, ?_⟩
  · simp [Instr.range, run_underlying hu]
  · simp only [BlkRel]; exact ⟨none, rfl, rfl⟩
  · simp only [VRel]; exact ⟨w.heap.size, by simp [Kn.addM], rfl⟩

theorem choose_next (P : Program) (w : World) {n : Nat} (hn : 0 < n) : ∃ (j : Nat) (w1 : World), j < n ∧ (w1 = w ∨ w1 = w.drew) ∧ (choose (Question.mapNext n)).run P w = .ok j w1 := by
  by_cases hf : n ≤ 1
  · exact ⟨0, w, by omega, Or.inl rfl, by simp [choose, Sem.run, Question.forced, hf]⟩
  · exact ⟨_, w.drew, Nat.mod_lt _ (by omega), Or.inr rfl, by
      simp only [choose, Sem.run, Question.forced, decide_eq_true_eq, hf, if_false, Question.cut]
      rfl⟩

/-- An entry of the state's and one of memory. -/
def ERelM (K : Kn) (e : AV × AV × Nat) (e' : MapEntry) : Prop := VRel K e.1 e'.key ∧ VRel K e.2.1 e'.val ∧ e'.born = e.2.2

theorem nexts_sound (h : WRel G w0 ro0 K σ w) {t : Nat} {x : Value} {a : AV} {l : List (AV × St)} (hx : VRel K a x) (hf : nextsA σ a = some l) : ∃ v σ', (v, σ') ∈ l ∧ Ran P G w0 ro0 K w (Instr.next x false t) v σ' := by
  unfold nextsA at hf
  split at hf
  case h_2 => cases hf
  rename_i b
  simp only [VRel] at hx
  obtain ⟨B, hm, rfl⟩ := hx
  split at hf
  · rename_i s1 s2 s3 hb
    simp only [Option.some.injEq] at hf
    subst hf
    obtain ⟨B', h1, hB0, hBl, h4, _⟩ := h.blk b _ hb
    rw [hm] at h1; cases h1
    obtain ⟨mB, h5, h6⟩ := h4
    simp only at h6
    subst h6
    refine ⟨_, _, List.mem_singleton.2 rfl, .tuple #[.bool false], w, K, ?_, Kn.le_refl K, h, by simp [VRel, VRels]⟩
    simp [Instr.next, getObj, Sem.run, h5]
  · rename_i mb since seen last hb
    obtain ⟨B', h1, hB0, hBl, h4, _⟩ := h.blk b _ hb
    rw [hm] at h1; cases h1
    obtain ⟨mB, h5, h6⟩ := h4
    simp only at h6
    obtain ⟨M, hmM, rfl⟩ := h6
    have hbl : b < σ.H.length := (List.getElem?_eq_some_iff.1 hb).1
    split at hf
    case h_2 => cases hf
    rename_i es clock hes
    split at hf
    · cases hf
    rename_i hcond
    simp only [Option.some.injEq] at hf
    obtain ⟨M', g1, g2, g3, ⟨es', g4, g5, g6⟩, g8⟩ := h.blk mb _ hes
    rw [hmM] at g1; cases g1
    have hF : F2 (ERelM K) es es'.toList := F2.of_get (by simpa using g5.symm) fun i e he => by
      obtain ⟨k, v, n⟩ := e
      obtain ⟨e', k1, k2, k3, k4⟩ := g6 i k v n he
      exact ⟨e', by simpa using k1, k2, k3, k4⟩
    have hborn : ∀ (a : AV × AV × Nat) (b : MapEntry), ERelM K a b → a.2.2 = b.born := fun a b hab => hab.2.2.symm
    let left' := es'.filter fun e => !seen.toArray.contains e.born
    have hleft : F2 (ERelM K) (es.filter fun e => !seen.contains e.2.2) left'.toList := by
      have := hF.filter (p := fun e => !seen.contains e.2.2) (q := fun e => !seen.toArray.contains e.born) (fun a b hab => by simp [hborn a b hab])
      simpa [left'] using this
    have hold : F2 (ERelM K) ((es.filter fun e => !seen.contains e.2.2).filter fun e => decide (e.2.2 < since)) (left'.filter (fun e => decide (e.born < since))).toList := by
      have := hleft.filter (p := fun e => decide (e.2.2 < since)) (q := fun e => decide (e.born < since)) (fun a b hab => by simp [hborn a b hab])
      simpa using this
    have hnew : F2 (ERelM K) ((es.filter fun e => !seen.contains e.2.2).filter fun e => decide (since ≤ e.2.2)) (left'.filter (fun e => decide (e.born ≥ since))).toList := by
      have := hleft.filter (p := fun e => decide (since ≤ e.2.2)) (q := fun e => decide (e.born ≥ since)) (fun a b hab => by simp [hborn a b hab])
      simpa using this
    have hc' : (!seen.toArray.isEmpty && !es'.isEmpty && es'.all (fun e => decide (e.born ≥ last))) = false := by
      have hall : es.all (fun e => decide (last ≤ e.2.2)) = es'.toList.all (fun e => decide (e.born ≥ last)) := hF.all (fun a b hab => by simp [hborn a b hab])
      have hemp : es.isEmpty = es'.isEmpty := by
        cases es with
        | nil => simp at g5; simp [Array.isEmpty, g5]
        | cons e r => simp at g5; simp [Array.isEmpty, g5]
      rw [← Bool.not_eq_true]
      intro hh
      simp only [Bool.and_eq_true, Bool.not_eq_true'] at hh
      exact hcond ⟨by simpa using hh.1.1, by rw [hemp]; exact hh.1.2, by rw [hall]; simpa using hh.2⟩
    generalize holdE : ((es.filter fun e => !seen.contains e.2.2).filter fun e => decide (e.2.2 < since)) = old at hf hold
    generalize hnewE : ((es.filter fun e => !seen.contains e.2.2).filter fun e => decide (since ≤ e.2.2)) = new at hf hnew
    let cand : Array (Option MapEntry) := (if (left'.filter (fun e => decide (e.born < since))).isEmpty then #[none] else #[]) ++ ((left'.filter (fun e => decide (e.born < since))) ++ (left'.filter (fun e => decide (e.born ≥ since)))).map some
    have hoe : (left'.filter (fun e => decide (e.born < since))).isEmpty = old.isEmpty := by
      have aux : ∀ (A : Array MapEntry) (o : List (AV × AV × Nat)), o.length = A.toList.length → A.isEmpty = o.isEmpty := by
        intro A o h
        rcases A with ⟨a⟩
        cases a <;> cases o <;> simp_all [Array.isEmpty]
      exact aux _ _ hold.len
    have hcand : F2 (fun (o : AV × St) (c : Option MapEntry) => match c with
        | none => o = (.tup [.bool false], σ)
        | some e => ∃ e0, ERelM K e0 e ∧ o = (.tup [.bool true, e0.1, e0.2.1], { σ with H := σ.H.set b (.miter (some mb) since (seen ++ [e0.2.2]) clock) })) l cand.toList := by
      subst hf
      simp only [cand, Array.toList_append, Array.toList_map]
      refine F2.append ?_ ((hold.append hnew).map fun a b hab => ⟨a, hab, rfl⟩)
      rw [hoe]
      split
      · exact .cons rfl .nil
      · exact .nil
    have hsz : 0 < cand.size := by
      simp only [cand, Array.size_append, Array.size_map]
      cases hE : (left'.filter (fun e => decide (e.born < since))).isEmpty
      · have : (left'.filter (fun e => decide (e.born < since))).size ≠ 0 := by
          intro h0
          simp [Array.isEmpty, h0] at hE
        omega
      · simp; omega
    obtain ⟨j, w1, hj, hal, hrun⟩ := choose_next P w hsz
    have hw1 : WRel G w0 ro0 K σ w1 := by rcases hal with rfl | rfl; exact h; exact h.drew
    have hB1 : w1.heap[B]? = some (.mapIter (some M) since seen.toArray last) := by rcases hal with rfl | rfl <;> exact h5
    have hBl1 : B < w1.heap.size := (Array.getElem?_eq_some_iff.1 hB1).1
    obtain ⟨o, ho, hrel⟩ := hcand.get (j := j) (b := cand[j]) (by simp [hj])
    have hcj : cand[j]? = some cand[j] := Array.getElem?_eq_getElem hj
    have hmem := List.mem_of_getElem? ho
    obtain ⟨v, σ'⟩ := o
    refine ⟨v, σ', hmem, ?_⟩
    have hstep : (Instr.next (.pointer (some ⟨B, 0, none⟩)) false t).run P w = ((match cand[j]? with
        | some (some e) => do
          setObj B (.mapIter (some M) since (seen.toArray.push e.born) clock)
          pure (.tuple #[.bool true, e.key, e.val])
        | some none => pure (.tuple #[.bool false])
        | none => stuck "Next: no such candidate" : Sem Value)).run P w1 := by
      simp only [Instr.next, getObj, Sem.run_bind, Sem.run, h5, g4, Result.andThen_ok, hc', Bool.false_eq_true, if_false]
      show ((choose (Question.mapNext cand.size)).run P w).andThen _ = _
      rw [hrun]
      rfl
    cases hc : cand[j] with
    | none =>
      rw [hc] at hrel hcj
      simp only at hrel
      obtain ⟨rfl, rfl⟩ := Prod.mk.injEq .. ▸ hrel
      refine ⟨.tuple #[.bool false], w1, K, ?_, Kn.le_refl K, hw1, by simp [VRel, VRels]⟩
      rw [hstep, hcj]
      rfl
    | some e =>
      rw [hc] at hrel hcj
      simp only at hrel
      obtain ⟨e0, ⟨k1, k2, k3⟩, heq⟩ := hrel
      obtain ⟨rfl, rfl⟩ := Prod.mk.injEq .. ▸ heq
      refine ⟨.tuple #[.bool true, e.key, e.val], { w1 with heap := w1.heap.setIfInBounds B (.mapIter (some M) since (seen.toArray.push e.born) clock) }, K, ?_, Kn.le_refl K, ?_, ?_⟩
      · rw [hstep, hcj]
        simp [setObj, Sem.run, hB1]
      · refine hw1.setBlk (B := B) hbl hm rfl rfl rfl (by simp) (fun k hk => by simp [Array.getElem?_setIfInBounds_ne (Ne.symm hk)]) ?_ (by rw [hb]; simp) (fun cs2 el2 fr2 e2 => by simp [hBl1] at e2) (fun cs2 el2 fr2 e2 => by simp [hBl1] at e2)
        simp only [BlkRel]
        refine ⟨some M, ?_, M, hmM, rfl⟩
        simp [hBl1, k3]
      · simp only [VRel]
        exact ⟨_, rfl, by simp only [VRels, VRel]; exact ⟨_, _, rfl, rfl, _, _, rfl, k1, _, _, rfl, k2, rfl⟩⟩
  · cases hf
end
end Go.Abs
end
section
namespace Go.Abs
open Go Go.RowKit
section

section
variable {P : Program} {G : Nat → AV} {w0 : World} {ro0 : Nat → Nat → Option Value} {K : Kn} {σ : St} {w w' : World} {N : Nat} {env : Env} {a : Act}

theorem range_sound (h : WRel G w0 ro0 K σ w) {t : Nat} {x : Value} {s : List UInt8} (hu : P.underlying t = some .string) (hx : VRel K (.str s) x) : Ran P G w0 ro0 K w (Instr.range t x) (.iter σ.H.length) (σ.push (.siter s 0)) := by
  simp only [VRel] at hx
  subst hx
  refine ⟨.pointer (some ⟨w.heap.size, 0, none⟩), w.alloc (.stringIter ⟨s.toArray⟩ 0), K.addM σ.H.length w.heap.size (objSize _), ?_, Kn.le_addM h _ _, h.push ?_, ?_⟩
  · simp [Instr.range, run_underlying hu]
  · simp [BlkRel]
  · simp only [VRel]; exact ⟨w.heap.size, by simp [Kn.addM], rfl⟩

theorem next_sound (h : WRel G w0 ro0 K σ w) {t : Nat} {x : Value} {a : AV} {v : AV} {σ' : St} (hx : VRel K a x) (hf : nextA σ a = some (v, σ')) : Ran P G w0 ro0 K w (Instr.next x true t) v σ' := by
  unfold nextA at hf
  split at hf
  · rename_i b
    split at hf
    · rename_i s pos hb
      simp only [VRel] at hx
      obtain ⟨B, hm, rfl⟩ := hx
      obtain ⟨B', h1, hB0, hBl, h4, _⟩ := h.blk b _ hb
      rw [hm] at h1; cases h1
      simp only [BlkRel] at h4
      have hbl : b < σ.H.length := (List.getElem?_eq_some_iff.1 hb).1
      split at hf
      · rename_i hp
        simp only [Option.some.injEq, Prod.mk.injEq] at hf
        obtain ⟨rfl, rfl⟩ := hf
        have hp' : pos < (ByteArray.mk s.toArray).size := by simpa [ByteArray.size] using hp
        refine ⟨.tuple #[.bool true, .int .i64 pos, .int .i32 (Utf8.decode ⟨s.toArray⟩ pos).1], { w with heap := w.heap.setIfInBounds B (.stringIter ⟨s.toArray⟩ (pos + (Utf8.decode ⟨s.toArray⟩ pos).2)) }, K, ?_, Kn.le_refl K, ?_, ?_⟩
        · simp [Instr.next, getObj, setObj, Sem.run, h4, hp', goInt]
        · refine h.setBlk (B := B) hbl hm rfl rfl rfl (by simp) (fun k hk => by simp [Array.getElem?_setIfInBounds_ne (Ne.symm hk)]) ?_ (by rw [hb]; simp) (fun cs2 el2 fr2 e2 => by simp [hBl] at e2) (fun cs2 el2 fr2 e2 => by simp [hBl] at e2)
          simp [BlkRel, hBl]
        · simp [VRel, VRels]
      · rename_i hp
        simp only [Option.some.injEq, Prod.mk.injEq] at hf
        obtain ⟨rfl, rfl⟩ := hf
        have hp' : ¬ pos < (ByteArray.mk s.toArray).size := by simpa [ByteArray.size] using hp
        refine ⟨.tuple #[.bool false], w, K, ?_, Kn.le_refl K, h, ?_⟩
        · simp [Instr.next, getObj, Sem.run, h4, hp']
        · simp [VRel, VRels]
    · cases hf
  · cases hf


/-- What one operation comes to: a value or nothing, and a state. -/
def Did (P : Program) (G : Nat → AV) (w0 : World) (ro0 : Nat → Nat → Option Value) (K : Kn) (w : World) (s : Sem Next) (v : AV) (σ' : St) : Prop :=
  ∃ v' w' K', (s.run P w = .ok (.value v') w' ∨ (s.run P w = .ok .skip w' ∧ v' = undef)) ∧ K.le K' ∧ WRel G w0 ro0 K' σ' w' ∧ VRel K' v v'

theorem Did.of_ran {s : Sem Value} {v : AV} {σ' : St} (h : Ran P G w0 ro0 K w s v σ') : Did P G w0 ro0 K w (do pure (.value (← s))) v σ' := by
  obtain ⟨v', w', K', h1, h2, h3, h4⟩ := h
  exact ⟨v', w', K', .inl (by simp [h1]), h2, h3, h4⟩

theorem Did.of_same (h : WRel G w0 ro0 K σ w) {s : Sem Value} {v : AV} (hr : ∃ v', s.run P w = .ok v' w ∧ VRel K v v') : Did P G w0 ro0 K w (do pure (.value (← s))) v σ := by
  obtain ⟨v', h1, h2⟩ := hr
  exact Did.of_ran (Ran.same h h1 h2)

theorem Did.of_unit {s : Sem Unit} {σ' : St} (hr : ∃ w', s.run P w = .ok () w' ∧ WRel G w0 ro0 K σ' w') : Did P G w0 ro0 K w (do s; pure .skip) (.tup []) σ' := by
  obtain ⟨w', h1, h2⟩ := hr
  exact ⟨undef, w', K, .inr ⟨by simp [h1], rfl⟩, Kn.le_refl K, h2, by simp only [VRel]; exact ⟨#[], rfl, by simp [VRels]⟩⟩

theorem parts_rel (hw : WRel G w0 ro0 K σ w) (he : ERel K N env a) (ps : Array (Nat × Operand)) :
    (ps.map fun (i, x) => (i, a.eval x)).toList.map (·.1) = (ps.toList.map fun p => (p.1, ev G env p.2)).map (·.1) ∧
      VRels K ((ps.toList.map fun p => (p.1, ev G env p.2)).map (·.2)) ((ps.map fun (i, x) => (i, a.eval x)).toList.map (·.2)) := by
  constructor
  · simp
  · have := opds_rel hw he (ps.toList.map (·.2))
    simpa [opds, Function.comp_def] using this

theorem sem_sound (hw : WRel G w0 ro0 K σ w) (he : ERel K N env a) (o : Oper) {v : AV} {σ' : St} (h : sem (Dof P) G env σ o.op = some (v, σ')) :
    Did P G w0 ro0 K w (execOp a.eval o) v σ' := by
  have ex := ev_rel hw he
  obtain ⟨dst, op, type, pos, after, guard⟩ := o
  simp only at h
  cases op <;> simp only [sem] at h
  case move x =>
    simp only [Option.some.injEq, Prod.mk.injEq] at h
    obtain ⟨rfl, rfl⟩ := h
    exact ⟨a.eval x, w, K, .inl rfl, Kn.le_refl K, hw, ex x⟩
  case assign x =>
    simp only [Option.some.injEq, Prod.mk.injEq] at h
    obtain ⟨rfl, rfl⟩ := h
    exact ⟨a.eval x, w, K, .inl rfl, Kn.le_refl K, hw, ex x⟩
  case pick c x y =>
    split at h
    · rename_i b hb
      simp only [Option.some.injEq, Prod.mk.injEq] at h
      obtain ⟨rfl, rfl⟩ := h
      have hc := ex c
      rw [hb] at hc
      simp only [VRel] at hc
      refine ⟨if b then a.eval x else a.eval y, w, K, .inl ?_, Kn.le_refl K, hw, ?_⟩
      · simp [execOp, hc, asBool]
      · cases b
        · exact ex y
        · exact ex x
    · cases h
  case alloc e =>
    split at h
    · rename_i i hi
      split at h
      · rename_i hz
        simp only [Option.some.injEq, Prod.mk.injEq] at h
        obtain ⟨rfl, rfl⟩ := h
        exact Did.of_ran (alloc_sound hw hi hz)
      · cases h
    · cases h
  case box e x =>
    obtain ⟨c, hc, he'⟩ := Option.map_eq_some_iff.1 h
    simp only [Prod.mk.injEq] at he'
    obtain ⟨rfl, rfl⟩ := he'
    exact Did.of_ran (box_sound hw (ex x) hc)
  case build t ps =>
    obtain ⟨u, hu, he'⟩ := Option.map_eq_some_iff.1 h
    simp only [Prod.mk.injEq] at he'
    obtain ⟨rfl, rfl⟩ := he'
    obtain ⟨p1, p2⟩ := parts_rel hw he ps
    exact Did.of_ran (build_sound hw p1 p2 hu)
  case buildSlice t n ps =>
    obtain ⟨u, hu, he'⟩ := Option.map_eq_some_iff.1 h
    simp only [Prod.mk.injEq] at he'
    obtain ⟨rfl, rfl⟩ := he'
    obtain ⟨p1, p2⟩ := parts_rel hw he ps
    exact Did.of_ran (buildSlice_sound hw p1 p2 hu)
  case load t x =>
    obtain ⟨u, hu, he'⟩ := Option.map_eq_some_iff.1 h
    simp only [Prod.mk.injEq] at he'
    obtain ⟨rfl, rfl⟩ := he'
    exact Did.of_ran (load_sound hw (ex x) hu)
  case store t x y =>
    obtain ⟨u, hu, he'⟩ := Option.map_eq_some_iff.1 h
    simp only [Prod.mk.injEq] at he'
    obtain ⟨rfl, rfl⟩ := he'
    exact Did.of_unit (store_sound hw (ex x) (ex y) hu)
  case nilCheck x =>
    have hx := ex x
    split at h
    · rename_i b o hb
      simp only [Option.some.injEq, Prod.mk.injEq] at h
      obtain ⟨rfl, rfl⟩ := h
      rw [hb] at hx
      have hx' := hx
      simp only [VRel] at hx
      obtain ⟨B, _, e⟩ := hx
      exact ⟨a.eval x, w, K, .inl (by simp [execOp, e]), Kn.le_refl K, hw, hx'⟩
    · rename_i c hb
      simp only [Option.some.injEq, Prod.mk.injEq] at h
      obtain ⟨rfl, rfl⟩ := h
      rw [hb] at hx
      have hx' := hx
      simp only [VRel] at hx
      obtain ⟨B, off, e, _⟩ := hx
      exact ⟨a.eval x, w, K, .inl (by simp [execOp, e]), Kn.le_refl K, hw, hx'⟩
    · cases h
  case binOp op t x y u =>
    obtain ⟨u, hu, he'⟩ := Option.map_eq_some_iff.1 h
    simp only [Prod.mk.injEq] at he'
    obtain ⟨rfl, rfl⟩ := he'
    exact Did.of_same hw (bin_sound (ex x) (ex y) hu x y)
  case unOp op t x =>
    obtain ⟨u, hu, he'⟩ := Option.map_eq_some_iff.1 h
    simp only [Prod.mk.injEq] at he'
    obtain ⟨rfl, rfl⟩ := he'
    exact Did.of_same hw (un_sound (ex x) hu)
  case convert s d x =>
    obtain ⟨u, hu, he'⟩ := Option.map_eq_some_iff.1 h
    simp only [Prod.mk.injEq] at he'
    obtain ⟨rfl, rfl⟩ := he'
    exact Did.of_same hw (conv_sound hw (ex x) hu)
  case makeFunc fn x y =>
    cases fn <;> simp only at h <;> try (cases h; done)
    rename_i f
    simp only [Option.some.injEq, Prod.mk.injEq] at h
    obtain ⟨rfl, rfl⟩ := h
    refine ⟨.func (.func f) (x.map a.eval) (y.map a.eval), w, K, .inl (by simp [execOp, Instr.makeFunc]), Kn.le_refl K, hw, ?_⟩
    simp only [VRel]
    exact ⟨_, _, rfl, by simpa using opds_rel hw he x.toList, by simpa using opds_rel hw he y.toList⟩
  case makeMap t r =>
    cases r with
    | none =>
      simp only [Option.some.injEq, Prod.mk.injEq] at h
      obtain ⟨rfl, rfl⟩ := h
      exact Did.of_ran (makeMap_sound hw t)
    | some r => cases h
  case makeSlice t l c => exact Did.of_ran (makeSlice_sound hw (ex l) (ex c) h)
  case slice t x lo hi mx =>
    obtain ⟨hlo, hlo0⟩ := opt_rel hw he lo
    obtain ⟨hhi, hhi0⟩ := opt_rel hw he hi
    obtain ⟨hmx, hmx0⟩ := opt_rel hw he mx
    have hx := ex x
    split at h
    · rename_i i hD
      obtain ⟨inf, d, z, hi, hu, _, rfl⟩ := Dof_spec hD
      simp only at h
      split at h
      · rename_i s hd hxs
        have := td_str hd; subst this
        obtain ⟨u, hu', he'⟩ := Option.map_eq_some_iff.1 h
        simp only [Prod.mk.injEq] at he'
        obtain ⟨rfl, rfl⟩ := he'
        rw [hxs] at hx
        simp only [VRel] at hx
        have := slice_str (P := P) (K := K) (w := w) hu hlo hlo0 hhi hhi0 hmx0 hu'
        rw [← hx] at this
        exact Did.of_same hw this
      · rename_i e hd
        have := td_sl hd; subst this
        split at h
        · rename_i j sz rows tok hj hxs
          obtain ⟨inf2, d2, z2, hi2, hu2, _, rfl⟩ := Dof_spec hj
          split at h
          · rename_i hsz
            obtain ⟨u, hu', he'⟩ := Option.map_eq_some_iff.1 h
            simp only [Prod.mk.injEq] at he'
            obtain ⟨rfl, rfl⟩ := he'
            rw [hxs] at hx
            exact Did.of_same hw (slice_sl hu hi2 hsz hx hlo hlo0 hhi hhi0 hmx hmx0 hu')
          · cases h
        · rename_i j b off len sz hj hxs
          obtain ⟨inf2, d2, z2, hi2, hu2, _, rfl⟩ := Dof_spec hj
          split at h
          · rename_i hsz
            simp only at hsz
            subst hsz
            obtain ⟨u, hu', he'⟩ := Option.map_eq_some_iff.1 h
            simp only [Prod.mk.injEq] at he'
            obtain ⟨rfl, rfl⟩ := he'
            rw [hxs] at hx
            exact Did.of_same hw (slice_ms hu hi2 hx hlo hlo0 hhi hhi0 hmx0 hu')
          · cases h
        · cases h
      · cases h
    · cases h
  case fieldAddr s x f =>
    obtain ⟨u, hu, he'⟩ := Option.map_eq_some_iff.1 h
    simp only [Prod.mk.injEq] at he'
    obtain ⟨rfl, rfl⟩ := he'
    exact Did.of_same hw (fieldAddr_sound hw (ex x) hu)
  case field s x f =>
    obtain ⟨u, hu, he'⟩ := Option.map_eq_some_iff.1 h
    simp only [Prod.mk.injEq] at he'
    obtain ⟨rfl, rfl⟩ := he'
    exact Did.of_same hw (field_sound (ex x) hu)
  case indexAddr t x i =>
    obtain ⟨u, hu, he'⟩ := Option.map_eq_some_iff.1 h
    simp only [Prod.mk.injEq] at he'
    obtain ⟨rfl, rfl⟩ := he'
    exact Did.of_same hw (indexAddr_sound hw (ex x) (ex i) hu)
  case index t x i =>
    obtain ⟨u, hu, he'⟩ := Option.map_eq_some_iff.1 h
    simp only [Prod.mk.injEq] at he'
    obtain ⟨rfl, rfl⟩ := he'
    exact Did.of_same hw (index_sound (ex x) (ex i) hu)
  case lookup t x i ok =>
    obtain ⟨u, hu, he'⟩ := Option.map_eq_some_iff.1 h
    simp only [Prod.mk.injEq] at he'
    obtain ⟨rfl, rfl⟩ := he'
    exact Did.of_same hw (lookup_sound hw (ex x) (ex i) hu)
  case mapUpdate t m k x =>
    obtain ⟨u, hu, he'⟩ := Option.map_eq_some_iff.1 h
    simp only [Prod.mk.injEq] at he'
    obtain ⟨rfl, rfl⟩ := he'
    exact Did.of_unit (mapUpdate_sound hw (ex m) (ex k) (ex x) hu)
  case range t x =>
    have hx := ex x
    split at h
    · rename_i i s hD hxs
      obtain ⟨inf, d, z, hi, hu, _, rfl⟩ := Dof_spec hD
      simp only at h
      split at h
      · rename_i hd
        have := td_str hd; subst this
        simp only [Option.some.injEq, Prod.mk.injEq] at h
        obtain ⟨rfl, rfl⟩ := h
        rw [hxs] at hx
        exact Did.of_ran (range_sound hw hu hx)
      · cases h
    · rename_i i b hD hxs
      obtain ⟨inf, d, z, hi, hu, _, rfl⟩ := Dof_spec hD
      simp only at h
      split at h
      · rename_i kt et es clock hd hb
        have := td_map hd; subst this
        simp only [Option.some.injEq, Prod.mk.injEq] at h
        obtain ⟨rfl, rfl⟩ := h
        rw [hxs] at hx
        exact Did.of_ran (mrange_sound hw hu hx hb)
      · cases h
    · rename_i i hD hxs
      obtain ⟨inf, d, z, hi, hu, _, rfl⟩ := Dof_spec hD
      simp only at h
      split at h
      · rename_i kt et hd
        have := td_map hd; subst this
        simp only [Option.some.injEq, Prod.mk.injEq] at h
        obtain ⟨rfl, rfl⟩ := h
        rw [hxs] at hx
        exact Did.of_ran (mrange_nil hw hu hx)
      · cases h
    · cases h
  case next it b =>
    cases b with
    | false => cases h
    | true =>
      simp only at h
      exact Did.of_ran (next_sound hw (ex it) h)
  case extract x i =>
    obtain ⟨u, hu, he'⟩ := Option.map_eq_some_iff.1 h
    simp only [Prod.mk.injEq] at he'
    obtain ⟨rfl, rfl⟩ := he'
    exact Did.of_same hw (extract_sound (ex x) hu)
  case call c =>
    obtain ⟨callee, args, argTypes⟩ := c
    cases callee <;> simp only at h <;> try (cases h; done)
    rename_i b
    have ha := opds_rel hw he args.toList
    unfold builtinA at h
    split at h
    · rename_i t x hts hvs
      obtain ⟨u, hu, he'⟩ := Option.map_eq_some_iff.1 h
      simp only [Prod.mk.injEq] at he'
      obtain ⟨rfl, rfl⟩ := he'
      rw [hvs] at ha
      simp only [VRels] at ha
      obtain ⟨v1, vr, e1, h1, rfl⟩ := ha
      have eargs : args.map a.eval = #[v1] := by apply Array.ext'; simpa using e1
      have ets : argTypes = #[t] := by apply Array.ext'; simpa using hts
      have := len_sound hw h1 type hu
      obtain ⟨v', r1, r2⟩ := this
      exact ⟨v', w, K, .inl (by simp [execOp, resolve, invoke, builtin, eargs, ets, r1]), Kn.le_refl K, hw, r2⟩
    · rename_i t u x y hts hvs
      split at h
      · rename_i hut
        subst hut
        rw [hvs] at ha
        simp only [VRels] at ha
        obtain ⟨v1, vr, e1, h1, v2, vr2, e2, h2, rfl⟩ := ha
        have eargs : args.map a.eval = #[v1, v2] := by apply Array.ext'; simpa [e2] using e1
        have ets : argTypes = #[u, u] := by apply Array.ext'; simpa using hts
        obtain ⟨v', w', K', r1, r2, r3, r4⟩ := append_sound hw h1 h2 type h
        exact ⟨v', w', K', .inl (by simp [execOp, resolve, invoke, builtin, eargs, ets, r1]), r2, r3, r4⟩
      · cases h
    · rename_i x y hvs
      obtain ⟨u, hu, he'⟩ := Option.map_eq_some_iff.1 h
      simp only [Prod.mk.injEq] at he'
      obtain ⟨rfl, rfl⟩ := he'
      rw [hvs] at ha
      simp only [VRels] at ha
      obtain ⟨v1, vr, e1, h1, v2, vr2, e2, h2, rfl⟩ := ha
      have eargs : args.map a.eval = #[v1, v2] := by apply Array.ext'; simpa [e2] using e1
      obtain ⟨v', r1, r2⟩ := min_sound (P := P) (w := w) h1 h2 argTypes type hu
      exact ⟨v', w, K, .inl (by simp [execOp, resolve, invoke, builtin, eargs, r1]), Kn.le_refl K, hw, r2⟩
    · rename_i x y z hvs
      obtain ⟨u, hu, he'⟩ := Option.map_eq_some_iff.1 h
      simp only [Prod.mk.injEq] at he'
      obtain ⟨rfl, rfl⟩ := he'
      rw [hvs] at ha
      simp only [VRels] at ha
      obtain ⟨v1, vr, e1, h1, v2, vr2, e2, h2, v3, vr3, e3, h3, rfl⟩ := ha
      have eargs : args.map a.eval = #[v1, v2, v3] := by apply Array.ext'; simpa [e2, e3] using e1
      obtain ⟨v', r1, r2⟩ := min3_sound (P := P) (w := w) h1 h2 h3 argTypes type hu
      exact ⟨v', w, K, .inl (by simp [execOp, resolve, invoke, builtin, eargs, r1]), Kn.le_refl K, hw, r2⟩
    · rename_i x y hvs
      obtain ⟨u, hu, he'⟩ := Option.map_eq_some_iff.1 h
      simp only [Prod.mk.injEq] at he'
      obtain ⟨rfl, rfl⟩ := he'
      rw [hvs] at ha
      simp only [VRels] at ha
      obtain ⟨v1, vr, e1, h1, v2, vr2, e2, h2, rfl⟩ := ha
      have eargs : args.map a.eval = #[v1, v2] := by apply Array.ext'; simpa [e2] using e1
      obtain ⟨v', r1, r2⟩ := max_sound (P := P) (w := w) h1 h2 argTypes type hu
      exact ⟨v', w, K, .inl (by simp [execOp, resolve, invoke, builtin, eargs, r1]), Kn.le_refl K, hw, r2⟩
    · cases h
  all_goals (first | (cases h; done) | (split at h <;> cases h))
end
end

/-! A read-only row may hold no reference to the state: then nothing is lost. -/
mutual
def noRef : AV → Bool
  | .ptr .. | .ms .. | .map _ | .iter _ | .any => false
  | .rptr c => noRefs c
  | .sl _ rows tok => (match tok with | .chain .. => false | _ => true) && noRefss rows
  | .fn _ a b => noRefs a && noRefs b
  | .agg c => noRefs c
  | .tup c => noRefs c
  | _ => true
def noRefs : List AV → Bool
  | [] => true
  | a :: r => noRef a && noRefs r
def noRefss : List (List AV) → Bool
  | [] => true
  | a :: r => noRefs a && noRefss r
end

theorem noRefs_eq : ∀ l, noRefs l = l.all noRef
  | [] => rfl
  | a :: r => by simp [noRefs, noRefs_eq r]
theorem noRefss_eq : ∀ l, noRefss l = l.all (·.all noRef)
  | [] => rfl
  | a :: r => by simp [noRefss, noRefss_eq r, noRefs_eq]

mutual
theorem VRel.toK0 {K : Kn} : ∀ (a : AV) {v : Value}, noRef a = true → VRel K a v → VRel (K0 K.ro) a v
  | .any, _, h, _ => by simp [noRef] at h
  | .bool b, _, _, x => by simpa [VRel] using x
  | .int k n, _, _, x => by simpa [VRel] using x
  | .str s, _, _, x => by simpa [VRel] using x
  | .nilp, _, _, x => by simpa [VRel] using x
  | .ptr b off, _, h, x => by simp [noRef] at h
  | .rptr c, _, h, x => by
    simp only [VRel, noRef] at h x ⊢
    obtain ⟨B, off, h1, h2⟩ := x
    exact ⟨B, off, h1, CellsAt.toK0 c B off h h2⟩
  | .sl sz rows tok, _, h, x => by
    simp only [VRel, noRef, Bool.and_eq_true] at h x ⊢
    rcases x with x | ⟨B, off, cap, h1, h2, h3, h4⟩
    · exact .inl x
    · refine .inr ⟨B, off, cap, h1, h2, RowsAt.toK0 rows B off sz h.2 h3, ?_⟩
      cases tok <;> simp_all [TokOk]
  | .ms b off len sz, _, h, x => by simp [noRef] at h
  | .nilm, _, _, x => by simpa [VRel] using x
  | .map b, _, h, x => by simp [noRef] at h
  | .iter b, _, h, x => by simp [noRef] at h
  | .fn f a b, _, h, x => by
    simp only [VRel, noRef, Bool.and_eq_true] at h x ⊢
    obtain ⟨va, vb, h1, h2, h3⟩ := x
    exact ⟨va, vb, h1, VRels.toK0 a h.1 h2, VRels.toK0 b h.2 h3⟩
  | .nilf, _, _, x => by simpa [VRel] using x
  | .agg c, _, h, x => by
    simp only [VRel, noRef] at h x ⊢
    obtain ⟨vs, h1, h2⟩ := x
    exact ⟨vs, h1, VRels.toK0 c h h2⟩
  | .tup c, _, h, x => by
    simp only [VRel, noRef] at h x ⊢
    obtain ⟨vs, h1, h2⟩ := x
    exact ⟨vs, h1, VRels.toK0 c h h2⟩
theorem VRels.toK0 {K : Kn} : ∀ (l : List AV) {vs : List Value}, noRefs l = true → VRels K l vs → VRels (K0 K.ro) l vs
  | [], _, _, x => by simpa [VRels] using x
  | a :: r, _, h, x => by
    simp only [VRels, noRefs, Bool.and_eq_true] at h x ⊢
    obtain ⟨v, vr, h1, h2, h3⟩ := x
    exact ⟨v, vr, h1, VRel.toK0 a h.1 h2, VRels.toK0 r h.2 h3⟩
theorem CellsAt.toK0 {K : Kn} : ∀ (l : List AV) (B off : Nat), noRefs l = true → CellsAt K B off l → CellsAt (K0 K.ro) B off l
  | [], _, _, _, _ => by simp [CellsAt]
  | a :: r, B, off, h, x => by
    simp only [CellsAt, noRefs, Bool.and_eq_true] at h x ⊢
    obtain ⟨⟨v, h1, h2⟩, h3⟩ := x
    exact ⟨⟨v, h1, VRel.toK0 a h.1 h2⟩, CellsAt.toK0 r _ _ h.2 h3⟩
theorem RowsAt.toK0 {K : Kn} : ∀ (l : List (List AV)) (B off sz : Nat), noRefss l = true → RowsAt K B off sz l → RowsAt (K0 K.ro) B off sz l
  | [], _, _, _, _, _ => by simp [RowsAt]
  | a :: r, B, off, sz, h, x => by
    simp only [RowsAt, noRefss, Bool.and_eq_true] at h x ⊢
    obtain ⟨⟨h1, h0, h2⟩, h3⟩ := x
    exact ⟨⟨h1, h0, CellsAt.toK0 a _ _ h.1 h2⟩, RowsAt.toK0 r _ _ _ h.2 h3⟩
end

end Go.Abs
end
section
namespace Go.Abs
open Go Go.RowKit

/-! ### Values handed over -/
def pl1 : AV → AV
  | .sl sz rows (.chain _ _) => .sl sz rows .none
  | v => v
def pl2 : AV → AV
  | .agg c => .agg (c.map pl1)
  | v => pl1 v
/-- A value as it is handed to a callee: a slice's free end stays behind. -/
def plain : AV → AV
  | .tup c => .tup (c.map pl2)
  | v => pl2 v

def chunk (sz : Nat) : Nat → List AV → List (List AV)
  | 0, _ => []
  | n + 1, c => c.take sz :: chunk sz n (c.drop sz)

def fin1 (H : List Blk) : AV → AV
  | .ms b off len sz => match H[b]? with
    | some (.cells c) => if off + len * sz ≤ c.length then .sl sz (chunk sz len (c.drop off)) .none else .any
    | _ => .any
  | v => pl1 v
def fin2 (H : List Blk) : AV → AV
  | .agg c => .agg (c.map (fin1 H))
  | v => fin1 H v
/-- A value as it is handed back. -/
def fin (H : List Blk) : AV → AV
  | .tup c => .tup (c.map (fin2 H))
  | v => fin2 H v

theorem pl1_rel {K : Kn} {v : Value} : ∀ {a : AV}, VRel K a v → VRel K (pl1 a) v := by
  intro a h
  unfold pl1
  split
  · rename_i sz rows t k
    simp only [VRel] at h ⊢
    rcases h with ⟨_, _, h⟩ | ⟨B, off, cap, h1, h2, h3, _⟩
    · exact h.elim
    · exact .inr ⟨B, off, cap, h1, h2, h3, trivial⟩
  · exact h

theorem VRels.mapRel {K K' : Kn} {f : AV → AV} (hf : ∀ a v, VRel K a v → VRel K' (f a) v) : ∀ (l : List AV) {vs : List Value}, VRels K l vs → VRels K' (l.map f) vs
  | [], _, h => by simpa [VRels] using h
  | a :: r, _, h => by
    simp only [VRels, List.map_cons] at h ⊢
    obtain ⟨v, vr, h1, h2, h3⟩ := h
    exact ⟨v, vr, h1, hf a v h2, VRels.mapRel hf r h3⟩

theorem pl2_rel {K : Kn} {v : Value} : ∀ {a : AV}, VRel K a v → VRel K (pl2 a) v := by
  intro a h
  unfold pl2
  split
  · simp only [VRel] at h ⊢
    obtain ⟨vs, h1, h2⟩ := h
    exact ⟨vs, h1, VRels.mapRel (fun _ _ => pl1_rel) _ h2⟩
  · exact pl1_rel h

theorem plain_rel {K : Kn} {v : Value} : ∀ {a : AV}, VRel K a v → VRel K (plain a) v := by
  intro a h
  unfold plain
  split
  · simp only [VRel] at h ⊢
    obtain ⟨vs, h1, h2⟩ := h
    exact ⟨vs, h1, VRels.mapRel (fun _ _ => pl2_rel) _ h2⟩
  · exact pl2_rel h

theorem chunk_spec (sz : Nat) : ∀ (n : Nat) (c : List AV), n * sz ≤ c.length → (chunk sz n c).length = n ∧ ∀ (i : Nat) (r : List AV), (chunk sz n c)[i]? = some r → r = (c.drop (i * sz)).take sz ∧ i < n
  | 0, c, _ => ⟨rfl, by simp [chunk]⟩
  | n + 1, c, h => by
    rw [Nat.add_mul] at h
    obtain ⟨h1, h2⟩ := chunk_spec sz n (c.drop sz) (by simp; omega)
    refine ⟨by simp [chunk, h1], fun i r e => ?_⟩
    cases i with
    | zero => simp [chunk] at e; subst e; simp
    | succ i =>
      simp only [chunk, List.getElem?_cons_succ] at e
      obtain ⟨h3, h4⟩ := h2 i r e
      refine ⟨?_, by omega⟩
      rw [h3, List.drop_drop, Nat.add_mul, Nat.one_mul, Nat.add_comm sz]

section
variable {P : Program} {G : Nat → AV} {w0 : World} {ro0 : Nat → Nat → Option Value} {K : Kn} {σ : St} {w w' : World}

open Classical in
/-- At the end all that is new is read-only. -/
noncomputable def roEnd (w0 w : World) (ro : Nat → Nat → Option Value) : Nat → Nat → Option Value :=
  fun b o => match ro b o with
    | some v => some v
    | none => if w0.heap.size ≤ b then w.cell? ⟨b, o, none⟩ else none

theorem roEnd_le (w0 w : World) (ro : Nat → Nat → Option Value) (b o : Nat) (v : Value) (h : ro b o = some v) : roEnd w0 w ro b o = some v := by simp [roEnd, h]

theorem Kn.le_end (K : Kn) (w0 w : World) : K.le { K with ro := roEnd w0 w K.ro } :=
  ⟨fun b o v e => roEnd_le w0 w K.ro b o v e, fun _ _ e => e, Nat.le_refl _, fun t C _ e => ⟨C, e, .inl rfl⟩, fun _ _ _ => rfl, fun _ _ e => e, fun _ _ e => e⟩

theorem WRel.end_ro (h : WRel G w0 ro0 K σ w) : (∀ b o v, roEnd w0 w K.ro b o = some v → w.cell? ⟨b, o, none⟩ = some v) ∧ (∀ b o v, roEnd w0 w K.ro b o = some v → b < w0.heap.size → ro0 b o = some v) := by
  constructor
  · intro b o v e
    simp only [roEnd] at e
    split at e
    · rename_i u hu; cases e; exact h.ro _ _ _ hu
    · split at e
      · exact e
      · cases e
  · intro b o v e hb
    simp only [roEnd] at e
    split at e
    · rename_i u hu; cases e; exact h.new _ _ _ hu hb
    · rw [if_neg (by omega)] at e; cases e

theorem fin1_rel (h : WRel G w0 ro0 K σ w) {a : AV} {v : Value} (ha : VRel K a v) : VRel { K with ro := roEnd w0 w K.ro } (fin1 σ.H a) v := by
  have hle := Kn.le_end K w0 w
  unfold fin1
  split
  · rename_i b off len sz
    split
    · rename_i c hb
      split
      · rename_i hl
        simp only [VRel] at ha ⊢
        obtain ⟨B, cap, hm, rfl, h1, h2⟩ := ha
        obtain ⟨B', g1, g2, g3, ⟨cs, el, g4, g5, g6, g7⟩, g8⟩ := h.blk b _ hb
        rw [hm] at g1; cases g1
        obtain ⟨k1, k2⟩ := chunk_spec sz len (c.drop off) (by simp; omega)
        refine .inr ⟨B, off, cap, by rw [k1], by rw [k1]; exact h1, RowsAt.intro B sz _ off fun i r e => ?_, trivial⟩
        obtain ⟨e1, e2⟩ := k2 i r e
        have hmul : (i + 1) * sz ≤ len * sz := Nat.mul_le_mul_right _ (by omega)
        rw [Nat.add_mul, Nat.one_mul] at hmul
        refine ⟨by rw [e1]; simp; omega, ?_, CellsAt.intro B r _ fun j x ex => ?_⟩
        · rw [List.all_eq_true] at g5 ⊢
          intro x hx
          rw [e1] at hx
          exact g5 x (List.mem_of_mem_drop (List.mem_of_mem_drop (List.mem_of_mem_take hx)))
        · rw [e1, List.getElem?_take] at ex
          split at ex
          · rw [List.getElem?_drop, List.getElem?_drop] at ex
            obtain ⟨u, u1, u2⟩ := g7 _ _ ex
            refine ⟨u, ?_, u2.mono hle⟩
            show roEnd w0 w K.ro B (off + i * sz + j) = some u
            simp only [roEnd, g8]
            rw [if_pos g2]
            simp only [World.cell?, g4]
            simpa [Nat.add_assoc] using u1
          · cases ex
      · simp [VRel]
    · simp [VRel]
  · exact (pl1_rel ha).mono hle

theorem fin2_rel (h : WRel G w0 ro0 K σ w) {a : AV} {v : Value} (ha : VRel K a v) : VRel { K with ro := roEnd w0 w K.ro } (fin2 σ.H a) v := by
  unfold fin2
  split
  · simp only [VRel] at ha ⊢
    obtain ⟨vs, h1, h2⟩ := ha
    exact ⟨vs, h1, VRels.mapRel (fun _ _ => fin1_rel h) _ h2⟩
  · exact fin1_rel h ha

theorem fin_rel (h : WRel G w0 ro0 K σ w) {a : AV} {v : Value} (ha : VRel K a v) : VRel { K with ro := roEnd w0 w K.ro } (fin σ.H a) v := by
  unfold fin
  split
  · simp only [VRel] at ha ⊢
    obtain ⟨vs, h1, h2⟩ := ha
    exact ⟨vs, h1, VRels.mapRel (fun _ _ => fin2_rel h) _ h2⟩
  · exact fin2_rel h ha
end

/-! ### Contracts -/
/-- A function with a body. -/
def bodied (P : Program) (g : FuncId) : Bool := P.funcs[g]?.any (fun fn => fn.body.isSome && fn.name != "runtime.NumGoroutine")

/-- Called with values that 'args' stand for, function f returns a value that 'r' stands for; nothing that was there has changed. -/
def Pure (P : Program) (G : Nat → AV) (f : FuncId) (args : List AV) (r : AV) : Prop :=
  bodied P f = true ∧ ∀ (w0 : World) (ro : Nat → Nat → Option Value) (vs : Array Value), (∀ g, VRel (K0 ro) (G g) (.pointer (some ⟨g, 0, none⟩))) → (∀ b o v, ro b o = some v → w0.cell? ⟨b, o, none⟩ = some v) → VRels (K0 ro) args vs.toList →
    Calls P f vs w0 fun e w' => ∃ v ro', e = .returned v ∧ Below w0.heap.size w0 w' ∧ (∀ b o v, ro b o = some v → ro' b o = some v) ∧ (∀ b o v, ro' b o = some v → w'.cell? ⟨b, o, none⟩ = some v) ∧
      (∀ b o v, ro' b o = some v → b < w0.heap.size → ro b o = some v) ∧ VRel (K0 ro') r v

/-- What a range over a function leaves among the deferred calls. -/
def mark (D : Nat) : Deferred := { target := .collected D, args := #[] }

/-- The deferred calls have grown by marks alone. -/
def Dfr (K : Kn) (ds : List Deferred) (K' : Kn) (ds' : List Deferred) : Prop :=
  ∃ Ds : List Nat, Ds.Nodup ∧ ds' = Ds.map mark ++ ds ∧ ∀ D ∈ Ds, K.fx D = none ∧ K'.fx D = some (.deferred (some []))

theorem Dfr.same {K K' : Kn} {ds ds' : List Deferred} (h : ds' = ds) : Dfr K ds K' ds' := ⟨[], List.nodup_nil, by simp [h], by simp⟩
theorem Dfr.trans {K K1 K2 : Kn} {ds ds1 ds2 : List Deferred} (h1 : K.le K1) (h2 : K1.le K2) (a : Dfr K ds K1 ds1) (b : Dfr K1 ds1 K2 ds2) : Dfr K ds K2 ds2 := by
  obtain ⟨D1, n1, e1, f1⟩ := a
  obtain ⟨D2, n2, e2, f2⟩ := b
  refine ⟨D2 ++ D1, ?_, by rw [e2, e1]; simp, fun D hD => ?_⟩
  · refine List.nodup_append.2 ⟨n2, n1, fun x hx y hy e => ?_⟩
    subst e
    have := (f2 x hx).1
    rw [(f1 x hy).2] at this
    cases this
  · rcases List.mem_append.1 hD with hD | hD
    · obtain ⟨g1, g2⟩ := f2 D hD
      refine ⟨?_, g2⟩
      cases e : K.fx D with
      | none => rfl
      | some o => rw [h1.fx D o e] at g1; cases g1
    · obtain ⟨g1, g2⟩ := f1 D hD
      exact ⟨g1, h2.fx _ _ g2⟩
theorem Dfr.less {K K1 K2 : Kn} {ds ds' : List Deferred} (h1 : K.le K1) (b : Dfr K1 ds K2 ds') : Dfr K ds K2 ds' := by
  obtain ⟨D2, n2, e2, f2⟩ := b
  refine ⟨D2, n2, e2, fun D hD => ?_⟩
  obtain ⟨g1, g2⟩ := f2 D hD
  refine ⟨?_, g2⟩
  cases e : K.fx D with
  | none => rfl
  | some o => rw [h1.fx D o e] at g1; cases g1

/-- The package variables, and what a panic may leave. -/
structure Glo where
  g : Nat → AV
  X : List PanicEntry → St → Prop
instance : Coe Glo (Nat → AV) := ⟨Glo.g⟩
def Glo.NoX (G : Glo) : Prop := ∀ c σ, ¬ G.X c σ
/-- No panic goes out. -/
abbrev quiet (g : Nat → AV) : Glo := ⟨g, fun _ _ => False⟩
instance : Coe (Nat → AV) Glo := ⟨quiet⟩
theorem quiet_noX (g : Nat → AV) : (quiet g).NoX := fun _ _ h => h
@[simp] theorem quiet_g (g : Nat → AV) : (quiet g).g = g := rfl
@[simp] theorem noX_simp (g : Nat → AV) : (quiet g).NoX = True := eq_true (quiet_noX g)

/-- A panic that goes out. -/
def Out (G : Glo) (w0 : World) (ro0 : Nat → Nat → Option Value) (K : Kn) (ds : List Deferred) (e : Exit) (a : Act) (w : World) : Prop :=
  ∃ c K' σ, e = .panic c ∧ K.le K' ∧ WRel G w0 ro0 K' σ w ∧ Dfr K ds K' a.defers ∧ G.X c σ

/-- Where code may end. -/
def APost (G : Glo) (w0 : World) (ro0 : Nat → Nat → Option Value) (K : Kn) (N : Nat) (ds : List Deferred) (Q : Exit → Env → St → Prop) : Exit → Act → World → Prop :=
  fun e a w => (∃ K' env σ, K.le K' ∧ WRel G w0 ro0 K' σ w ∧ ERel K' N env a ∧ Dfr K ds K' a.defers ∧ Q e env σ) ∨ Out G w0 ro0 K ds e a w

/-- From every state that (env, σ) stands for, the code ends in one that Q holds of. -/
def AWp (P : Program) (G : Glo) (N : Nat) (c : Code) (env : Env) (σ : St) (Q : Exit → Env → St → Prop) : Prop :=
  ∀ (w0 : World) (ro0 : Nat → Nat → Option Value) (K : Kn) (a : Act) (w : World), WRel G w0 ro0 K σ w → ERel K N env a → c.wp P (APost G w0 ro0 K N a.defers Q) a w

/-- The same of a call that shares the state. -/
def ACall (P : Program) (G : Glo) (f : FuncId) (args : List AV) (σ : St) (Q : AV → St → Prop) : Prop :=
  bodied P f = true ∧ ∀ (w0 : World) (ro0 : Nat → Nat → Option Value) (K : Kn) (w : World) (vs : Array Value), WRel G w0 ro0 K σ w → VRels K args vs.toList →
    Calls P f vs w fun e w' => (∃ v' v σ' K', e = .returned v' ∧ K.le K' ∧ WRel G w0 ro0 K' σ' w' ∧ VRel K' v v' ∧ Q v σ') ∨ ∃ c σ' K', e = .panicked c ∧ K.le K' ∧ WRel G w0 ro0 K' σ' w' ∧ G.X c σ'

section
variable {P : Program} {G : Glo} {N : Nat} {env : Env} {σ : St} {Q : Exit → Env → St → Prop}

theorem APost.mono {w0 : World} {ro0 : Nat → Nat → Option Value} {K : Kn} {ds : List Deferred} {Q' : Exit → Env → St → Prop} {e : Exit} {a : Act} {w : World} (h : APost G w0 ro0 K N ds Q e a w) (hq : ∀ e env σ, Q e env σ → Q' e env σ) : APost G w0 ro0 K N ds Q' e a w := by
  rcases h with ⟨K', env', σ', h1, h2, h3, hd, h4⟩ | h
  · exact .inl ⟨K', env', σ', h1, h2, h3, hd, hq _ _ _ h4⟩
  · exact .inr h

theorem AWp.mono {c : Code} {Q' : Exit → Env → St → Prop} (h : AWp P G N c env σ Q) (hq : ∀ e env σ, Q e env σ → Q' e env σ) : AWp P G N c env σ Q' :=
  fun w0 ro0 K a w hw he => wp_mono (h w0 ro0 K a w hw he) fun e a w x => x.mono hq

theorem AWp.skip (h : Q .normal env σ) : AWp P G N .skip env σ Q := fun w0 ro0 K a w hw he => wp_skip (.inl ⟨K, env, σ, Kn.le_refl K, hw, he, .same rfl, h⟩)
theorem AWp.ret (h : Q .ret env σ) : AWp P G N .ret env σ Q := fun w0 ro0 K a w hw he => wp_ret (.inl ⟨K, env, σ, Kn.le_refl K, hw, he, .same rfl, h⟩)
theorem AWp.exit {id : Nat} (h : Q (.exit id) env σ) : AWp P G N (.exit id) env σ Q := fun w0 ro0 K a w hw he => wp_exit (.inl ⟨K, env, σ, Kn.le_refl K, hw, he, .same rfl, h⟩)

/-- What follows, and where the first part may end otherwise. -/
def aThen (next : Env → St → Prop) (Q : Exit → Env → St → Prop) : Exit → Env → St → Prop
  | .normal, env, σ => next env σ
  | e, env, σ => Q e env σ

theorem APost.weaken {w0 : World} {ro0 : Nat → Nat → Option Value} {K K' : Kn} (hle : K.le K') {ds : List Deferred} {e : Exit} {a : Act} {w : World} (h : APost G w0 ro0 K' N ds Q e a w) : APost G w0 ro0 K N ds Q e a w := by
  rcases h with ⟨K1, env', σ', h1, h2, h3, hd, h4⟩ | ⟨c, K1, σ', e, h1, h2, hd, h4⟩
  · exact .inl ⟨K1, env', σ', Kn.le_trans hle h1, h2, h3, hd.less hle, h4⟩
  · exact .inr ⟨c, K1, σ', e, Kn.le_trans hle h1, h2, hd.less hle, h4⟩

theorem APost.after {w0 : World} {ro0 : Nat → Nat → Option Value} {K K' : Kn} (hle : K.le K') {ds ds' : List Deferred} (hd : Dfr K ds K' ds') {e : Exit} {a : Act} {w : World} (h : APost G w0 ro0 K' N ds' Q e a w) : APost G w0 ro0 K N ds Q e a w := by
  rcases h with ⟨K1, env', σ', h1, h2, h3, hd', h4⟩ | ⟨c, K1, σ', e, h1, h2, hd', h4⟩
  · exact .inl ⟨K1, env', σ', Kn.le_trans hle h1, h2, h3, hd.trans hle h1 hd', h4⟩
  · exact .inr ⟨c, K1, σ', e, Kn.le_trans hle h1, h2, hd.trans hle h1 hd', h4⟩

theorem AWp.seq {x y : Code} (h : AWp P G N x env σ (aThen (fun env σ => AWp P G N y env σ Q) Q)) : AWp P G N (.seq x y) env σ Q := by
  intro w0 ro0 K a w hw he
  refine wp_seq (wp_mono (h w0 ro0 K a w hw he) ?_)
  intro e a' w' hp
  rcases hp with ⟨K', env', σ', h1, h2, h3, hd, h4⟩ | ⟨c, K', σ', rfl, hp⟩
  case inr => exact .inr ⟨c, K', σ', rfl, hp⟩
  cases e with
  | normal => exact wp_mono (h4 w0 ro0 K' a' w' h2 h3) fun e a w x => x.after h1 hd
  | exit id => exact .inl ⟨K', env', σ', h1, h2, h3, hd, h4⟩
  | goto l => exact .inl ⟨K', env', σ', h1, h2, h3, hd, h4⟩
  | ret => exact .inl ⟨K', env', σ', h1, h2, h3, hd, h4⟩
  | panic c => exact .inl ⟨K', env', σ', h1, h2, h3, hd, h4⟩
  | outgrown => exact .inl ⟨K', env', σ', h1, h2, h3, hd, h4⟩

theorem AWp.cond {c : Operand} {x y : Code} {b : Bool} (hc : ev G env c = .bool b) (ht : b = true → AWp P G N x env σ Q) (hf : b = false → AWp P G N y env σ Q) : AWp P G N (.cond c x y) env σ Q := by
  intro w0 ro0 K a w hw he
  have := ev_rel hw he c
  rw [hc] at this
  simp only [VRel] at this
  exact wp_cond_split this (fun e => ht e w0 ro0 K a w hw he) (fun e => hf e w0 ro0 K a w hw he)

def aBlock (id : Nat) (Q : Exit → Env → St → Prop) : Exit → Env → St → Prop
  | .exit id', env, σ => if id' = id then Q .normal env σ else Q (.exit id') env σ
  | e, env, σ => Q e env σ

theorem AWp.block {id : Nat} {c : Code} (h : AWp P G N c env σ (aBlock id Q)) : AWp P G N (.block id c) env σ Q := by
  intro w0 ro0 K a w hw he
  refine wp_block (wp_mono (h w0 ro0 K a w hw he) ?_)
  intro e a' w' hp
  rcases hp with ⟨K', env', σ', h1, h2, h3, hd, h4⟩ | ⟨c, K', σ', rfl, hp⟩
  case inr => exact .inr ⟨c, K', σ', rfl, hp⟩
  cases e with
  | exit id' =>
    simp only [aBlock] at h4
    simp only [Exit.inBlock]
    split
    · rename_i e; rw [if_pos e] at h4; exact .inl ⟨K', env', σ', h1, h2, h3, hd, h4⟩
    · rename_i e; rw [if_neg e] at h4; exact .inl ⟨K', env', σ', h1, h2, h3, hd, h4⟩
  | normal => exact .inl ⟨K', env', σ', h1, h2, h3, hd, h4⟩
  | goto l => exact .inl ⟨K', env', σ', h1, h2, h3, hd, h4⟩
  | ret => exact .inl ⟨K', env', σ', h1, h2, h3, hd, h4⟩
  | panic c => exact .inl ⟨K', env', σ', h1, h2, h3, hd, h4⟩
  | outgrown => exact .inl ⟨K', env', σ', h1, h2, h3, hd, h4⟩

/-- A loop: an invariant that bears a number, which every round lowers. -/
theorem AWp.loop {c : Code} (I : Nat → Env → St → Prop) (n₀ : Nat) (h₀ : I n₀ env σ)
    (round : ∀ n env σ, I n env σ → AWp P G N c env σ (aThen (fun env' σ' => ∃ n', n' < n ∧ I n' env' σ') Q)) : AWp P G N (.loop c) env σ Q := by
  intro w0 ro0 K a w hw he
  refine wp_loop_ghost (fun n X w => ∃ K' env' σ', K.le K' ∧ WRel G w0 ro0 K' σ' w ∧ ERel K' N env' X ∧ Dfr K a.defers K' X.defers ∧ I n env' σ') n₀ ⟨K, env, σ, Kn.le_refl K, hw, he, .same rfl, h₀⟩ ?_
  intro n a' w' hI
  obtain ⟨K', env', σ', h1, h2, h3, hd, h4⟩ := hI
  refine wp_mono (round n env' σ' h4 w0 ro0 K' a' w' h2 h3) ?_
  intro e a2 w2 hp
  rcases hp with ⟨K2, env2, σ2, g1, g2, g3, gd, g4⟩ | ⟨c, K2, σ2, rfl, g1, g2, gd, g4⟩
  case inr => exact .inr ⟨c, K2, σ2, rfl, Kn.le_trans h1 g1, g2, hd.trans h1 g1 gd, g4⟩
  have gd := hd.trans h1 g1 gd
  cases e with
  | normal =>
    obtain ⟨n', hn, hi⟩ := g4
    exact ⟨n', hn, K2, env2, σ2, Kn.le_trans h1 g1, g2, g3, gd, hi⟩
  | exit id => exact .inl ⟨K2, env2, σ2, Kn.le_trans h1 g1, g2, g3, gd, g4⟩
  | goto l => exact .inl ⟨K2, env2, σ2, Kn.le_trans h1 g1, g2, g3, gd, g4⟩
  | ret => exact .inl ⟨K2, env2, σ2, Kn.le_trans h1 g1, g2, g3, gd, g4⟩
  | panic c => exact .inl ⟨K2, env2, σ2, Kn.le_trans h1 g1, g2, g3, gd, g4⟩
  | outgrown => exact .inl ⟨K2, env2, σ2, Kn.le_trans h1 g1, g2, g3, gd, g4⟩
end

/-- A call that lets no panic out is one wherever panics are looked for. -/
theorem ACall.glo {P : Program} {g : Nat → AV} {X : List PanicEntry → St → Prop} {f : FuncId} {args : List AV} {σ : St} {Q : AV → St → Prop} (h : ACall P (quiet g) f args σ Q) : ACall P ⟨g, X⟩ f args σ Q :=
  ⟨h.1, fun w0 ro0 K w vs hw hvs => (h.2 w0 ro0 K w vs hw hvs).mono fun e w' h => h.imp id fun ⟨_, _, _, _, _, _, h⟩ => h.elim⟩
end Go.Abs
end
