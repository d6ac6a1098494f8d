/- A part of the proof. -/
import Derived.Test.YtpjdjolphpfanaaGreatDoorGa05
set_option linter.unusedVariables false
set_option linter.unusedSimpArgs false
set_option linter.defProp false
section
namespace Go.Abs
open Go Go.RowKit
section

/-- A value as a callee sees it that changes nothing: the state's blocks are read-only rows. -/
def frz (H : List Blk) : Nat → AV → AV
  | 0, v => if noRef v then v else .any
  | n + 1, v => if noRef v then v else match v with
    | .ptr b off => match H[b]? with
      | some (.cells c) => .rptr ((c.drop off).map (frz H n))
      | _ => .any
    | .ms b off len sz => match H[b]? with
      | some (.cells c) => if off + len * sz ≤ c.length ∧ ((chunk sz len (c.drop off)).map (·.map (frz H n))).all (·.all AV.atom) = true then .sl sz ((chunk sz len (c.drop off)).map (·.map (frz H n))) .none else .any
      | _ => .any
    | .rptr c => .rptr (c.map (frz H n))
    | .sl sz rows _ => if (rows.map (·.map (frz H n))).all (·.all AV.atom) = true then .sl sz (rows.map (·.map (frz H n))) .none else .any
    | .fn f a b => .fn f (a.map (frz H n)) (b.map (frz H n))
    | .agg c => .agg (c.map (frz H n))
    | .tup c => .tup (c.map (frz H n))
    | _ => .any

section
variable {P : Program} {G : Nat → AV} {w0 : World} {ro0 : Nat → Nat → Option Value} {K : Kn} {σ : St} {w w' : World}

theorem CellsAt.mapRel {K K' : Kn} (hro : ∀ b o v, K.ro b o = some v → K'.ro b o = some v) {f : AV → AV} (hf : ∀ a v, VRel K a v → VRel K' (f a) v) : ∀ (c : List AV) {B off : Nat}, CellsAt K B off c → CellsAt K' B off (c.map f)
  | [], _, _, _ => by simp [CellsAt]
  | a :: r, B, off, h => by
    simp only [CellsAt, List.map_cons] at h ⊢
    obtain ⟨⟨v, h1, h2⟩, h3⟩ := h
    exact ⟨⟨v, hro _ _ _ h1, hf a v h2⟩, CellsAt.mapRel hro hf r h3⟩

theorem RowsAt.mapRel {K K' : Kn} (hro : ∀ b o v, K.ro b o = some v → K'.ro b o = some v) {f : AV → AV} (hf : ∀ a v, VRel K a v → VRel K' (f a) v) : ∀ (c : List (List AV)) {B off sz : Nat}, (c.map (·.map f)).all (·.all AV.atom) = true → RowsAt K B off sz c → RowsAt K' B off sz (c.map (·.map f))
  | [], _, _, _, _, _ => by simp [RowsAt]
  | a :: r, B, off, sz, ha, h => by
    simp only [RowsAt, List.map_cons, List.all_cons, Bool.and_eq_true] at h ha ⊢
    obtain ⟨⟨h1, h2, h3⟩, h4⟩ := h
    exact ⟨⟨by simpa using h1, ha.1, CellsAt.mapRel hro hf a h3⟩, RowsAt.mapRel hro hf r ha.2 h4⟩

/-- All of memory, read-only. -/
def roAll (w : World) : Nat → Nat → Option Value := fun b o => w.cell? ⟨b, o, none⟩

theorem frz_gen (h : WRel G w0 ro0 K σ w) {ro' : Nat → Nat → Option Value} (hro : ∀ b o v, K.ro b o = some v → ro' b o = some v) (hnew : ∀ B o v, w0.heap.size ≤ B → K.ro B o = none → w.cell? ⟨B, o, none⟩ = some v → ro' B o = some v) :
    ∀ (n : Nat) {a : AV} {v : Value}, VRel K a v → VRel (K0 ro') (frz σ.H n a) v := by
  have base : ∀ {a : AV} {v : Value}, noRef a = true → VRel K a v → VRel (K0 ro') a v := fun hn hv => (VRel.toK0 _ hn hv).mono (K0_mono' hro)
  intro n
  induction n with
  | zero =>
    intro a v hv
    unfold frz
    split
    · rename_i hn; exact base hn hv
    · simp [VRel]
  | succ n ih =>
    intro a v hv
    unfold frz
    split
    · rename_i hn; exact base hn hv
    · cases a with
      | ptr b off =>
        simp only
        split
        · rename_i c hb
          simp only [VRel] at hv ⊢
          obtain ⟨B, hm, rfl⟩ := hv
          obtain ⟨B', g1, g2, g3, ⟨cs, el, g4, g5, g6, g7⟩, g8⟩ := h.blk b _ hb
          rw [hm] at g1; cases g1
          refine ⟨B, off, rfl, CellsAt.intro B _ _ fun i x e => ?_⟩
          rw [List.getElem?_map, Option.map_eq_some_iff] at e
          obtain ⟨y, e1, rfl⟩ := e
          rw [List.getElem?_drop] at e1
          obtain ⟨u, u1, u2⟩ := g7 _ _ e1
          refine ⟨u, hnew _ _ _ g2 (g8 _) ?_, ih u2⟩
          simp only [World.cell?, g4]
          exact u1
        · simp [VRel]
      | ms b off len sz =>
        simp only
        split
        · rename_i c hb
          split
          · rename_i hl
            obtain ⟨hl, hat⟩ := hl
            simp only [VRel] at hv ⊢
            obtain ⟨B, cap, hm, rfl, h1, h2⟩ := hv
            obtain ⟨B', g1, g2, g3, ⟨cs, el, g4, g5, g6, g7⟩, g8⟩ := h.blk b _ hb
            rw [hm] at g1; cases g1
            obtain ⟨k1, k2⟩ := chunk_spec sz len (c.drop off) (by simp; omega)
            refine .inr ⟨B, off, cap, by simp [k1], by simpa [k1] using h1, RowsAt.intro B sz _ off fun i r e => ?_, trivial⟩
            have hatr := List.all_eq_true.1 hat r (List.mem_of_getElem? e)
            rw [List.getElem?_map, Option.map_eq_some_iff] at e
            obtain ⟨r0, e0, rfl⟩ := e
            obtain ⟨e1, e2⟩ := k2 i r0 e0
            have hmul : (i + 1) * sz ≤ len * sz := Nat.mul_le_mul_right _ (by omega)
            rw [Nat.add_mul, Nat.one_mul] at hmul
            refine ⟨by rw [e1]; simp; omega, hatr, CellsAt.intro B _ _ fun j x ex => ?_⟩
            rw [List.getElem?_map, Option.map_eq_some_iff] at ex
            obtain ⟨y, ey, rfl⟩ := ex
            rw [e1, List.getElem?_take] at ey
            split at ey
            · rw [List.getElem?_drop, List.getElem?_drop] at ey
              obtain ⟨u, u1, u2⟩ := g7 _ _ ey
              refine ⟨u, hnew _ _ _ g2 (g8 _) ?_, ih u2⟩
              simp only [World.cell?, g4]
              simpa [Nat.add_assoc] using u1
            · cases ey
          · simp [VRel]
        · simp [VRel]
      | rptr c =>
        simp only [VRel] at hv ⊢
        obtain ⟨B, off, h1, h2⟩ := hv
        exact ⟨B, off, h1, CellsAt.mapRel hro (fun a v => ih) c h2⟩
      | sl sz rows tok =>
        simp only
        split
        · rename_i hat
          simp only [VRel] at hv ⊢
          rcases hv with ⟨h1, h2, h3⟩ | ⟨B, off, cap, h1, h2, h3, h4⟩
          · subst h2; obtain ⟨a0, h1, _⟩ := h1; exact .inl ⟨⟨a0, h1, .inr trivial⟩, rfl, trivial⟩
          · exact .inr ⟨B, off, cap, by simpa using h1, by simpa using h2, RowsAt.mapRel hro (fun a v => ih) rows hat h3, trivial⟩
        · simp [VRel]
      | fn f a b =>
        simp only [VRel] at hv ⊢
        obtain ⟨va, vb, h1, h2, h3⟩ := hv
        exact ⟨va, vb, h1, VRels.mapRel (fun a v => ih) a h2, VRels.mapRel (fun a v => ih) b h3⟩
      | agg c =>
        simp only [VRel] at hv ⊢
        obtain ⟨vs, h1, h2⟩ := hv
        exact ⟨vs, h1, VRels.mapRel (fun a v => ih) c h2⟩
      | tup c =>
        simp only [VRel] at hv ⊢
        obtain ⟨vs, h1, h2⟩ := hv
        exact ⟨vs, h1, VRels.mapRel (fun a v => ih) c h2⟩
      | _ => simp [VRel]

theorem frz_rel (h : WRel G w0 ro0 K σ w) (n : Nat) {a : AV} {v : Value} (hv : VRel K a v) : VRel (K0 (roAll w)) (frz σ.H n a) v :=
  frz_gen h (ro' := roAll w) (fun b o v e => h.ro b o v e) (fun _ _ _ _ _ e => e) n hv
theorem frz_end (h : WRel G w0 ro0 K σ w) (n : Nat) {a : AV} {v : Value} (hv : VRel K a v) : VRel (K0 (roEnd w0 w K.ro)) (frz σ.H n a) v :=
  frz_gen h (ro' := roEnd w0 w K.ro) (fun b o v e => roEnd_le _ _ _ _ _ _ e) (fun B o v hb hr e => by simp only [roEnd, hr]; rw [if_pos hb]; exact e) n hv

/-- Values that refer to no memory. -/
def flat1 : AV → Bool
  | .bool _ | .int .. | .str _ | .nilp | .nilm | .nilf => true
  | .sl _ rows tok => rows.isEmpty && (match tok with | .chain .. => false | _ => true)
  | _ => false
def flat : AV → Bool
  | .agg c => c.all flat1
  | .tup c => c.all flat1
  | v => flat1 v

theorem flat1_rel {K K' : Kn} {a : AV} {v : Value} (hf : flat1 a = true) (hs : ∀ sz rows tok, a = .sl sz rows tok → v = .slice none 0 0) (h : VRel K a v) : VRel K' a v := by
  cases a <;> simp only [flat1] at hf <;> try (cases hf; done)
  case sl sz rows tok =>
    have := hs _ _ _ rfl
    subst this
    simp only [VRel] at h ⊢
    rcases h with h | ⟨B, off, cap, h1, _⟩
    · exact .inl h
    · cases h1
  all_goals simpa [VRel] using h

/-- Values that are no slices, too. -/
def bare1 : AV → Bool
  | .bool _ | .int .. | .str _ | .nilp | .nilm | .nilf => true
  | _ => false
def bare : AV → Bool
  | .agg c => c.all bare1
  | .tup c => c.all bare1
  | v => bare1 v
theorem bare1_rel {K K' : Kn} {a : AV} {v : Value} (hf : bare1 a = true) (h : VRel K a v) : VRel K' a v := by
  cases a <;> simp only [bare1] at hf <;> first | (cases hf; done) | simpa [VRel] using h
theorem bares_rel {K K' : Kn} : ∀ (l : List AV) {vs : List Value}, l.all bare1 = true → VRels K l vs → VRels K' l vs
  | [], _, _, h => by simpa [VRels] using h
  | a :: r, _, hf, h => by
    simp only [VRels, List.all_cons, Bool.and_eq_true] at h hf ⊢
    obtain ⟨v, vr, h1, h2, h3⟩ := h
    exact ⟨v, vr, h1, bare1_rel hf.1 h2, bares_rel r hf.2 h3⟩
theorem bare_rel {K K' : Kn} {a : AV} {v : Value} (hf : bare a = true) (h : VRel K a v) : VRel K' a v := by
  unfold bare at hf
  split at hf
  · simp only [VRel] at h ⊢
    obtain ⟨vs, h1, h2⟩ := h
    exact ⟨vs, h1, bares_rel _ hf h2⟩
  · simp only [VRel] at h ⊢
    obtain ⟨vs, h1, h2⟩ := h
    exact ⟨vs, h1, bares_rel _ hf h2⟩
  · exact bare1_rel hf h

/-- A call that changes nothing. -/
def PCall (P : Program) (G : Nat → AV) (g : FuncId) (args : List AV) (σ : St) (r : AV) : Prop :=
  (noRefs (args.map plain) = true ∧ Pure P G g (args.map plain) r) ∨ (bare r = true ∧ Pure P G g (args.map (frz σ.H 8)) r)

theorem WRel.keep (hw : WRel G w0 ro0 K σ w) {ro' : Nat → Nat → Option Value} (hb : Below w.heap.size w w') (h1 : ∀ b o v, K.ro b o = some v → ro' b o = some v) (h2 : ∀ b o v, ro' b o = some v → w'.cell? ⟨b, o, none⟩ = some v)
    (h3 : ∀ b o v, ro' b o = some v → b < w.heap.size → K.ro b o = some v) : K.le { K with ro := ro' } ∧ WRel G w0 ro0 { K with ro := ro' } σ w' := by
  have hle : K.le { K with ro := ro' } := ⟨h1, fun _ _ e => e, Nat.le_refl _, fun t C _ e => ⟨C, e, .inl rfl⟩, fun _ _ _ => rfl, fun _ _ e => e, fun _ _ e => e⟩
  have hsz := hw.size_le
  refine ⟨hle, hw.below.trans (hb.mono hsz), fun g => (hw.glob g).mono (K0_mono hle), h2, fun b o v e hlt => hw.new b o v (h3 b o v e (by omega)) hlt, ?_, hw.inj, hw.mlt, ?_, hw.chd, hw.chinj, hw.nch, fun i B cs el fr e1 e2 => by
    rw [hb.block B (hw.m_lt e1).1] at e2
    exact hw.bsz i B cs el fr e1 e2, fun B x e => by
    obtain ⟨g1, g2, g3, g4⟩ := hw.fx B x e
    exact ⟨by rw [hb.block B (Array.getElem?_eq_some_iff.1 g1).1]; exact g1, g2, g3, g4⟩, hw.rwl⟩
  · intro i b e
    obtain ⟨B, a1, a2, a3, a4, a5⟩ := hw.blk i b e
    refine ⟨B, a1, a2, Nat.lt_of_lt_of_le a3 hb.size, by rw [hb.block B a3]; exact a4.mono hle, fun o => ?_⟩
    cases hr : ro' B o with
    | none => exact hr
    | some u => have := h3 B o u hr a3; rw [a5 o] at this; cases this
  · intro t k e
    obtain ⟨C, a1, a2, a3, a4, ⟨cs, el, a5, a6⟩, a7, a8⟩ := hw.ch t k e
    have hlt := (hw.ch_lt a1).1
    refine ⟨C, a1, a2, a3, a4, ⟨cs, el, by rw [hb.block _ hlt]; exact a5, a6⟩, fun o ho => ?_, a8⟩
    cases hr : ro' C.B o with
    | none => exact hr
    | some u => have := h3 C.B o u hr hlt; rw [a7 o ho] at this; cases this

theorem pcall (hw : WRel G w0 ro0 K σ w) {g : FuncId} {args : List AV} {r : AV} (hp : PCall P G g args σ r) {vs : Array Value} (hvs : VRels K args vs.toList) :
    Calls P g vs w fun e w' => ∃ v' K', e = .returned v' ∧ K.le K' ∧ WRel G w0 ro0 K' σ w' ∧ VRel K' r v' := by
  rcases hp with ⟨hno, hp⟩ | ⟨hfl, hp⟩
  · have hvs' : VRels (K0 K.ro) (args.map plain) vs.toList := VRels.toK0 _ hno (VRels.mapRel (fun _ _ => plain_rel) _ hvs)
    refine (hp.2 w K.ro vs hw.glob hw.ro hvs').mono ?_
    rintro e w' ⟨v', ro', rfl, hb, h1, h2, h3, h4⟩
    obtain ⟨hle, hw'⟩ := hw.keep hb h1 h2 h3
    exact ⟨v', { K with ro := ro' }, rfl, hle, hw', h4.mono (K0_le _)⟩
  · have hvs' : VRels (K0 (roAll w)) (args.map (frz σ.H 8)) vs.toList := VRels.mapRel (fun _ _ => frz_rel hw 8) _ hvs
    have hro : ∀ b o v, K.ro b o = some v → roAll w b o = some v := hw.ro
    refine (hp.2 w (roAll w) vs (fun g => (hw.glob g).mono (K0_mono' hro)) (fun _ _ _ e => e) hvs').mono ?_
    rintro e w' ⟨v', ro', rfl, hb, h1, h2, h3, h4⟩
    obtain ⟨hle, hw'⟩ := hw.keep (ro' := K.ro) hb (fun _ _ _ e => e) (fun b o v e => h2 b o v (h1 b o v (hro b o v e))) (fun _ _ _ e _ => e)
    exact ⟨v', _, rfl, hle, hw', bare_rel hfl h4⟩

theorem PCall.bodied {g : FuncId} {args : List AV} {r : AV} (h : PCall P G g args σ r) : bodied P g = true := by
  rcases h with h | h
  · exact h.2.1
  · exact h.2.1

theorem PCall.acall {G : Glo} {g : FuncId} {args : List AV} {r : AV} {Q : AV → St → Prop} (h : PCall P G g args σ r) (hq : Q r σ) : ACall P G g args σ Q :=
  ⟨h.bodied, fun w0 ro0 K w vs hw hvs => (pcall hw h hvs).mono fun e w' ⟨v', K', h1, h2, h3, h4⟩ => .inl ⟨v', r, σ, K', h1, h2, h3, h4, hq⟩⟩
end
end
end Go.Abs
end
