/- A part of the proof. -/
import Derived.Test.YtpjdjolphpfanaaGreatDoorGa06
import Derived.Test.YtpjdjolphpfanaaGreatDoorGa07
import Derived.Test.YtpjdjolphpfanaaGreatDoorGa08
import Derived.RangeFuncRecord
import Derived.Sort.LoopGhostIn
set_option linter.unusedVariables false
set_option linter.unusedSimpArgs false
set_option linter.defProp false
section
namespace Go.Abs
open Go Go.RowKit
section

/-- Whether an operation's guard lets it run. -/
def wantedA (ops : Array Oper) (env : Env) (o : Oper) : Option Bool :=
  match o.guard with
  | none => some true
  | some (j, b) => match (ops[j]?).bind (·.dst) with
    | some t => match env t with
      | .bool c => some (c == b)
      | .tup [] => some false
      | _ => none
    | none => some false

/-- The arguments that a function value's call hands over. -/
def callArgs (first args cap : List AV) : List AV := first ++ args ++ cap

/-- One operation: from (env, σ) it yields v and leaves σ'. -/
def OpA (P : Program) (G : Nat → AV) (o : Oper) (env : Env) (σ : St) (v : AV) (σ' : St) : Prop :=
  sem (Dof P) G env σ o.op = some (v, σ') ∨
  ∃ f args ts g first cap, o.op = .call { callee := .value f, args := args, argTypes := ts } ∧ ev G env f = .fn g first cap ∧ PCall P G g (callArgs first (opds G env args.toList) cap) σ v ∧ σ' = σ

/-- One operation with its guard. -/
def StepA (P : Program) (G : Nat → AV) (ops : Array Oper) (o : Oper) (env : Env) (σ : St) (v : AV) (σ' : St) : Prop :=
  (wantedA ops env o = some false ∧ v = .tup [] ∧ σ' = σ) ∨ (wantedA ops env o = some true ∧ OpA P G o env σ v σ')

section
variable {P : Program} {G : Nat → AV} {N : Nat} {env : Env} {σ σ' : St} {w0 : World} {ro0 : Nat → Nat → Option Value} {K : Kn} {a : Act} {w : World} {ops : Array Oper} {o : Oper} {v : AV}

theorem wanted_rel (he : ERel K N env a) {b : Bool} (hj : ∀ j, o.guard = some (j, true) ∨ o.guard = some (j, false) → ∀ t, (ops[j]?).bind (·.dst) = some t → t < N) (h : wantedA ops env o = some b) :
    Region.wanted o (yielded ops a.tmps) = b := by
  unfold wantedA at h
  unfold Region.wanted
  split at h
  · rename_i hg; simp at h; subst h; simp [hg]
  · rename_i j c hg
    simp only [hg]
    split at h
    · rename_i t ht
      have htN : t < N := hj j (by cases c <;> simp [hg]) t ht
      have hv := he.val t
      have hsz : t < a.tmps.size := by rw [he.size]; exact htN
      simp only [yielded, ht, Option.bind_some]
      split at h
      · rename_i x hx
        simp at h; subst h
        rw [hx] at hv
        simp only [VRel] at hv
        have : a.tmps[t]? = some (.bool x) := by
          rw [Array.getElem?_eq_getElem hsz]
          simp [hsz] at hv
          rw [hv]
        simp only [this]
        cases x <;> cases c <;> rfl
      · rename_i hx
        simp at h; subst h
        rw [hx] at hv
        simp only [VRel, VRels] at hv
        obtain ⟨vs, hv1, hv2⟩ := hv
        have : a.tmps[t]? = some (.tuple vs) := by
          rw [Array.getElem?_eq_getElem hsz]
          simp [hsz] at hv1
          rw [hv1]
        simp only [this]
        rfl
      · cases h
    · rename_i ht
      simp at h; subst h
      simp [yielded, ht]

theorem exec_call (hw : WRel G w0 ro0 K σ w) (he : ERel K N env a) {f : Operand} {args : Array Operand} {ts : Array TypeId} {g : FuncId} {first cap : List AV} (ho : o.op = .call { callee := .value f, args := args, argTypes := ts })
    (hf : ev G env f = .fn g first cap) (hb : bodied P g = true) :
    ∃ vs : Array Value, (execOp a.eval o).run P w = .ok (.enter g vs) w ∧ VRels K (callArgs first (opds G env args.toList) cap) vs.toList := by
  have hv := ev_rel hw he f
  rw [hf] at hv
  simp only [VRel] at hv
  obtain ⟨va, vb, e1, h1, h2⟩ := hv
  refine ⟨va ++ args.map a.eval ++ vb, ?_, ?_⟩
  · cases hg : P.funcs[g]? with
    | none => simp [bodied, hg] at hb
    | some fn =>
      simp [bodied, hg] at hb
      obtain ⟨b1, b2⟩ := hb
      have hbn : ¬ fn.body = none := by intro e; simp [e] at b1
      simp [execOp, ho, resolve, e1, Deferred.ofValue, invoke, callFunc, hg, b2, hbn]
  · have := opds_rel hw he args.toList
    simp only [callArgs, Array.toList_append, Array.toList_map]
    exact (h1.append this).append h2

theorem Act.put_defers' {a : Act} {d : Option Tmp} {v : Value} : (a.put d v).defers = a.defers := by
  unfold Act.put; split <;> rfl

/-- One operation that may run, as the walk of a region has it. -/
theorem op_step (hw : WRel G w0 ro0 K σ w) (he : ERel K N env a) (hd : ∀ d, o.dst = some d → d < N) (h : OpA P G o env σ v σ') {next : Act → World → Prop} {Q : Exit → Act → World → Prop}
    (hn : ∀ K' a' w', K.le K' → WRel G w0 ro0 K' σ' w' → ERel K' N (upd env o.dst v) a' → a'.defers = a.defers → next a' w') : o.wp P a w next Q := by
  rcases h with h | ⟨f, args, ts, g, first, cap, ho, hf, hp, rfl⟩
  · obtain ⟨v', w', K', hr, h1, h2, h3⟩ := sem_sound hw he o h
    unfold Oper.wp
    rcases hr with hr | ⟨hr, rfl⟩
    · rw [hr]; exact hn K' _ w' h1 h2 ((he.mono h1).put hd h3) Act.put_defers'
    · rw [hr]; exact hn K' _ w' h1 h2 ((he.mono h1).put hd h3) Act.put_defers'
  · obtain ⟨vs, hr, hvs⟩ := exec_call hw he ho hf hp.bodied
    unfold Oper.wp
    rw [hr, Oper.upon_enter]
    refine (pcall hw hp hvs).mono ?_
    rintro e w' ⟨v', K', rfl, h1, h2, h3⟩
    exact hn K' _ w' h1 h2 ((he.mono h1).put hd h3) Act.put_defers'

/-- The slots that a region writes are slots of the frame; a guard looks at one of them. -/
def slotsOk (N : Nat) (ops : Array Oper) : Bool := ops.toList.all fun o => match o.dst with | some d => decide (d < N) | none => true

theorem slots_dst {N : Nat} {ops : Array Oper} (h : slotsOk N ops = true) {o : Oper} (ho : o ∈ ops.toList) : ∀ d, o.dst = some d → d < N := by
  intro d hd
  have := List.all_eq_true.1 h o ho
  simpa [hd] using this

theorem slots_guard {N : Nat} {ops : Array Oper} (h : slotsOk N ops = true) (o : Oper) : ∀ j, o.guard = some (j, true) ∨ o.guard = some (j, false) → ∀ t, (ops[j]?).bind (·.dst) = some t → t < N := by
  intro j _ t ht
  obtain ⟨o', h1, h2⟩ := Option.bind_eq_some_iff.1 ht
  exact slots_dst h (List.mem_of_getElem? (by simpa using h1)) t h2

/-! ### A function's body -/
def envOf (args : List AV) : Env := fun t => args.getD t (.tup [])

/-- A function's results out of its slots. -/
def resA (D : Nat → Option TI) (rs : List ResultVar) (env : Env) (σ : St) : Option (List AV) :=
  match rs with
  | [] => some []
  | .tmp t :: r => (resA D r env σ).map (env t :: ·)
  | .cell x t :: r => match loadA D σ t (env x), resA D r env σ with
    | some v, some l => some (v :: l)
    | _, _ => none

def tupA : List AV → AV
  | [v] => v
  | l => .tup l

/-- One result. -/
def resOne (a : Act) : ResultVar → Sem Value
  | .tmp t => pure (a.tmps.getD t undef)
  | .cell x t => do loadVar t (← asAddr (a.tmps.getD x undef))

theorem run_resOnes (hw : WRel G w0 ro0 K σ w) (he : ERel K N env a) : ∀ (rs : List ResultVar) (l : List AV), resA (Dof P) rs env σ = some l →
    ∃ vs : List Value, (rs.mapM (resOne a)).run P w = .ok vs w ∧ VRels K l vs
  | [], l, h => by simp [resA] at h; subst h; exact ⟨[], by simp, by simp [VRels]⟩
  | .tmp t :: r, l, h => by
    simp only [resA] at h
    obtain ⟨l', hl', rfl⟩ := Option.map_eq_some_iff.1 h
    obtain ⟨vs, h1, h2⟩ := run_resOnes hw he r l' hl'
    refine ⟨a.tmps.getD t undef :: vs, ?_, by simp only [VRels]; exact ⟨_, _, rfl, he.val t, h2⟩⟩
    rw [List.mapM_cons, Sem.run_bind]
    simp only [resOne, pure, Sem.run, Result.andThen_ok, Sem.run_bind, h1]
  | .cell x t :: r, l, h => by
    simp only [resA] at h
    split at h
    · rename_i v l' hv hl'
      simp only [Option.some.injEq] at h
      subst h
      obtain ⟨vs, h1, h2⟩ := run_resOnes hw he r l' hl'
      obtain ⟨v', r1, r2⟩ := load_same hw (he.val x) hv
      have hx := he.val x
      have hptr : ∃ ad, a.tmps.getD x undef = .pointer (some ad) := by
        cases hxx : env x <;> rw [hxx] at hx hv <;> simp only [VRel] at hx <;> first
          | (obtain ⟨B, _, e⟩ := hx; exact ⟨_, e⟩)
          | (obtain ⟨B, o, e, _⟩ := hx; exact ⟨_, e⟩)
          | (unfold loadA at hv; split at hv <;> simp_all)
      obtain ⟨ad, had⟩ := hptr
      refine ⟨v' :: vs, ?_, by simp only [VRels]; exact ⟨_, _, rfl, r2, h2⟩⟩
      rw [had] at r1
      simp only [Instr.loadAt, Instr.sureAddr, pure, Sem.run_bind, Sem.run, Result.andThen_ok] at r1
      rw [List.mapM_cons, Sem.run_bind]
      simp only [resOne, had, asAddr, pure, Sem.run, Result.andThen_ok, Sem.run_bind, r1, h1]
    · cases h

theorem run_results (hw : WRel G w0 ro0 K σ w) (he : ERel K N env a) {fn : Func} {l : List AV} (h : resA (Dof P) fn.results.toList env σ = some l) :
    ∃ v, (results fn a.tmps).run P w = .ok v w ∧ VRel K (tupA l) v := by
  obtain ⟨vs, h1, h2⟩ := run_resOnes hw he _ _ h
  have hrun : (fn.results.mapM (resOne a)).run P w = .ok vs.toArray w := by
    rw [Array.mapM_eq_mapM_toList]
    simp [h1]
  have hres : results fn a.tmps = (fn.results.mapM (resOne a)).bind fun vs => Sem.pure (if h : vs.size = 1 then vs[0] else .tuple vs) := by
    unfold results
    show Sem.bind _ _ = _
    congr 2
  have hlen := h2.length
  cases l with
  | nil =>
    simp only [VRels] at h2
    subst h2
    refine ⟨.tuple #[], ?_, by simp only [tupA, VRel]; exact ⟨#[], rfl, by simp [VRels]⟩⟩
    rw [hres, Sem.run_bind', hrun]
    rfl
  | cons x r =>
    cases r with
    | nil =>
      simp only [VRels] at h2
      obtain ⟨v, vr, rfl, g1, rfl⟩ := h2
      refine ⟨v, ?_, g1⟩
      rw [hres, Sem.run_bind', hrun]
      rfl
    | cons y r =>
      refine ⟨.tuple vs.toArray, ?_, by simp only [tupA, VRel]; exact ⟨_, rfl, by simpa using h2⟩⟩
      rw [hres, Sem.run_bind', hrun]
      have : ¬ vs.toArray.size = 1 := by simp at hlen ⊢; omega
      simp only [Result.andThen_ok, dif_neg this, Sem.run]

theorem ERel.enter {args : List AV} {vs : Array Value} {n : Nat} (hvs : VRels K args vs.toList) (hn : args.length ≤ n) :
    ERel K n (envOf args) { tmps := vs ++ Array.replicate (n - vs.size) undef, defers := [] } := by
  have hlen := hvs.length
  simp only [Array.length_toList] at hlen
  refine ⟨by simp; omega, fun t => ?_⟩
  simp only [envOf]
  by_cases ht : t < vs.size
  · have h1 : args[t]? = some args[t] := List.getElem?_eq_getElem (by omega)
    obtain ⟨v, e1, e2⟩ := hvs.get t _ h1
    have e1' : vs[t]? = some v := by simpa using e1
    simp only [List.getD_eq_getElem?_getD, h1, Option.getD_some]
    rw [Array.getD_eq_getD_getElem?, Array.getElem?_append_left ht, e1']
    exact e2
  · have h1 : args[t]? = none := List.getElem?_eq_none (by omega)
    simp only [List.getD_eq_getElem?_getD, h1, Option.getD_none]
    rw [Array.getD_eq_getD_getElem?, Array.getElem?_append_right (by omega)]
    have : (Array.replicate (n - vs.size) undef)[t - vs.size]?.getD undef = undef := by
      rw [Array.getElem?_replicate]
      split <;> rfl
    rw [this]
    exact ⟨#[], rfl, by simp [VRels]⟩

/-- At a function's end the marks are taken, then the results. -/
theorem leaves_marks {u : FrameMode} (hu : u ≠ .run) {fn : Func} {R : Ending → World → Prop} {tmps : Array Value} {f0 : Nat → Option Obj} : ∀ (Ds : List Nat) (K : Kn) (w : World), WRel G w0 ro0 K σ w → Ds.Nodup → (∀ D ∈ Ds, K.fx D = some (.deferred (some [])) ∧ f0 D = none) →
    (∀ B o, f0 B = some o → K.fx B = some o) →
    (∀ (w' : World), WRel G w0 ro0 (K.withFx f0) σ w' → LeavesIn Fence.wide 0 P fn tmps R [] u w') → LeavesInM Fence.wide 0 P fn tmps R (Ds.map mark) u w
  | [], K, w, hw, _, _, hf, h => h w (hw.unfix hf)
  | D :: Ds, K, w, hw, hn, hD, hf, h => by
    obtain ⟨d1, d2⟩ := hD D (by simp)
    obtain ⟨b1, _⟩ := hw.fx D _ d1
    have hw1 := hw.refix d1 (by intros; intro e; cases e) (.deferred none)
    refine ⟨hu, .inl ⟨D, _, rfl, run_takeDeferred b1, ?_⟩⟩
    refine leaves_marks hu Ds _ _ hw1 (List.nodup_cons.1 hn).2 (fun D' hD' => ?_) (fun B o e => ?_) h
    · have hne : ¬ D' = D := fun e => (List.nodup_cons.1 hn).1 (e ▸ hD')
      simp only [Kn.withFx, if_neg hne]
      exact hD D' (by simp [hD'])
    · have hne : ¬ B = D := fun e' => by subst e'; rw [d2] at e; cases e
      simp only [Kn.withFx, if_neg hne]
      exact hf B o e

/-- A function's contract out of what its body does. -/
theorem calls_of_awp {G : Glo} {f : FuncId} {fn : Func} {c : Code} {vs : Array Value} {R : Ending → World → Prop} {Q : Exit → Env → St → Prop} (hf : P.funcs[f]? = some fn) (hb : fn.body = some c)
    (h : c.wp P (APost G w0 ro0 K fn.ntmps [] Q) { tmps := vs ++ Array.replicate (fn.ntmps - vs.size) undef, defers := [] } w)
    (hR : ∀ e K' env σ a w', K.le K' → WRel G w0 ro0 K' σ w' → ERel K' fn.ntmps env a → Q e env σ → (e = .ret ∨ e = .normal) ∧ ∃ v, (results fn a.tmps).run P w' = .ok v w' ∧ R (.returned v) w')
    (hX : ∀ c K' σ w', K.le K' → WRel G w0 ro0 K' σ w' → G.X c σ → R (.panicked c) w') : Calls P f vs w R := by
  refine (callsIn_wide (n := 0)).1 (callsIn_of_wp_marks hf hb trivial (wpIn_mono (wpIn_wide.2 h) ?_))
  rintro e a w' (⟨K', env, σ', h1, h2, h3, ⟨Ds, n1, n2, n3⟩, hq⟩ | ⟨c, K', σ', rfl, h1, h2, ⟨Ds, n1, n2, n3⟩, hq⟩)
  · have he := (hR e K' env σ' a w' h1 h2 h3 hq).1
    have key : LeavesInM Fence.wide 0 P fn a.tmps R a.defers .returning w' := by
      rw [n2, List.append_nil]
      refine leaves_marks (by simp) (G := G) (w0 := w0) (ro0 := ro0) (σ := σ') (f0 := K.fx) Ds K' w' h2 n1 (fun D hD => ⟨(n3 D hD).2, (n3 D hD).1⟩) h1.fx fun w'' hw'' => ?_
      exact (hR e _ env σ' a w'' (Kn.le_swap (K := K) (f := K.fx) h1 fun _ _ e => e) hw'' (h3.refx K.fx) hq).2
    rcases he with rfl | rfl
    · exact key
    · exact key
  · show LeavesInM Fence.wide 0 P fn a.tmps R a.defers (.panicking c) w'
    rw [n2, List.append_nil]
    refine leaves_marks (by simp) (G := G) (w0 := w0) (ro0 := ro0) (σ := σ') (f0 := K.fx) Ds K' w' h2 n1 (fun D hD => ⟨(n3 D hD).2, (n3 D hD).1⟩) h1.fx fun w'' hw'' => ?_
    exact hX c _ σ' w'' (Kn.le_swap (K := K) (f := K.fx) h1 fun _ _ e => e) hw'' hq

/-- **The contract of a pure function, out of what its body does.** -/
theorem Pure.of_body {G : Glo} (hX : G.NoX) {f : FuncId} {fn : Func} {c : Code} {args : List AV} {r : AV} (hf : P.funcs[f]? = some fn) (hb : fn.body = some c) (hnm : fn.name ≠ "runtime.NumGoroutine") (hn : args.length ≤ fn.ntmps)
    (h : AWp P G fn.ntmps c (envOf args) ⟨[], []⟩ (fun e env σ => (e = .ret ∨ e = .normal) ∧ ∃ l, resA (Dof P) fn.results.toList env σ = some l ∧ ((noRef (fin σ.H (tupA l)) = true ∧ Leq (fin σ.H (tupA l)) r) ∨ (noRef (frz σ.H 8 (tupA l)) = true ∧ Leq (frz σ.H 8 (tupA l)) r)))) : Pure P G f args r := by
  refine ⟨by simp [bodied, hf, hb, hnm], ?_⟩
  intro w0 ro vs hg hro hvs
  have hw : WRel G w0 ro (K0 ro) ⟨[], []⟩ w0 := ⟨Below.refl _ _, hg, hro, fun b o v e _ => e, by simp, fun _ _ _ e => by simp [K0] at e, fun _ _ e => by simp [K0] at e, by simp, fun _ _ e => by simp [K0] at e,
    fun _ _ _ _ e => by simp [K0] at e, rfl, fun _ _ _ _ _ e => by simp [K0] at e, fun _ _ e => by simp [K0] at e, fun _ _ e => by simp [K0] at e⟩
  have he := ERel.enter hvs hn
  refine calls_of_awp hf hb (h w0 ro (K0 ro) _ w0 hw he) ?_ fun c _ σ _ _ _ hc => (hX c σ hc).elim
  rintro e K' env σ a w h1 h2 h3 ⟨hend, l, hl, hfin⟩
  refine ⟨hend, ?_⟩
  obtain ⟨v, hr, hv⟩ := run_results h2 h3 hl
  have hv3 : VRel (K0 (roEnd w0 w K'.ro)) r v := by
    rcases hfin with ⟨hno, hfin⟩ | ⟨hno, hfin⟩
    · exact Leq.rel _ _ hfin (VRel.toK0 _ hno (fin_rel h2 hv))
    · exact Leq.rel _ _ hfin (frz_end h2 8 hv)
  obtain ⟨q1, q2⟩ := h2.end_ro
  exact ⟨v, hr, v, roEnd w0 w K'.ro, rfl, h2.below, fun b o v e => roEnd_le _ _ _ _ _ _ (h1.ro b o v e), q1, q2, hv3⟩

/-- The same of a call that shares the state. -/
theorem ACall.of_body {G : Glo} {f : FuncId} {fn : Func} {c : Code} {args : List AV} {Q : AV → St → Prop} (hf : P.funcs[f]? = some fn) (hb : fn.body = some c) (hnm : fn.name ≠ "runtime.NumGoroutine") (hn : args.length ≤ fn.ntmps)
    (h : AWp P G fn.ntmps c (envOf args) σ (fun e env σ' => (e = .ret ∨ e = .normal) ∧ ∃ l, resA (Dof P) fn.results.toList env σ' = some l ∧ Q (tupA l) σ')) : ACall P G f args σ Q := by
  refine ⟨by simp [bodied, hf, hb, hnm], ?_⟩
  intro w0 ro0 K w vs hw hvs
  refine calls_of_awp hf hb (h w0 ro0 K _ w hw (ERel.enter hvs hn)) ?_ fun c K' σ' w' h1 h2 hc => .inr ⟨c, σ', K', rfl, h1, h2, hc⟩
  rintro e K' env σ' a w h1 h2 h3 ⟨hend, l, hl, hq⟩
  obtain ⟨v, hr, hv⟩ := run_results h2 h3 hl
  exact ⟨hend, v, hr, .inl ⟨v, tupA l, σ', K', rfl, h1, h2, hv, hq⟩⟩
end

end
section

/-- A call: where the order is drawn it must change nothing. -/
def vcCall (P : Program) (G : Glo) (d : Bool) (g : FuncId) (args : List AV) (σ : St) (Q : AV → St → Prop) : Prop :=
  match d with
  | true => ∃ r, PCall P G g args σ r ∧ Q r σ
  | false => ACall P G g args σ Q

/-- Where the order is drawn only the first operations may run. -/
def pickX {α : Type} (d : Bool) (l : Option α) : Option α := match d with
  | true => none
  | false => l

/-- The outcomes of an operation that is no call. -/
def vcX (l : Option (List (AV × St))) (s : Option (AV × St)) (Q : AV → St → Prop) : Prop :=
  match l with
  | some l => ∀ v σ', (v, σ') ∈ l → Q v σ'
  | none => match s with
    | some (v, σ') => Q v σ'
    | none => False

/-- One operation that runs. -/
def vcOp (P : Program) (G : Glo) (mu d : Bool) (op : Op) (env : Env) (σ : St) (Q : AV → St → Prop) : Prop :=
  match op with
  | .call { callee := .value f, args := args, argTypes := _ } => match ev G env f with
    | .fn g first cap => vcCall P G d g (callArgs first (opds G env args.toList) cap) σ Q
    | _ => False
  | op => vcX (pickX d (semX (Dof P) G mu env σ op)) (sem (Dof P) G env σ op) Q

section
variable {P : Program} {G : Glo} {N : Nat} {env : Env} {σ σ' : St} {w0 : World} {ro0 : Nat → Nat → Option Value} {K : Kn} {a : Act} {w : World} {ops : Array Oper} {o : Oper} {v : AV} {mu : Bool}

/-- One operation that may run, whatever its outcome. -/
theorem op_wide (hw : WRel G w0 ro0 K σ w) (he : ERel K N env a) (hd : ∀ d, o.dst = some d → d < N) {R : AV → St → Prop} (h : vcOp P G mu false o.op env σ R) {next : Act → World → Prop} {Q : Exit → Act → World → Prop}
    (hn : ∀ v σ' K' a' w', R v σ' → K.le K' → WRel G w0 ro0 K' σ' w' → ERel K' N (upd env o.dst v) a' → a'.defers = a.defers → next a' w')
    (hp : ∀ c σ' K' w', G.X c σ' → K.le K' → WRel G w0 ro0 K' σ' w' → Q (.panic c) a w') : o.wp P a w next Q := by
  have did : ∀ v σ', R v σ' → Did P G w0 ro0 K w (execOp a.eval o) v σ' → o.wp P a w next Q := by
    intro v σ' hr hdid
    obtain ⟨v', w', K', hrun, h1, h2, h3⟩ := hdid
    unfold Oper.wp
    rcases hrun with hrun | ⟨hrun, rfl⟩
    · rw [hrun]; exact hn v σ' K' _ w' hr h1 h2 ((he.mono h1).put hd h3) Act.put_defers'
    · rw [hrun]; exact hn v σ' K' _ w' hr h1 h2 ((he.mono h1).put hd h3) Act.put_defers'
  unfold vcOp at h
  split at h
  · rename_i f args ts hop
    split at h
    · rename_i g first cap hf
      have hac : ACall P G g (callArgs first (opds G env args.toList) cap) σ R := h
      obtain ⟨vs, hr, hvs⟩ := exec_call hw he hop hf hac.1
      unfold Oper.wp
      rw [hr, Oper.upon_enter]
      refine (hac.2 w0 ro0 K w vs hw hvs).mono ?_
      rintro e w' (⟨v', v, σ', K', rfl, h1, h2, h3, h4⟩ | ⟨c, σ', K', rfl, h1, h2, h3⟩)
      · exact hn v σ' K' _ w' h4 h1 h2 ((he.mono h1).put hd h3) Act.put_defers'
      · exact hp c σ' K' w' h3 h1 h2
    · exact h.elim
  · simp only [vcX, pickX] at h
    split at h
    · rename_i l hl
      obtain ⟨v, σ', h1, h2⟩ := semX_sound hw he o hl
      exact did v σ' (h v σ' h1) h2
    · split at h
      · rename_i v σ' hs
        exact did v σ' h (sem_sound hw he o hs)
      · exact h.elim

theorem ACall.imp {f : FuncId} {args : List AV} {Q Q' : AV → St → Prop} (h : ACall P G f args σ Q) (hq : ∀ v σ, Q v σ → Q' v σ) : ACall P G f args σ Q' :=
  ⟨h.1, fun w0 ro0 K w vs hw hvs => (h.2 w0 ro0 K w vs hw hvs).mono fun e w' h => h.imp (fun ⟨v', v, σ', K', h1, h2, h3, h4, h5⟩ => ⟨v', v, σ', K', h1, h2, h3, h4, hq _ _ h5⟩) id⟩

theorem vcX.imp {l : Option (List (AV × St))} {s : Option (AV × St)} {R R' : AV → St → Prop} (h : vcX l s R) (hr : ∀ v σ, R v σ → R' v σ) : vcX l s R' := by
  unfold vcX at h ⊢
  split at h
  · exact fun v σ' hm => hr _ _ (h v σ' hm)
  · split at h
    · exact hr _ _ h
    · exact h.elim

theorem vcOp.plain {d : Bool} {op : Op} (hop : ¬ ∃ f args ts, op = .call { callee := .value f, args := args, argTypes := ts }) (R : AV → St → Prop) :
    vcOp P G mu d op env σ R = vcX (pickX d (semX (Dof P) G mu env σ op)) (sem (Dof P) G env σ op) R := by
  unfold vcOp
  split
  · exact absurd ⟨_, _, _, rfl⟩ hop
  · rfl

theorem vcOp.imp {d : Bool} {op : Op} {R R' : AV → St → Prop} (h : vcOp P G mu d op env σ R) (hr : ∀ v σ, R v σ → R' v σ) : vcOp P G mu d op env σ R' := by
  by_cases hop : ∃ f args ts, op = .call { callee := .value f, args := args, argTypes := ts }
  · obtain ⟨f, args, ts, rfl⟩ := hop
    simp only [vcOp] at h ⊢
    split at h
    · rename_i g first cap hf
      cases d
      · exact ACall.imp h hr
      · obtain ⟨r, h1, h2⟩ := h; exact ⟨r, h1, hr _ _ h2⟩
    · exact h.elim
  · rw [vcOp.plain hop] at h ⊢
    exact h.imp hr

variable {G : Nat → AV}
/-! ### More is known of memory that has grown -/
theorem leq_atom : ∀ {a b : AV}, Leq a b → b.atom = true → a.atom = true := by
  intro a b h hb
  cases b <;> simp only [AV.atom] at hb <;> first | (cases hb; done) | skip
  all_goals (cases a <;> simp only [Leq] at h <;> first | (cases h; done) | rfl | (exact h.elim) | skip)
theorem leqs_atom : ∀ {l m : List AV}, LeqL l m → m.all AV.atom = true → l.all AV.atom = true
  | [], [], _, _ => rfl
  | a :: r, b :: s, h, hm => by
    simp only [LeqL, List.all_cons, Bool.and_eq_true] at h hm ⊢
    exact ⟨leq_atom h.1 hm.1, leqs_atom h.2 hm.2⟩
  | [], _ :: _, h, _ => by simp [LeqL] at h
  | _ :: _, [], h, _ => by simp [LeqL] at h
theorem LeqL.of_map {f g : AV → AV} (h : ∀ a, Leq (f a) (g a)) : ∀ l : List AV, LeqL (l.map f) (l.map g)
  | [] => by simp [LeqL]
  | a :: r => by simp only [List.map_cons, LeqL]; exact ⟨h a, LeqL.of_map h r⟩
theorem LeqC.of_map {f g : AV → AV} (h : ∀ a, Leq (f a) (g a)) : ∀ l : List AV, LeqC (l.map f) (l.map g)
  | [] => by simp [LeqC]
  | a :: r => by simp only [List.map_cons, LeqC]; exact ⟨h a, LeqC.of_map h r⟩
theorem LeqR.of_map {f g : AV → AV} (h : ∀ a, Leq (f a) (g a)) : ∀ l : List (List AV), (l.map (·.map g)).all (·.all AV.atom) = true → LeqR (l.map (·.map f)) (l.map (·.map g))
  | [], _ => by simp [LeqR]
  | a :: r, ha => by
    simp only [List.map_cons, List.all_cons, Bool.and_eq_true, LeqR] at ha ⊢
    exact ⟨.inr ⟨LeqL.of_map h a, ha.1⟩, LeqR.of_map h r ha.2⟩
theorem rows_atom {f g : AV → AV} (h : ∀ a, Leq (f a) (g a)) : ∀ l : List (List AV), (l.map (·.map g)).all (·.all AV.atom) = true → (l.map (·.map f)).all (·.all AV.atom) = true
  | [], _ => rfl
  | a :: r, ha => by
    simp only [List.map_cons, List.all_cons, Bool.and_eq_true] at ha ⊢
    exact ⟨leqs_atom (LeqL.of_map h a) ha.1, rows_atom h r ha.2⟩

theorem Leq.any (a : AV) : Leq a .any := by cases a <;> simp [Leq]

theorem frz_mono {H H' : List Blk} (hH : ∀ (b : Nat) (x : Blk), H[b]? = some x → H'[b]? = some x) : ∀ (n : Nat) (a : AV), Leq (frz H' n a) (frz H n a)
  | 0, a => by simp only [frz]; exact Leq.refl _
  | n + 1, a => by
    have ih := frz_mono hH n
    by_cases hn : noRef a = true
    · simp only [frz, hn, if_true]; exact Leq.refl _
    · cases a with
      | ptr b off =>
        simp only [frz, hn, Bool.false_eq_true, if_false]
        cases hb : H[b]? with
        | none => exact Leq.any _
        | some x =>
          rw [hH b x hb]
          cases x with
          | cells c => simp only [Leq]; exact LeqC.of_map ih _
          | _ => exact Leq.any _
      | ms b off len sz =>
        simp only [frz, hn, Bool.false_eq_true, if_false]
        cases hb : H[b]? with
        | none => exact Leq.any _
        | some x =>
          rw [hH b x hb]
          cases x with
          | cells c =>
            simp only
            by_cases hc : off + len * sz ≤ c.length ∧ ((chunk sz len (c.drop off)).map (·.map (frz H n))).all (·.all AV.atom) = true
            · rw [if_pos hc, if_pos ⟨hc.1, rows_atom ih _ hc.2⟩]
              simp only [Leq]
              exact .inr ⟨trivial, LeqR.of_map ih _ hc.2, .inl trivial⟩
            · rw [if_neg hc]; exact Leq.any _
          | _ => exact Leq.any _
      | rptr c => simp only [frz, hn, Bool.false_eq_true, if_false, Leq]; exact LeqC.of_map ih _
      | sl sz rows tok =>
        simp only [frz, hn, Bool.false_eq_true, if_false]
        by_cases hc : (rows.map (·.map (frz H n))).all (·.all AV.atom) = true
        · rw [if_pos hc, if_pos (rows_atom ih _ hc)]
          simp only [Leq]
          exact .inr ⟨trivial, LeqR.of_map ih _ hc, .inl trivial⟩
        · rw [if_neg hc]; exact Leq.any _
      | fn f x y => simp only [frz, hn, Bool.false_eq_true, if_false, Leq]; exact ⟨trivial, LeqL.of_map ih _, LeqL.of_map ih _⟩
      | agg c => simp only [frz, hn, Bool.false_eq_true, if_false, Leq]; exact LeqL.of_map ih _
      | tup c => simp only [frz, hn, Bool.false_eq_true, if_false, Leq]; exact LeqL.of_map ih _
      | _ => simp only [frz, hn, Bool.false_eq_true, if_false]; exact Leq.refl _

theorem Pure.less' {f : FuncId} {args args' : List AV} {r : AV} (h : Pure P G f args' r) (ha : LeqL args args') : Pure P G f args r :=
  ⟨h.1, fun w0 ro vs hg hro hvs => h.2 w0 ro vs hg hro (LeqL.rel _ _ ha hvs)⟩

theorem PCall.mono {g : FuncId} {args : List AV} {r : AV} {σ τ : St} (h : PCall P G g args σ r) (hH : ∀ (b : Nat) (x : Blk), σ.H[b]? = some x → τ.H[b]? = some x) : PCall P G g args τ r := by
  rcases h with h | ⟨h1, h2⟩
  · exact .inl h
  · exact .inr ⟨h1, h2.less' (LeqL.of_map (frz_mono hH 8) args)⟩
end
end
end Go.Abs
end
