/- A part of the proof. -/
import Derived.Test.YtpjdjolphpfanaaGreatDoorGa09
set_option linter.unusedVariables false
set_option linter.unusedSimpArgs false
set_option linter.defProp false
section
namespace Go.Abs
open Go Go.RowKit
section

/-- 0: neither reads nor writes the state; 1: reads it; 2: all else. -/
def clsA : Op → Nat
  | .move _ | .assign _ | .pick .. | .nilCheck _ | .binOp .. | .unOp .. | .convert .. | .fieldAddr .. | .field .. | .indexAddr .. | .index .. | .extract .. | .slice .. | .makeFunc .. | .build .. | .buildSlice .. => 0
  | .load .. | .lookup .. => 1
  | .call { callee := .builtin b, .. } => match b with | .len => 1 | .min => 0 | .max => 0 | _ => 2
  | .call { callee := .value _, .. } => 1
  | _ => 2

section
variable {P : Program} {G : Nat → AV} {N : Nat} {env env' : Env} {σ σ' : St} {ops : Array Oper} {o : Oper} {v : AV}

theorem cls0 (h : clsA o.op = 0) (hs : StepA P G ops o env σ v σ') : σ' = σ ∧ ∀ τ, StepA P G ops o env τ v τ := by
  rcases hs with ⟨h1, rfl, rfl⟩ | ⟨h1, h2⟩
  · exact ⟨rfl, fun τ => .inl ⟨h1, rfl, rfl⟩⟩
  · rcases h2 with h2 | ⟨f, args, ts, g, first, cap, ho, _⟩
    · have key : σ' = σ ∧ ∀ τ, sem (Dof P) G env τ o.op = some (v, τ) := by
        obtain ⟨dst, op, ty, pos, after, guard⟩ := o
        simp only at h h2 ⊢
        cases op <;> simp only [clsA] at h <;> try (cases h; done)
        case call c =>
          obtain ⟨callee, args, ts⟩ := c
          cases callee with
          | builtin b =>
            simp only at h
            split at h
            · cases h
            · simp only [sem, builtinA] at h2 ⊢
              split at h2 <;> first
                | (obtain ⟨u, hu, he⟩ := Option.map_eq_some_iff.1 h2
                   simp only [Prod.mk.injEq] at he
                   obtain ⟨rfl, rfl⟩ := he
                   exact ⟨rfl, fun τ => by simp_all⟩)
                | (rename_i hb _ _; cases hb; done)
                | (cases h2; done)
                | skip
              all_goals simp_all
            · simp only [sem, builtinA] at h2 ⊢
              split at h2 <;> first
                | (obtain ⟨u, hu, he⟩ := Option.map_eq_some_iff.1 h2
                   simp only [Prod.mk.injEq] at he
                   obtain ⟨rfl, rfl⟩ := he
                   exact ⟨rfl, fun τ => by simp_all⟩)
                | (rename_i hb _ _; cases hb; done)
                | (cases h2; done)
                | skip
              all_goals simp_all
            · cases h
          | value f => simp at h
          | invoke r m => simp at h
        case makeFunc fn a b =>
          cases fn <;> simp only [sem] at h2 ⊢ <;> first | (cases h2; done) | skip
          simp only [Option.some.injEq, Prod.mk.injEq] at h2
          obtain ⟨rfl, rfl⟩ := h2
          exact ⟨rfl, fun τ => rfl⟩
        case pick c a b =>
          simp only [sem] at h2 ⊢
          split at h2
          · simp only [Option.some.injEq, Prod.mk.injEq] at h2
            obtain ⟨rfl, rfl⟩ := h2
            exact ⟨rfl, fun τ => by simp_all⟩
          · cases h2
        case nilCheck x =>
          simp only [sem] at h2 ⊢
          split at h2
          · simp only [Option.some.injEq, Prod.mk.injEq] at h2
            obtain ⟨rfl, rfl⟩ := h2
            exact ⟨rfl, fun τ => by simp_all⟩
          · simp only [Option.some.injEq, Prod.mk.injEq] at h2
            obtain ⟨rfl, rfl⟩ := h2
            exact ⟨rfl, fun τ => by simp_all⟩
          · cases h2
        case slice t x lo hi mx =>
          simp only [sem] at h2 ⊢
          split at h2
          · split at h2
            · obtain ⟨u, hu, he⟩ := Option.map_eq_some_iff.1 h2
              simp only [Prod.mk.injEq] at he
              obtain ⟨rfl, rfl⟩ := he
              exact ⟨rfl, fun τ => by simp_all⟩
            · split at h2
              · split at h2
                · obtain ⟨u, hu, he⟩ := Option.map_eq_some_iff.1 h2
                  simp only [Prod.mk.injEq] at he
                  obtain ⟨rfl, rfl⟩ := he
                  exact ⟨rfl, fun τ => by simp_all⟩
                · cases h2
              · split at h2
                · obtain ⟨u, hu, he⟩ := Option.map_eq_some_iff.1 h2
                  simp only [Prod.mk.injEq] at he
                  obtain ⟨rfl, rfl⟩ := he
                  exact ⟨rfl, fun τ => by simp_all⟩
                · cases h2
              · cases h2
            · cases h2
          · cases h2
        all_goals
          simp only [sem] at h2 ⊢
          first
            | (obtain ⟨u, hu, he⟩ := Option.map_eq_some_iff.1 h2
               simp only [Prod.mk.injEq] at he
               obtain ⟨rfl, rfl⟩ := he
               exact ⟨rfl, fun τ => by rw [hu]; rfl⟩)
            | (simp only [Option.some.injEq, Prod.mk.injEq] at h2
               obtain ⟨rfl, rfl⟩ := h2
               exact ⟨rfl, fun τ => rfl⟩)
      exact ⟨key.1, fun τ => .inr ⟨h1, .inl (key.2 τ)⟩⟩
    · rw [ho] at h; simp [clsA] at h

theorem cls1 (h : clsA o.op = 1) (hs : StepA P G ops o env σ v σ') : σ' = σ := by
  rcases hs with ⟨h1, rfl, rfl⟩ | ⟨h1, h2⟩
  · rfl
  · rcases h2 with h2 | ⟨f, args, ts, g, first, cap, ho, _, _, e⟩
    · obtain ⟨dst, op, ty, pos, after, guard⟩ := o
      simp only at h h2
      cases op <;> simp only [clsA] at h <;> try (cases h; done)
      case load t a =>
        simp only [sem] at h2
        obtain ⟨u, hu, he⟩ := Option.map_eq_some_iff.1 h2
        simp only [Prod.mk.injEq] at he
        exact he.2.symm
      case lookup t a i ok =>
        simp only [sem] at h2
        obtain ⟨u, hu, he⟩ := Option.map_eq_some_iff.1 h2
        simp only [Prod.mk.injEq] at he
        exact he.2.symm
      case call c =>
        obtain ⟨callee, args, ts⟩ := c
        cases callee with
        | builtin b =>
          simp only [sem] at h2
          simp only at h
          unfold builtinA at h2
          split at h2
          · obtain ⟨u, hu, he⟩ := Option.map_eq_some_iff.1 h2
            simp only [Prod.mk.injEq] at he
            exact he.2.symm
          · simp at h
          · simp at h
          · simp at h
          · simp at h
          · cases h2
        | value f => simp [sem] at h2
        | invoke r m => simp [sem] at h2
    · exact e

theorem ev_upd {t : Option Nat} {u : AV} {x : Operand} (h : ∀ d, t = some d → x ≠ .tmp d) : ev G (upd env t u) x = ev G env x := by
  cases t with
  | none => rfl
  | some d =>
    cases x with
    | tmp n =>
      have : ¬ n = d := fun e => h d rfl (by rw [e])
      simp [ev, upd, this]
    | _ => rfl

theorem opds_congr {l : List Operand} (h : ∀ x ∈ l, ev G env x = ev G env' x) : opds G env l = opds G env' l := List.map_congr_left h

theorem sem_congr (D : Nat → Option TI) {op : Op} (h : ∀ x ∈ op.operands, ev G env x = ev G env' x) : sem D G env σ op = sem D G env' σ op := by
  have pairs : ∀ ps : Array (Nat × Operand), (∀ x ∈ ps.map (·.2), ev G env x = ev G env' x) → (ps.toList.map fun p => (p.1, ev G env p.2)) = (ps.toList.map fun p => (p.1, ev G env' p.2)) := fun ps hp =>
    List.map_congr_left fun p hm => by
      rw [hp p.2 (Array.mem_map.2 ⟨p, by simpa using hm, rfl⟩)]
  have opt : ∀ m : Option Operand, (∀ x, m = some x → ev G env x = ev G env' x) → m.map (ev G env) = m.map (ev G env') := by
    intro m hm
    cases m with
    | none => rfl
    | some x => simp [hm x rfl]
  cases op <;> simp only [Op.operands] at h <;> simp only [sem]
  case build t ps => rw [pairs ps fun x hx => h x (by simpa using hx)]
  case buildSlice t n ps => rw [pairs ps fun x hx => h x (by simpa using hx)]
  case makeFunc fn a b =>
    cases fn <;> simp only
    rw [opds_congr (env := env) (env' := env') (l := a.toList) (fun x hx => h x (by simp at hx; simp [hx])), opds_congr (env := env) (env' := env') (l := b.toList) (fun x hx => h x (by simp at hx; simp [hx]))]
  case call c =>
    obtain ⟨callee, args, ts⟩ := c
    cases callee <;> simp only
    rw [opds_congr (env := env) (env' := env') (l := args.toList) (fun x hx => h x (by simp at hx; simp [Call.operands, hx]))]
  case slice t x lo hi mx =>
    rw [h x (by simp), opt lo (fun y e => h y (by simp [e])), opt hi (fun y e => h y (by simp [e])), opt mx (fun y e => h y (by simp [e]))]
  case pick c a b => rw [h c (by simp), h a (by simp), h b (by simp)]
  case store t a b => rw [h a (by simp), h b (by simp)]
  case binOp op t a b u => rw [h a (by simp), h b (by simp)]
  case makeSlice t a b => rw [h a (by simp), h b (by simp)]
  case indexAddr t a b => rw [h a (by simp), h b (by simp)]
  case index t a b => rw [h a (by simp), h b (by simp)]
  case lookup t a b ok => rw [h a (by simp), h b (by simp)]
  case mapUpdate t a b c => rw [h a (by simp), h b (by simp), h c (by simp)]
  case makeMap t r => cases r <;> rfl
  case next it b => cases b <;> simp only [h it (by simp)]
  all_goals first
    | (rw [h _ (by simp)]; done)
    | rfl

theorem step_congr {t : Option Nat} {u : AV} (h : ∀ d, t = some d → d ∉ o.looksAt ops) : StepA P G ops o (upd env t u) σ v σ' ↔ StepA P G ops o env σ v σ' := by
  have hop : ∀ x ∈ o.op.operands, ev G (upd env t u) x = ev G env x := fun x hx => ev_upd fun d hd hxd => h d hd (by
    subst hxd
    exact List.mem_append_left _ (List.mem_filterMap.2 ⟨.tmp d, by simpa using hx, rfl⟩))
  have hw : wantedA ops (upd env t u) o = wantedA ops env o := by
    unfold wantedA
    cases hg : o.guard with
    | none => rfl
    | some jb =>
      obtain ⟨j, b⟩ := jb
      cases hj : (ops[j]?).bind (·.dst) with
      | none => simp [hj]
      | some s =>
        simp only [hj]
        have : upd env t u s = env s := by
          cases t with
          | none => rfl
          | some d =>
            have : ¬ s = d := fun e => h d rfl (by subst e; simp [Oper.looksAt, hg, hj])
            simp [upd, this]
        rw [this]
  have hsem := sem_congr (G := G) (σ := σ) (Dof P) (op := o.op) (env := upd env t u) (env' := env) hop
  have hpure : ∀ f args ts, o.op = .call { callee := .value f, args := args, argTypes := ts } → ev G (upd env t u) f = ev G env f ∧ opds G (upd env t u) args.toList = opds G env args.toList := by
    intro f args ts ho
    rw [ho] at hop
    simp only [Op.operands, Call.operands] at hop
    exact ⟨hop f (by simp), opds_congr fun x hx => hop x (by simp at hx; simp [hx])⟩
  unfold StepA OpA
  rw [hw, hsem]
  constructor
  · rintro (h1 | ⟨h1, h2 | ⟨f, args, ts, g, first, cap, ho, h3, h4⟩⟩)
    · exact .inl h1
    · exact .inr ⟨h1, .inl h2⟩
    · obtain ⟨e1, e2⟩ := hpure f args ts ho
      rw [e1] at h3
      rw [e2] at h4
      exact .inr ⟨h1, .inr ⟨f, args, ts, g, first, cap, ho, h3, h4⟩⟩
  · rintro (h1 | ⟨h1, h2 | ⟨f, args, ts, g, first, cap, ho, h3, h4⟩⟩)
    · exact .inl h1
    · exact .inr ⟨h1, .inl h2⟩
    · obtain ⟨e1, e2⟩ := hpure f args ts ho
      rw [← e1] at h3
      rw [← e2] at h4
      exact .inr ⟨h1, .inr ⟨f, args, ts, g, first, cap, ho, h3, h4⟩⟩

theorem upd_comm {s t : Option Nat} {u v : AV} (h : ∀ d, s = some d → t ≠ some d) : upd (upd env s u) t v = upd (upd env t v) s u := by
  cases s with
  | none => rfl
  | some d =>
    cases t with
    | none => rfl
    | some e =>
      have hne : e ≠ d := fun x => h d rfl (by rw [x])
      funext i
      simp only [upd]
      by_cases h1 : i = e
      · subst h1; simp [hne]
      · simp [h1]

/-! ### Which operations may change places -/
/-- 0: neither reads nor writes the state; 1: reads blocks; 2: lays a new block; 3: reads and writes the rows with free ends; 9: all else. 'ac': calls that may change the state. -/
def clsB (mu : Bool) (ac : List Nat) (k : Nat) (op : Op) : Nat :=
  match op with
  | .alloc _ => 2
  | .box .. => 2
  | .makeMap _ none => 2
  | .call { callee := .builtin .append, .. } => if mu then 9 else 3
  | .call { callee := .value _, .. } => if ac.contains k then 9 else 1
  | op => match clsA op with | 0 => 0 | 1 => 1 | _ => 9

def free2 (x y : Nat) : Bool := x == 0 || y == 0 || (x == 1 && (y == 1 || y == 2 || y == 3)) || (x == 3 && (y == 1 || y == 2)) || (x == 2 && y == 3)

/-- Two operations may change places. -/
def freeB (ops : Array Oper) (x y : Oper) (cx cy : Nat) : Bool := x.apart ops y && free2 cx cy

theorem loadA_mono {D : Nat → Option TI} {σ τ : St} {t : Nat} {a u : AV} (hH : ∀ (b : Nat) (x : Blk), σ.H[b]? = some x → τ.H[b]? = some x) (h : loadA D σ t a = some u) : loadA D τ t a = some u := by
  unfold loadA at h ⊢
  cases hD : D t with
  | none => simp [hD] at h
  | some i =>
    cases a <;> simp only [hD] at h ⊢ <;> first | exact h | (cases h; done) | skip
    rename_i b off
    cases hb : σ.H[b]? with
    | none => simp [hb] at h
    | some x => rw [hH _ _ hb]; rw [hb] at h; exact h

theorem lookupA_mono {D : Nat → Option TI} {σ τ : St} {t : Nat} {m k u : AV} {ok : Bool} (hH : ∀ (b : Nat) (x : Blk), σ.H[b]? = some x → τ.H[b]? = some x) (h : lookupA D σ t m k ok = some u) : lookupA D τ t m k ok = some u := by
  unfold lookupA at h ⊢
  cases hD : D t with
  | none => simp [hD] at h
  | some i =>
    simp only [hD] at h ⊢
    cases hd : i.d <;> simp only [hd] at h ⊢ <;> first | (cases h; done) | skip
    rename_i kt et
    by_cases hk : mapKeyOk D kt k = true
    · rw [if_pos hk] at h ⊢
      cases m <;> simp only at h ⊢ <;> first | exact h | (cases h; done) | skip
      rename_i b
      cases hb : σ.H[b]? with
      | none => simp [hb] at h
      | some x => rw [hH _ _ hb]; rw [hb] at h; exact h
    · rw [if_neg hk] at h; cases h

theorem lenA_mono {D : Nat → Option TI} {σ τ : St} {t : Nat} {x u : AV} (hH : ∀ (b : Nat) (x : Blk), σ.H[b]? = some x → τ.H[b]? = some x) (h : lenA D σ t x = some u) : lenA D τ t x = some u := by
  unfold lenA at h ⊢
  cases hD : D t with
  | none => simp [hD] at h
  | some i =>
    simp only [hD] at h ⊢
    cases x <;> cases hd : i.d <;> simp only [hd] at h ⊢ <;> first | exact h | (cases h; done) | skip
    rename_i b _ _
    cases hb : σ.H[b]? with
    | none => simp [hb] at h
    | some x => rw [hH _ _ hb]; rw [hb] at h; exact h

theorem appB {D : Nat → Option TI} {σ : St} {ts : List Nat} {vs : List AV} {v : AV} {σ' : St} (h : builtinA D σ .append ts vs = some (v, σ')) : ∃ t s x, ts = [t, t] ∧ vs = [s, x] ∧ appendA D σ t s x = some (v, σ') := by
  match ts, vs, h with
  | [t, u], [s, x], h =>
    simp only [builtinA] at h
    split at h
    · rename_i hut; subst hut; exact ⟨_, s, x, rfl, rfl, h⟩
    · cases h
  | [], _, h => simp [builtinA] at h
  | [_], _, h => simp [builtinA] at h
  | _ :: _ :: _ :: _, _, h => simp [builtinA] at h
  | [_, _], [], h => simp [builtinA] at h
  | [_, _], [_], h => simp [builtinA] at h
  | [_, _], _ :: _ :: _ :: _, h => simp [builtinA] at h

theorem lenB {D : Nat → Option TI} {σ : St} {ts : List Nat} {vs : List AV} {v : AV} {σ' : St} (h : builtinA D σ .len ts vs = some (v, σ')) : ∃ t x, ts = [t] ∧ vs = [x] ∧ lenA D σ t x = some v := by
  cases ts with
  | nil => simp [builtinA] at h
  | cons t r =>
    cases r with
    | cons _ _ => simp [builtinA] at h
    | nil =>
      cases vs with
      | nil => simp [builtinA] at h
      | cons x s =>
        cases s with
        | cons _ _ => simp [builtinA] at h
        | nil =>
          simp only [builtinA] at h
          obtain ⟨u, hu, he⟩ := Option.map_eq_some_iff.1 h
          simp only [Prod.mk.injEq] at he
          obtain ⟨rfl, _⟩ := he
          exact ⟨t, x, rfl, rfl, hu⟩

/-- A step that only reads: it reads the same wherever the blocks are still there. -/
theorem read_mono (h : clsA o.op = 1) (hs : StepA P G ops o env σ v σ') : σ' = σ ∧ ∀ τ : St, (∀ (b : Nat) (x : Blk), σ.H[b]? = some x → τ.H[b]? = some x) → StepA P G ops o env τ v τ := by
  have e := cls1 h hs
  refine ⟨e, fun τ hH => ?_⟩
  subst e
  rcases hs with ⟨h1, rfl, _⟩ | ⟨h1, h2⟩
  · exact .inl ⟨h1, rfl, rfl⟩
  · refine .inr ⟨h1, ?_⟩
    rcases h2 with h2 | ⟨f, args, ts, g, first, cap, ho, hf, hp, _⟩
    · left
      obtain ⟨dst, op, type, pos, after, guard⟩ := o
      simp only at h h2 ⊢
      cases op <;> simp only [clsA] at h <;> try (cases h; done)
      case load t a =>
        simp only [sem] at h2 ⊢
        obtain ⟨u, hu, he⟩ := Option.map_eq_some_iff.1 h2
        simp only [Prod.mk.injEq] at he
        obtain ⟨rfl, _⟩ := he
        rw [loadA_mono hH hu]; rfl
      case lookup t a i ok =>
        simp only [sem] at h2 ⊢
        obtain ⟨u, hu, he⟩ := Option.map_eq_some_iff.1 h2
        simp only [Prod.mk.injEq] at he
        obtain ⟨rfl, _⟩ := he
        rw [lookupA_mono hH hu]; rfl
      case call c =>
        obtain ⟨callee, args, ts⟩ := c
        cases callee with
        | builtin b =>
          simp only at h
          simp only [sem] at h2 ⊢
          cases b <;> simp only at h <;> try (cases h; done)
          obtain ⟨t, x, e1, e2, hu⟩ := lenB h2
          rw [e1, e2]
          simp only [builtinA, lenA_mono hH hu]
          rfl
        | value f => simp [sem] at h2
        | invoke r m => simp [sem] at h2
    · exact .inr ⟨f, args, ts, g, first, cap, ho, hf, hp.mono hH, rfl⟩

/-- A step that lays a new block. -/
theorem lay_step (h : (∃ e, o.op = .alloc e) ∨ (∃ e x, o.op = .box e x) ∨ (∃ t, o.op = .makeMap t none)) (hs : StepA P G ops o env σ v σ') :
    (∀ (b : Nat) (x : Blk), σ.H[b]? = some x → σ'.H[b]? = some x) ∧ σ'.T = σ.T ∧ ∀ T, StepA P G ops o env ⟨σ.H, T⟩ v ⟨σ'.H, T⟩ := by
  have push : ∀ (b : Blk) (i : Nat) (x : Blk), σ.H[i]? = some x → (σ.H ++ [b])[i]? = some x := fun b i x hi => by
    rw [List.getElem?_append_left (List.getElem?_eq_some_iff.1 hi).1]; exact hi
  rcases hs with ⟨h1, rfl, rfl⟩ | ⟨h1, h2⟩
  · exact ⟨fun _ _ e => e, rfl, fun T => .inl ⟨h1, rfl, rfl⟩⟩
  · rcases h2 with h2 | ⟨f, args, ts, g, first, cap, ho, hf, hp, _⟩
    · obtain ⟨dst, op, type, pos, after, guard⟩ := o
      simp only at h h2
      rcases h with ⟨e, rfl⟩ | ⟨e, x, rfl⟩ | ⟨t, rfl⟩
      · simp only [sem] at h2
        split at h2
        · rename_i i hD
          split at h2
          · rename_i hz
            simp only [Option.some.injEq, Prod.mk.injEq] at h2
            obtain ⟨rfl, rfl⟩ := h2
            exact ⟨push _, rfl, fun T => .inr ⟨h1, .inl (by simp [sem, hD, hz, St.push])⟩⟩
          · cases h2
        · cases h2
      · simp only [sem] at h2
        obtain ⟨c, hc, he⟩ := Option.map_eq_some_iff.1 h2
        simp only [Prod.mk.injEq] at he
        obtain ⟨rfl, rfl⟩ := he
        exact ⟨push _, rfl, fun T => .inr ⟨h1, .inl (by simp [sem, hc, St.push])⟩⟩
      · simp only [sem, Option.some.injEq, Prod.mk.injEq] at h2
        obtain ⟨rfl, rfl⟩ := h2
        exact ⟨push _, rfl, fun T => .inr ⟨h1, .inl (by simp [sem, St.push])⟩⟩
    · rw [ho] at h
      rcases h with ⟨e, h⟩ | ⟨e, x, h⟩ | ⟨t, h⟩ <;> cases h

/-- A step that appends to a row with a free end. -/
theorem app_step {args : Array Operand} {ts : Array TypeId} (h : o.op = .call { callee := .builtin .append, args := args, argTypes := ts }) (hs : StepA P G ops o env σ v σ') :
    σ'.H = σ.H ∧ ∀ H, StepA P G ops o env ⟨H, σ.T⟩ v ⟨H, σ'.T⟩ := by
  rcases hs with ⟨h1, rfl, rfl⟩ | ⟨h1, h2⟩
  · exact ⟨rfl, fun H => .inl ⟨h1, rfl, rfl⟩⟩
  · rcases h2 with h2 | ⟨f, args', ts', g, first, cap, ho, hf, hp, _⟩
    · obtain ⟨dst, op, type, pos, after, guard⟩ := o
      simp only at h
      subst h
      simp only [sem] at h2
      have key : σ'.H = σ.H ∧ ∀ H, builtinA (Dof P) ⟨H, σ.T⟩ .append ts.toList (opds G env args.toList) = some (v, ⟨H, σ'.T⟩) := by
        obtain ⟨t, s, x, e1, e2, h3⟩ := appB h2
        rw [e1, e2]
        simp only [builtinA, if_true]
        clear h2 e1 e2 h1
        unfold appendA at h3 ⊢
        split at h3
        case h_2 => cases h3
        rename_i i sz rows tok sz2 rows2 hD hr
        try simp only []
        split at h3
        case h_2 => cases h3
        rename_i e hd
        split at h3
        case h_2 => cases h3
        rename_i j hj
        try simp only [hj]
        split at h3
        case isFalse => cases h3
        rename_i hc
        try simp only [if_pos hc]
        split at h3
        · rename_i hn
          simp only [Option.some.injEq, Prod.mk.injEq] at h3
          obtain ⟨rfl, rfl⟩ := h3
          exact ⟨rfl, fun H => by rw [if_pos hn]⟩
        · rename_i hn
          split at h3
          · cases h3
          · simp only [Option.some.injEq, Prod.mk.injEq] at h3
            obtain ⟨rfl, rfl⟩ := h3
            exact ⟨rfl, fun H => by rw [if_neg hn]⟩
          · simp only [Option.some.injEq, Prod.mk.injEq] at h3
            obtain ⟨rfl, rfl⟩ := h3
            exact ⟨rfl, fun H => by rw [if_neg hn]⟩
          · split at h3
            · rename_i hk
              simp only [Option.some.injEq, Prod.mk.injEq] at h3
              obtain ⟨rfl, rfl⟩ := h3
              exact ⟨rfl, fun H => by rw [if_neg hn, if_pos hk]⟩
            · cases h3
      exact ⟨key.1, fun H => .inr ⟨h1, .inl (by simp only [sem]; exact key.2 H)⟩⟩
    · rw [h] at ho; cases ho

theorem cls_of {mu : Bool} {ac : List Nat} {k : Nat} {op : Op} :
    (clsB mu ac k op = 0 → clsA op = 0) ∧ (clsB mu ac k op = 1 → clsA op = 1) ∧ (clsB mu ac k op = 2 → (∃ e, op = .alloc e) ∨ (∃ e x, op = .box e x) ∨ (∃ t, op = .makeMap t none)) ∧
      (clsB mu ac k op = 3 → ∃ args ts, op = .call { callee := .builtin .append, args := args, argTypes := ts }) := by
  unfold clsB
  split
  · simp
  · simp
  · simp
  · cases mu <;> simp
  · split <;> simp [clsA]
  · rename_i op h1 h2 h3 h4 h5
    split
    · rename_i h; simp [h]
    · rename_i h; simp [h]
    · simp

/-- The operations beyond the first ones are of the class of all else, or they compare. -/
theorem semX_cls {mu : Bool} {ac : List Nat} {k : Nat} {op : Op} {l : List (AV × St)} (h : semX (Dof P) G mu env σ op = some l) (hb : ∀ o t x y u, op ≠ .binOp o t x y u) : clsB mu ac k op = 9 := by
  cases op <;> simp only [semX] at h <;> try (cases h; done)
  case binOp o t x y u => exact absurd rfl (hb o t x y u)
  case insert => rfl
  case next it b => cases b <;> first | rfl | (simp only at h; cases h)
  case entry => rfl
  case call c =>
    obtain ⟨callee, args, ts⟩ := c
    cases callee <;> simp only at h <;> try (cases h; done)
    split at h
    · cases mu
      · cases h
      · rfl
    · rfl
    · rfl
    · rfl
    · cases h

theorem swapB {oi oj : Oper} {vi vj : AV} {σ1 σ2 : St} {mu : Bool} {ac : List Nat} {i j : Nat} (hf : freeB ops oi oj (clsB mu ac i oi.op) (clsB mu ac j oj.op) = true) (hi : StepA P G ops oi env σ vi σ1) (hj : StepA P G ops oj (upd env oi.dst vi) σ1 vj σ2) :
    ∃ τ, StepA P G ops oj env σ vj τ ∧ StepA P G ops oi (upd env oj.dst vj) τ vi σ2 ∧ upd (upd env oj.dst vj) oi.dst vi = upd (upd env oi.dst vi) oj.dst vj := by
  simp only [freeB, free2, Bool.and_eq_true, Bool.or_eq_true, beq_iff_eq] at hf
  obtain ⟨ha, hc⟩ := hf
  obtain ⟨a1, a2, a3⟩ := Oper.apart_spec ha
  have hj' : StepA P G ops oj env σ1 vj σ2 := (step_congr a1).1 hj
  have hcomm : upd (upd env oj.dst vj) oi.dst vi = upd (upd env oi.dst vi) oj.dst vj := (upd_comm a2).symm
  obtain ⟨ci0, ci1, ci2, ci3⟩ := cls_of (mu := mu) (ac := ac) (k := i) (op := oi.op)
  obtain ⟨cj0, cj1, cj2, cj3⟩ := cls_of (mu := mu) (ac := ac) (k := j) (op := oj.op)
  rcases hc with (((hc | hc) | ⟨hc, hc2⟩) | ⟨hc, hc2⟩) | ⟨hc, hc2⟩
  · obtain ⟨rfl, hall⟩ := cls0 (ci0 hc) hi
    exact ⟨σ2, hj', (step_congr a3).2 (hall σ2), hcomm⟩
  · obtain ⟨rfl, hall⟩ := cls0 (cj0 hc) hj'
    exact ⟨σ, hall σ, (step_congr a3).2 hi, hcomm⟩
  · obtain ⟨rfl, hall⟩ := read_mono (ci1 hc) hi
    have hH : ∀ (b : Nat) (x : Blk), σ1.H[b]? = some x → σ2.H[b]? = some x := by
      rcases hc2 with (hc2 | hc2) | hc2
      · obtain ⟨rfl, _⟩ := read_mono (cj1 hc2) hj'; exact fun _ _ e => e
      · exact (lay_step (cj2 hc2) hj').1
      · obtain ⟨args, ts, ho⟩ := cj3 hc2
        rw [(app_step ho hj').1]; exact fun _ _ e => e
    exact ⟨σ2, hj', (step_congr a3).2 (hall σ2 hH), hcomm⟩
  · obtain ⟨args, ts, ho⟩ := ci3 hc
    obtain ⟨e1, hall⟩ := app_step ho hi
    obtain ⟨H, T⟩ := σ
    obtain ⟨H1, T1⟩ := σ1
    simp only at e1 hall
    subst e1
    rcases hc2 with hc2 | hc2
    · obtain ⟨rfl, hallj⟩ := read_mono (cj1 hc2) hj'
      exact ⟨⟨H1, T⟩, hallj _ (fun _ _ e => e), (step_congr a3).2 (hall H1), hcomm⟩
    · obtain ⟨_, e2, hallj⟩ := lay_step (cj2 hc2) hj'
      obtain ⟨H2, T2⟩ := σ2
      simp only at e2 hallj
      subst e2
      exact ⟨⟨H2, T⟩, hallj T, (step_congr a3).2 (hall H2), hcomm⟩
  · obtain ⟨args, ts, ho⟩ := cj3 hc2
    obtain ⟨e1, hallj⟩ := app_step ho hj'
    obtain ⟨_, e2, hall⟩ := lay_step (ci2 hc) hi
    obtain ⟨H, T⟩ := σ
    obtain ⟨H1, T1⟩ := σ1
    obtain ⟨H2, T2⟩ := σ2
    simp only at e1 e2 hall hallj
    subst e1; subst e2
    exact ⟨⟨H, T2⟩, hallj H, (step_congr a3).2 (hall T2), hcomm⟩

/-! ### Orders -/
/-- Whatever order is picked from here on. -/
def AnyB (P : Program) (G : Glo) (ops : Array Oper) (mu : Bool) (ac : List Nat) (R : Env → St → Prop) : Nat → Array Bool → Env → St → Prop
  | 0, listed, env, σ => Region.ready .any ops listed = [] ∧ R env σ
  | fuel + 1, listed, env, σ => (Region.ready .any ops listed = [] → R env σ) ∧
    ∀ i ∈ Region.ready .any ops listed, ∃ o, ops[i]? = some o ∧
      ((∃ v σ', StepA P G ops o env σ v σ' ∧ AnyB P G ops mu ac R fuel (listed.setIfInBounds i true) (upd env o.dst v) σ') ∨
       (clsB mu ac i o.op = 9 ∧ wantedA ops env o = some true ∧ vcOp P G mu false o.op env σ (fun v σ' => AnyB P G ops mu ac R fuel (listed.setIfInBounds i true) (upd env o.dst v) σ')))

/-- What waits for i, directly or not. -/
def depOk (ops : Array Oper) (listed : Array Bool) (i : Nat) (dp : List Nat) : Bool :=
  dp.all fun j => !listed.getD j true && (match ops[j]? with
    | some oj => oj.after.any fun e => Region.binds .any e && (e.on == i || dp.contains e.on)
    | none => true)

theorem not_dep {listed : Array Bool} {i j : Nat} {dp : List Nat} (hd : depOk ops listed i dp = true) (hi : listed.getD i true = false) (hj : j ∈ Region.ready .any ops listed) : j ∉ dp := by
  intro hm
  have h1 := List.all_eq_true.1 hd j hm
  simp only [Bool.and_eq_true, Bool.not_eq_true'] at h1
  obtain ⟨hun, oj, hoj, hall⟩ := mem_ready.1 hj
  rw [hoj] at h1
  obtain ⟨e, he, he2⟩ := Array.any_eq_true'.1 h1.2
  simp only [Bool.and_eq_true, Bool.or_eq_true, beq_iff_eq] at he2
  have hl := hall e he he2.1
  have tt : ∀ k, listed.getD k true = false → listed.getD k false = true → False := by
    intro k h2 h3
    rcases Nat.lt_or_ge k listed.size with h' | h'
    · simp [h'] at h2 h3; rw [h2] at h3; cases h3
    · simp [Array.getElem?_eq_none h'] at h3
  rcases he2.2 with h2 | h2
  · rw [h2] at hl; exact tt i hi hl
  · have h3 := List.all_eq_true.1 hd e.on (by simpa using h2)
    simp only [Bool.and_eq_true, Bool.not_eq_true'] at h3
    exact tt _ h3.1 hl

theorem depOk_set {listed : Array Bool} {i j : Nat} {dp : List Nat} (hd : depOk ops listed i dp = true) (hj : j ∉ dp) : depOk ops (listed.setIfInBounds j true) i dp = true := by
  refine List.all_eq_true.2 fun k hk => ?_
  have h1 := List.all_eq_true.1 hd k hk
  simp only [Bool.and_eq_true, Bool.not_eq_true'] at h1 ⊢
  have hjk : j ≠ k := fun e => hj (e ▸ hk)
  exact ⟨by rw [getD_set_ne true hjk]; exact h1.1, h1.2⟩

theorem op_of_looks {o : Oper} {d : Nat} (h : d ∉ o.looksAt ops) : .tmp d ∉ o.op.operands.toList := fun hm => h (List.mem_append_left _ (List.mem_filterMap.2 ⟨.tmp d, hm, rfl⟩))

theorem wanted_congr {t : Option Nat} {u : AV} (h : ∀ d, t = some d → d ∉ o.looksAt ops) : wantedA ops (upd env t u) o = wantedA ops env o := by
  unfold wantedA
  cases hg : o.guard with
  | none => rfl
  | some jb =>
    obtain ⟨j, b⟩ := jb
    cases hj : (ops[j]?).bind (·.dst) with
    | none => simp [hj]
    | some s =>
      simp only [hj]
      have : upd env t u s = env s := by
        cases t with
        | none => rfl
        | some d =>
          have : ¬ s = d := fun e => h d rfl (by subst e; simp [Oper.looksAt, hg, hj])
          simp [upd, this]
      rw [this]

theorem semX_congr (D : Nat → Option TI) {mu : Bool} {op : Op} (h : ∀ x ∈ op.operands, ev G env x = ev G env' x) : semX D G mu env σ op = semX D G mu env' σ op := by
  cases op <;> simp only [Op.operands] at h <;> simp only [semX]
  case insert t m k v => rw [h m (by simp), h k (by simp), h v (by simp)]
  case binOp o t x y u => rw [h x (by simp), h y (by simp)]
  case next it b => cases b <;> simp only [h it (by simp)]
  case entry it => rw [h it (by simp)]
  case call c =>
    obtain ⟨callee, args, ts⟩ := c
    cases callee <;> simp only
    rename_i b
    have ha : ∀ x ∈ args.toList, ev G env x = ev G env' x := fun x hx => h x (by simp at hx; simp [Call.operands, hx])
    generalize ts.toList = tl
    generalize args.toList = al at ha
    split
    · cases mu
      · rfl
      · simp only [ha _ (List.mem_cons_self), ha _ (List.mem_cons_of_mem _ (List.mem_cons_self))]
    · simp only [ha _ (List.mem_cons_self)]
    · simp only [ha _ (List.mem_cons_self)]
    · simp only [ha _ (List.mem_cons_self), ha _ (List.mem_cons_of_mem _ (List.mem_cons_self))]
    · rfl

variable {G : Glo}
theorem vcOp_env {mu : Bool} {op : Op} {t : Option Nat} {u : AV} {R : AV → St → Prop} (h : ∀ d, t = some d → .tmp d ∉ op.operands.toList) : vcOp P G mu false op (upd env t u) σ R ↔ vcOp P G mu false op env σ R := by
  have hop : ∀ x ∈ op.operands, ev G (upd env t u) x = ev G env x := fun x hx => ev_upd fun d hd hxd => h d hd (by subst hxd; simpa using hx)
  by_cases hc : ∃ f args ts, op = .call { callee := .value f, args := args, argTypes := ts }
  · obtain ⟨f, args, ts, rfl⟩ := hc
    simp only [Op.operands, Call.operands] at hop
    simp only [vcOp]
    rw [hop f (by simp), opds_congr (l := args.toList) (fun x hx => hop x (by simp at hx; simp [hx]))]
  · rw [vcOp.plain hc, vcOp.plain hc, semX_congr (Dof P) hop, sem_congr (Dof P) hop]

variable {mu : Bool} {ac : List Nat}
theorem AnyB.first {R : Env → St → Prop} {i : Nat} {oi : Oper} {vi : AV} {dp : List Nat} (hi : ops[i]? = some oi) : ∀ (fuel : Nat) (listed : Array Bool) (env : Env) (σ σ1 : St),
    depOk ops listed i dp = true →
    (∀ (j : Nat) (oj : Oper), ops[j]? = some oj → j ≠ i → listed.getD j true = false → j ∉ dp → freeB ops oi oj (clsB mu ac i oi.op) (clsB mu ac j oj.op) = true ∧ (clsB mu ac j oj.op ≠ 9 ∨ clsB mu ac i oi.op = 0)) →
    i ∈ Region.ready .any ops listed → StepA P G ops oi env σ vi σ1 → AnyB P G ops mu ac R fuel (listed.setIfInBounds i true) (upd env oi.dst vi) σ1 → AnyB P G ops mu ac R (fuel + 1) listed env σ := by
  intro fuel
  induction fuel with
  | zero =>
    intro listed env σ σ1 hd _ hr hs H
    refine ⟨fun h => (by rw [h] at hr; cases hr), fun j hj => ?_⟩
    by_cases hji : j = i
    · subst hji; exact ⟨oi, hi, .inl ⟨vi, σ1, hs, H⟩⟩
    · have := ready_mono hj hji
      rw [H.1] at this
      cases this
  | succ fuel ih =>
    intro listed env σ σ1 hd hfree hr hs H
    refine ⟨fun h => (by rw [h] at hr; cases hr), fun j hj => ?_⟩
    by_cases hji : j = i
    · subst hji; exact ⟨oi, hi, .inl ⟨vi, σ1, hs, H⟩⟩
    · obtain ⟨oj, hoj, hst⟩ := H.2 j (ready_mono hj hji)
      obtain ⟨hjun, oj', hoj', hall⟩ := mem_ready.1 hj
      rw [hoj] at hoj'
      cases hoj'
      have hnd := not_dep hd (mem_ready.1 hr).1 hj
      obtain ⟨hf1, hf2⟩ := hfree j oj hoj hji hjun hnd
      have rest : ∀ (k : Nat) (ok : Oper), ops[k]? = some ok → k ≠ i → (listed.setIfInBounds j true).getD k true = false → k ∉ dp → freeB ops oi ok (clsB mu ac i oi.op) (clsB mu ac k ok.op) = true ∧ (clsB mu ac k ok.op ≠ 9 ∨ clsB mu ac i oi.op = 0) := by
        intro k ok hk hki hun hkd
        refine hfree k ok hk hki ?_ hkd
        by_cases hjk : j = k
        · subst hjk; exact hjun
        · rw [getD_set_ne true hjk] at hun; exact hun
      rcases hst with ⟨vj, σ2, hsj, H2⟩ | ⟨hc9, hw9, H2⟩
      · obtain ⟨τ, s1, s2, s3⟩ := swapB hf1 hs hsj
        refine ⟨oj, hoj, .inl ⟨vj, τ, s1, ih (listed.setIfInBounds j true) _ τ σ2 (depOk_set hd hnd) rest (ready_mono hr (Ne.symm hji)) s2 ?_⟩⟩
        rw [Array.setIfInBounds_comm _ _ hji, s3]
        exact H2
      · have h0 := hf2.resolve_left (fun h => h hc9)
        simp only [freeB, Bool.and_eq_true] at hf1
        obtain ⟨a1, a2, a3⟩ := Oper.apart_spec hf1.1
        obtain ⟨rfl, hpure⟩ := cls0 ((cls_of (mu := mu) (ac := ac) (k := i) (op := oi.op)).1 h0) hs
        refine ⟨oj, hoj, .inr ⟨hc9, by rw [← wanted_congr (t := oi.dst) (u := vi) a1]; exact hw9, ?_⟩⟩
        refine ((vcOp_env (t := oi.dst) (u := vi) (fun d hd => op_of_looks (a1 d hd))).1 H2).imp fun v σ' hv => ?_
        refine ih (listed.setIfInBounds j true) _ σ' σ' (depOk_set hd hnd) rest (ready_mono hr (Ne.symm hji)) ((step_congr a3).2 (hpure σ')) ?_
        rw [Array.setIfInBounds_comm _ _ hji, upd_comm (s := oj.dst) (t := oi.dst) (fun d hd e => a2 d e hd)]
        exact hv

/-- The next operation is the only one that may come. -/
theorem AnyB.solo {R : Env → St → Prop} {i : Nat} {oi : Oper} {dp : List Nat} (hi : ops[i]? = some oi) {fuel : Nat} {listed : Array Bool} {env : Env} {σ : St} (hd : depOk ops listed i dp = true)
    (hall : ∀ (j : Nat) (oj : Oper), ops[j]? = some oj → j ≠ i → listed.getD j true = false → j ∈ dp) (hr : i ∈ Region.ready .any ops listed)
    (H : (∃ v σ', StepA P G ops oi env σ v σ' ∧ AnyB P G ops mu ac R fuel (listed.setIfInBounds i true) (upd env oi.dst v) σ') ∨
       (clsB mu ac i oi.op = 9 ∧ wantedA ops env oi = some true ∧ vcOp P G mu false oi.op env σ (fun v σ' => AnyB P G ops mu ac R fuel (listed.setIfInBounds i true) (upd env oi.dst v) σ'))) :
    AnyB P G ops mu ac R (fuel + 1) listed env σ := by
  refine ⟨fun h => (by rw [h] at hr; cases hr), fun j hj => ?_⟩
  by_cases hji : j = i
  · subst hji; exact ⟨oi, hi, H⟩
  · obtain ⟨hjun, oj, hoj, _⟩ := mem_ready.1 hj
    exact absurd (hall j oj hoj hji hjun) (not_dep hd (mem_ready.1 hr).1 hj)

theorem anyB_sound (hsl : slotsOk N ops = true) {R : Env → St → Prop} {w0 : World} {ro0 : Nat → Nat → Option Value} {Q : Exit → Act → World → Prop} : ∀ (fuel : Nat) (listed : Array Bool) (env : Env) (σ : St) (K : Kn) (a : Act) (w : World),
    (∀ K' env' σ' a' w', K.le K' → WRel G w0 ro0 K' σ' w' → ERel K' N env' a' → a'.defers = a.defers → R env' σ' → Q .normal a' w') →
    (∀ c K' σ' a' w', K.le K' → WRel G w0 ro0 K' σ' w' → a'.defers = a.defers → G.X c σ' → Q (.panic c) a' w') → WRel G w0 ro0 K σ w → ERel K N env a → AnyB P G ops mu ac R fuel listed env σ → wpAny P .any ops Q fuel listed a w
  | 0, listed, env, σ, K, a, w, hq, _, hw, he, h => ⟨h.1, hq K env σ a w (Kn.le_refl K) hw he rfl h.2⟩
  | fuel + 1, listed, env, σ, K, a, w, hq, hp, hw, he, h => by
    refine ⟨fun h0 => hq K env σ a w (Kn.le_refl K) hw he rfl (h.1 h0), fun i hi => ?_⟩
    obtain ⟨o, ho, H⟩ := h.2 i hi
    have hmem : o ∈ ops.toList := List.mem_of_getElem? (i := i) (by simpa using ho)
    have hd := slots_dst hsl hmem
    have hgd := slots_guard hsl o
    unfold wpOp
    simp only [ho]
    rcases H with ⟨v, σ', hs, H⟩ | ⟨_, hwant, H⟩
    · rcases hs with ⟨hwant, rfl, rfl⟩ | ⟨hwant, hop⟩
      · rw [if_neg (by simp [wanted_rel he hgd hwant])]
        exact anyB_sound hsl fuel _ _ _ K _ w (fun K2 env2 σ2 a2 w2 hle x1 x2 xd => hq K2 env2 σ2 a2 w2 hle x1 x2 (xd.trans Act.put_defers')) (fun c K2 σ2 a2 w2 hle x1 xd => hp c K2 σ2 a2 w2 hle x1 (xd.trans Act.put_defers')) hw (he.put hd (by simp only [VRel]; exact ⟨#[], rfl, by simp [VRels]⟩)) H
      · rw [if_pos (wanted_rel he hgd hwant)]
        refine .inl (op_step hw he hd hop fun K' a' w' h1 h2 h3 hds => ?_)
        exact anyB_sound hsl fuel _ _ _ K' a' w' (fun K2 env2 σ2 a2 w2 hle x1 x2 xd => hq K2 env2 σ2 a2 w2 (Kn.le_trans h1 hle) x1 x2 (xd.trans hds)) (fun c K2 σ2 a2 w2 hle x1 xd => hp c K2 σ2 a2 w2 (Kn.le_trans h1 hle) x1 (xd.trans hds)) h2 h3 H
    · rw [if_pos (wanted_rel he hgd hwant)]
      refine .inl (op_wide hw he hd H (fun v σ' K' a' w' hA h1 h2 h3 hds => ?_) fun c σ' K' w' hx h1 h2 => hp c K' σ' _ w' h1 h2 rfl hx)
      exact anyB_sound hsl fuel _ _ _ K' a' w' (fun K2 env2 σ2 a2 w2 hle x1 x2 xd => hq K2 env2 σ2 a2 w2 (Kn.le_trans h1 hle) x1 x2 (xd.trans hds)) (fun c K2 σ2 a2 w2 hle x1 xd => hp c K2 σ2 a2 w2 (Kn.le_trans h1 hle) x1 (xd.trans hds)) h2 h3 hA
end

/-! ### Plans: which operation is run next, and where all orders are looked at -/
mutual
inductive Sch where
  | done
  | step (k : Nat) (dp : List Nat) (s : Sch)
  | fork (a : Alts)
inductive Alts where
  | nil
  | cons (k : Nat) (s : Sch) (r : Alts)
end

/-- k may be run first. -/
def stepOk (ops : Array Oper) (mu : Bool) (ac : List Nat) (listed : Array Bool) (k : Nat) (dp : List Nat) : Bool :=
  (Region.ready .any ops listed).contains k && depOk ops listed k dp && (match ops[k]? with
    | some ok => (List.range ops.size).all fun j => j == k || listed.getD j true || dp.contains j || (clsB mu ac k ok.op != 9 && (match ops[j]? with
      | some oj => freeB ops ok oj (clsB mu ac k ok.op) (clsB mu ac j oj.op) && (clsB mu ac j oj.op != 9 || clsB mu ac k ok.op == 0)
      | none => true))
    | none => false)

mutual
def schOk (ops : Array Oper) (mu : Bool) (ac : List Nat) : Sch → Array Bool → Bool
  | .done, listed => (Region.ready .any ops listed).isEmpty
  | .step k dp s, listed => stepOk ops mu ac listed k dp && schOk ops mu ac s (listed.setIfInBounds k true)
  | .fork a, listed => !(Region.ready .any ops listed).isEmpty && altsOk ops mu ac a listed (Region.ready .any ops listed)
def altsOk (ops : Array Oper) (mu : Bool) (ac : List Nat) : Alts → Array Bool → List Nat → Bool
  | .nil, _, need => need.isEmpty
  | .cons k s r, listed, need => need.contains k && schOk ops mu ac s (listed.setIfInBounds k true) && altsOk ops mu ac r listed (need.filter (· != k))
end
mutual
def schLen : Sch → Nat
  | .done => 0
  | .step _ _ s => schLen s + 1
  | .fork a => altsLen a + 1
def altsLen : Alts → Nat
  | .nil => 0
  | .cons _ s r => max (schLen s) (altsLen r)
end

/-- What waits for k. -/
def dpOf (ops : Array Oper) (k : Nat) : List Nat :=
  (List.range ops.size).foldl (fun dp j => match ops[j]? with
    | some oj => if oj.after.any (fun e => Region.binds .any e && (e.on == k || dp.contains e.on)) then j :: dp else dp
    | none => dp) []

/-- One operation behind the other, as they stand. -/
def lexB (ops : Array Oper) (mu : Bool) (ac : List Nat) : Nat → Nat → Array Bool → Bool
  | 0, _, listed => (Region.ready .any ops listed).isEmpty
  | fuel + 1, k, listed => stepOk ops mu ac listed k (dpOf ops k) && lexB ops mu ac fuel (k + 1) (listed.setIfInBounds k true)

/-- 'lw': the last operation may change the state. -/
def drawOk (ops : Array Oper) (mu lw : Bool) : Bool := lexB ops mu (if lw then [ops.size - 1] else []) ops.size 0 (Array.replicate ops.size false)

end
end Go.Abs
end
