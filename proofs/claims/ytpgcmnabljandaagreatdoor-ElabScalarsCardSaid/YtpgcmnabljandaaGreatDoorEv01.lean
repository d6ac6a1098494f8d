/- A part of the proof: texts AbsEval Walk30 Walk31. -/
import Derived.Test.YtpgcmnabljandaaGreatDoorAb14
import Derived.Test.YtpgcmnabljandaaGreatDoorWk09

section
/-
  Values of expressions, in plain Lean.
-/
set_option linter.unusedVariables false
set_option linter.unusedSimpArgs false
namespace Go.Proofs.YtpgcmnabljandaaGreatDoor
open Go Go.Abs

/-- A number as a word. -/
def wrapW (n : Int) : Int := n % 65536
theorem wrapW_range (n : Int) : 0 ≤ wrapW n ∧ wrapW n ≤ 65535 := by unfold wrapW; omega
theorem wrapW_id {n : Int} (h0 : 0 ≤ n) (h1 : n ≤ 65535) : wrapW n = n := by unfold wrapW; omega
def b2i (b : Bool) : Int := if b = true then 1 else 0
theorem b2i_range (b : Bool) : 0 ≤ b2i b ∧ b2i b ≤ 65535 := by cases b <;> simp [b2i]

def findV (env : List Signal) (name : Str) : Option Int := (env.find? fun s => s.name == name).map fun s => wrapW s.value
def atV (env : List Signal) (a : Str) (i : Int) : Int := if 0 ≤ i ∧ i < 8 then (findV env (elemS a i.toNat)).getD 0 else 0
def sumV (env : List Signal) (a : Str) : Nat → Int
  | 0 => 0
  | i + 1 => wrapW (sumV env a i + atV env a i)
def onesN (a : Nat) : Nat → Nat
  | 0 => 0
  | i + 1 => onesN a i + (if a.testBit i = true then 1 else 0)
def unW (op a : Int) : Int :=
  if op = 4 then b2i (decide (a = 0)) else if op = 5 then 65535 - wrapW a else if op = 6 then wrapW (0 - a) else (onesN (wrapW a).toNat 16 : Int)
def binW (op a b : Int) : Int :=
  if op = 7 then wrapW (a + b) else if op = 8 then wrapW (a - b) else if op = 9 then wrapW (a * b)
  else if op = 10 then ((a.toNat &&& b.toNat : Nat) : Int) else if op = 11 then ((a.toNat ||| b.toNat : Nat) : Int) else if op = 12 then ((a.toNat ^^^ b.toNat : Nat) : Int)
  else if op = 13 then (if 0 ≤ b ∧ b < 16 then wrapW (a * 2 ^ b.toNat) else 0)
  else if op = 14 then (if 0 ≤ b ∧ b < 16 then wrapW a / 2 ^ b.toNat else 0)
  else if op = 15 then b2i (decide (a = b)) else if op = 16 then b2i (!decide (a = b)) else if op = 17 then b2i (decide (a < b)) else if op = 18 then b2i (decide (a ≤ b))
  else if op = 19 then b2i (!decide (a = 0) && !decide (b = 0)) else if op = 20 then b2i (!decide (a = 0) || !decide (b = 0))
  else b2i (decide (a = 0) || !decide (b = 0))
def insideW (a : Int) : List Int → Bool
  | x :: y :: r => (decide (x ≤ a) && decide (a ≤ y)) || insideW a r
  | _ => false
def opW (op : Int) (l : List Int) : Int :=
  if op = 22 then (if l.getD 0 0 ≠ 0 then l.getD 1 0 else l.getD 2 0)
  else if op = 23 then b2i (insideW (l.getD 0 0) l.tail)
  else match l with
    | [] => 0
    | [a] => unW op a
    | a :: b :: _ => binW op a b
def nodeV (env : List Signal) (op n : Int) (name : Str) (l : List Int) : Int :=
  if op = 1 then n else if op = 2 then (findV env name).getD 0 else if op = 3 then atV env name (l.getD 0 0) else if op = 24 then sumV env name 8 else opW op l
mutual
def valV (env : List Signal) : Ex → Int
  | .mk op n name args => nodeV env op n name (valsV env args)
def valsV (env : List Signal) : List Ex → List Int
  | [] => []
  | e :: r => valV env e :: valsV env r
end
@[simp] theorem valsV_eq (env : List Signal) : ∀ l, valsV env l = l.map (valV env)
  | [] => by simp [valsV]
  | e :: r => by simp [valsV, valsV_eq env r]
theorem valV_eq (env : List Signal) (e : Ex) : valV env e = nodeV env e.op e.n e.name (e.args.map (valV env)) := by cases e; simp [valV]

/-- Is what a node asks for there? -/
def askV (env : List Signal) (e : Ex) : Bool :=
  if e.op = 2 then (findV env e.name).isSome else if e.op = 3 ∨ e.op = 24 then (findV env (elemS e.name 0)).isSome else true
def knownV (env : List Signal) (e : Ex) : Bool := (pre e).all (askV env)
theorem knownV_eq (env : List Signal) (e : Ex) : knownV env e = (askV env e && e.args.all (knownV env)) := by
  unfold knownV
  rw [pre_eq, List.all_cons]
  congr 1
  generalize e.args = l
  induction l with
  | nil => simp
  | cons a r ih => simp [ih, List.all_append]

noncomputable def evalE (env : List Signal) (e : Ex) : Int := if validE e ≠ 0 then 1 else if knownV env e = true then 0 else 7
noncomputable def evalV (env : List Signal) (e : Ex) : Int := if validE e = 0 ∧ knownV env e = true then valV env e else 0

/-! ### What valid nodes are -/
/-- All nodes of an expression are right. -/
def NodesOk (e : Ex) : Prop := ∀ x ∈ pre e, nodeE x = 0
theorem NodesOk.self {e : Ex} (h : NodesOk e) : nodeE e = 0 := h e (by rw [pre_eq]; simp)
theorem NodesOk.arg {e a : Ex} (h : NodesOk e) (ha : a ∈ e.args) : NodesOk a := fun x hx => h x (by rw [pre_eq]; exact List.mem_cons_of_mem _ (mem_preL.2 ⟨a, ha, hx⟩))
theorem validE_nodes {e : Ex} (h : validE e = 0) : NodesOk e := by
  unfold validE at h
  split at h
  · cases h
  · exact firstE_zero.1 h
theorem nodeE_zero {e : Ex} (h : nodeE e = 0) : 1 ≤ e.op ∧ e.op ≤ 25 ∧ (e.op = 1 → 0 ≤ e.n ∧ e.n ≤ 65535) ∧ (e.op ≠ 1 → e.n = 0) ∧ operandsS e = true ∧ (e.op = 2 → varS e.name = true) ∧ (e.op = 3 ∨ e.op = 24 → nameS e.name = true) ∧ (¬ (e.op = 2 ∨ e.op = 3 ∨ e.op = 24) → e.name = []) := by
  unfold nodeE at h
  split at h
  · cases h
  rename_i h1
  split at h
  · cases h
  rename_i h2
  split at h
  · cases h
  rename_i h3
  split at h
  · cases h
  rename_i h4
  refine ⟨by omega, by omega, fun h => ?_, fun h => ?_, ?_, fun h => ?_, fun h => ?_, fun h => ?_⟩
  · apply Classical.byContradiction
    intro hn
    exact h2 (.inl ⟨h, by omega⟩)
  · apply Classical.byContradiction
    intro hn
    exact h2 (.inr ⟨h, hn⟩)
  · cases ho : operandsS e with
    | true => rfl
    | false => exact absurd (.inr ho) h3
  · cases ho : varS e.name with
    | true => rfl
    | false => exact absurd (.inl ⟨h, ho⟩) h4
  · cases ho : nameS e.name with
    | true => rfl
    | false => exact absurd (.inr ⟨h, ho⟩) h4
  · apply Classical.byContradiction
    intro hn
    exact h3 (.inl ⟨h, hn⟩)
theorem operands_args {e : Ex} (h : operandsS e = true) (h23 : e.op ≠ 23) : (e.args.length : Int) = arityS e.op := by
  unfold operandsS at h
  rw [if_neg h23] at h
  simpa using h
theorem operands_in {e : Ex} (h : operandsS e = true) (h23 : e.op = 23) : e.args.length % 2 = 1 ∧ 3 ≤ e.args.length ∧ e.args.length ≤ 33 := by
  unfold operandsS at h
  rw [if_pos h23] at h
  simpa using h

/-! ### Ranges -/
theorem onesN_le (a : Nat) : ∀ i, onesN a i ≤ i
  | 0 => Nat.le_refl _
  | i + 1 => by
    have := onesN_le a i
    simp only [onesN]
    split <;> omega
theorem findV_range {env : List Signal} {name : Str} {v : Int} (h : findV env name = some v) : 0 ≤ v ∧ v ≤ 65535 := by
  unfold findV at h
  obtain ⟨s, _, rfl⟩ := Option.map_eq_some_iff.1 h
  exact wrapW_range _
theorem getD_range {o : Option Int} (h : ∀ v, o = some v → 0 ≤ v ∧ v ≤ 65535) : 0 ≤ o.getD 0 ∧ o.getD 0 ≤ 65535 := by
  cases o with
  | none => simp
  | some v => exact h v rfl
theorem atV_range (env : List Signal) (a : Str) (i : Int) : 0 ≤ atV env a i ∧ atV env a i ≤ 65535 := by
  unfold atV
  split
  · exact getD_range fun v h => findV_range h
  · omega
theorem sumV_range (env : List Signal) (a : Str) : ∀ i, 0 ≤ sumV env a i ∧ sumV env a i ≤ 65535
  | 0 => by simp [sumV]
  | i + 1 => wrapW_range _
theorem unW_range (op a : Int) : 0 ≤ unW op a ∧ unW op a ≤ 65535 := by
  unfold unW
  split
  · exact b2i_range _
  split
  · have := wrapW_range a; omega
  split
  · exact wrapW_range _
  · have := onesN_le (wrapW a).toNat 16; omega
theorem shr_range {a : Int} (n : Nat) (h0 : 0 ≤ a) (h1 : a ≤ 65535) : 0 ≤ a / 2 ^ n ∧ a / 2 ^ n ≤ 65535 := by
  have hp : (0 : Int) < 2 ^ n := Int.pow_pos (by omega)
  refine ⟨Int.ediv_nonneg h0 (by omega), ?_⟩
  have := Int.ediv_le_self (2 ^ n) h0
  omega
def InW (n : Int) : Prop := 0 ≤ n ∧ n ≤ 65535
theorem InW.ite {c : Prop} [Decidable c] {a b : Int} (ha : InW a) (hb : InW b) : InW (if c then a else b) := by
  split
  · exact ha
  · exact hb
theorem binW_range (op : Int) {a b : Int} (ha0 : 0 ≤ a) (ha1 : a ≤ 65535) (hb0 : 0 ≤ b) (hb1 : b ≤ 65535) : 0 ≤ binW op a b ∧ binW op a b ≤ 65535 := by
  obtain ⟨x, rfl⟩ := Int.eq_ofNat_of_zero_le ha0
  obtain ⟨y, rfl⟩ := Int.eq_ofNat_of_zero_le hb0
  have hx : x < 2 ^ 16 := by omega
  have hy : y < 2 ^ 16 := by omega
  have o1 := Nat.and_lt_two_pow (n := 16) x hy
  have o2 := Nat.or_lt_two_pow (n := 16) hx hy
  have o3 := Nat.xor_lt_two_pow (n := 16) hx hy
  show InW (binW op x y)
  unfold binW
  simp only [Int.toNat_natCast]
  repeat' apply InW.ite
  all_goals first | exact wrapW_range _ | exact b2i_range _ | exact shr_range _ (wrapW_range _).1 (wrapW_range _).2 | (unfold InW; omega)
theorem valV_range (env : List Signal) : ∀ e, NodesOk e → 0 ≤ valV env e ∧ valV env e ≤ 65535 := by
  refine Ex.ind fun e ih hn => ?_
  have hm : ∀ x ∈ e.args.map (valV env), 0 ≤ x ∧ x ≤ 65535 := by
    intro x hx
    obtain ⟨a, ha, rfl⟩ := List.mem_map.1 hx
    exact ih a ha (hn.arg ha)
  have hg : ∀ i, 0 ≤ (e.args.map (valV env)).getD i 0 ∧ (e.args.map (valV env)).getD i 0 ≤ 65535 := by
    intro i
    rw [List.getD_eq_getElem?_getD]
    exact getD_range fun v h => hm v (List.mem_of_getElem? h)
  obtain ⟨h1, h2, h3, _⟩ := nodeE_zero hn.self
  rw [valV_eq]
  unfold nodeV
  split
  · rename_i h; exact h3 h
  split
  · exact getD_range fun v h => findV_range h
  split
  · exact atV_range _ _ _
  split
  · exact sumV_range _ _ _
  unfold opW
  split
  · split
    · exact hg 1
    · exact hg 2
  split
  · exact b2i_range _
  split
  · omega
  · exact unW_range _ _
  · rename_i a b r hl
    rw [hl] at hm
    exact binW_range _ (hm a (by simp)).1 (hm a (by simp)).2 (hm b (by simp)).1 (hm b (by simp)).2

/-! ### Assignments -/
def envS (l : List Var) (a : List Int) : List Signal := if a.length = l.length then (l.zip a).map fun q => ⟨q.1.name, q.2⟩ else []
def assign1 (q : Var × Int) : Bool := decide (0 ≤ q.2) && decide (q.2 < 2 ^ q.1.width.toNat) && (!decide (q.1.mode = 0) || decide (q.2 = q.1.value))
def assignsS (l : List Var) (a : List Int) : Bool := decide (a.length = l.length) && (l.zip a).all assign1
noncomputable def holdsS (p : Problem) (a : List Int) (e : Ex) : Bool :=
  decide (validP p = 0) && assignsS p.vars a && decide (evalE (envS p.vars a) e = 0) && !decide (evalV (envS p.vars a) e = 0)
theorem validP_vars {p : Problem} (h : validP p = 0) : ∀ v ∈ p.vars, varE v = 0 := by
  unfold validP at h
  split at h
  · rename_i hn; exact absurd h hn
  rename_i hv
  have hv : varsS p.vars = 0 := Classical.not_not.1 hv
  unfold varsS at hv
  split at hv
  · cases hv
  split at hv
  · rename_i hn; exact absurd hv hn
  rename_i hz
  exact firstE_zero.1 (Classical.not_not.1 hz)
end Go.Proofs.YtpgcmnabljandaaGreatDoor
end

section
/-
  Walks: words, for the program and for the reference.
-/
set_option linter.unusedVariables false
set_option linter.unusedSimpArgs false
set_option maxRecDepth 100000
namespace Go.Proofs.YtpgcmnabljandaaGreatDoor
open Go Go.Abs

theorem and_mask (n : Int) : ((BitVec.ofInt 64 n &&& 65535#64).toNat : Int) = n % 65536 := by
  rw [BitVec.toNat_and, BitVec.toNat_ofInt]
  have e : (65535#64).toNat = 2 ^ 16 - 1 := by decide
  rw [e, Nat.and_two_pow_sub_one_eq_mod]
  omega
theorem wr16 {n : Int} (h0 : 0 ≤ n) (h1 : n ≤ 65535) : IntKind.u16.wrap n = n := by
  simp [IntKind.wrap, IntKind.bits, IntKind.signed]; omega
theorem wr16' (n : Int) : IntKind.u16.wrap n = n % 65536 := by
  simp [IntKind.wrap, IntKind.bits, IntKind.signed]

theorem and_op (n : Int) : intOp .and .i64 n 65535 = some (.int .i64 (wrapW n)) := by
  have h1 := wrapW_range n
  have h2 := and_mask n
  have h5 : n % 65536 = wrapW n := rfl
  show some (AV.int .i64 (IntKind.i64.wrap ((BitVec.ofInt 64 n &&& 65535#64).toNat : Int))) = _
  rw [h2, h5, wr (by omega) (by omega)]
theorem of293 (n : Int) : Pure Tryz.prog GG 293 [.int .i64 n] (.int .u16 (wrapW n)) := by
  refine Pure.vc mixed Tryz.func293 rfl (by kernel_rfl) ?_
  have h1 := wrapW_range n
  have h4 : IntKind.u16.wrap (wrapW n) = wrapW n := wr16 h1.1 h1.2
  simp [-intOp, and_op, convA, h4]
theorem value294 (n : Int) (h0 : 0 ≤ n) (h1 : n ≤ 65535) : Pure Tryz.prog GG 294 [.int .u16 n] (.int .i64 n) := by
  refine Pure.vc mixed Tryz.func294 rfl (by kernel_rfl) ?_
  have h3 : IntKind.i64.wrap n = n := wr (by omega) (by omega)
  simp [convA, h3]
theorem wrap236 (n : Int) : Pure Tryz.prog GG 236 [.int .i64 n] (.int .i64 (wrapW n)) := by
  refine Pure.vc mixed Tryz.func236 rfl (by kernel_rfl) ?_
  try simp
  refine vcCall.call (of293 n) rfl ?_
  try simp
  refine vcCall.call (value294 (wrapW n) (wrapW_range n).1 (wrapW_range n).2) rfl ?_
  simp
theorem two295 {f : FuncId} {x : AV} {b r : Int} (hx : noRef x = true) (h0 : 0 ≤ r) (h1 : r ≤ 65535) (h : Pure Tryz.prog GG f [x, .int .u16 (wrapW b)] (.int .u16 r)) : Pure Tryz.prog GG 295 [.fn f [x] [], .int .i64 b] (.int .i64 r) := by
  refine Pure.vc mixed Tryz.func295 rfl (by kernel_rfl) ?_
  try simp
  refine vcCall.call (of293 b) rfl ?_
  try simp
  refine vcCall.call h (by simp [hx]) ?_
  try simp
  refine vcCall.call (value294 r h0 h1) rfl ?_
  simp
theorem one348 {f : FuncId} {x : AV} {r : Int} (hx : noRef x = true) (h0 : 0 ≤ r) (h1 : r ≤ 65535) (h : Pure Tryz.prog GG f [x] (.int .u16 r)) : Pure Tryz.prog GG 348 [.fn f [x] []] (.int .i64 r) := by
  refine Pure.vc mixed Tryz.func348 rfl (by kernel_rfl) ?_
  try simp
  refine vcCall.call h (by simp [hx]) ?_
  try simp
  refine vcCall.call (value294 r h0 h1) rfl ?_
  simp
theorem wadd296 (a b : Int) : Pure Tryz.prog GG 296 [.int .u16 (wrapW a), .int .u16 (wrapW b)] (.int .u16 (wrapW (a + b))) := by
  refine Pure.vc mixed Tryz.func296 rfl (by kernel_rfl) ?_
  have h : IntKind.u16.wrap (wrapW a + wrapW b) = wrapW (a + b) := by rw [wr16']; unfold wrapW; omega
  simp [intOp, h]
theorem wsub352 (a b : Int) : Pure Tryz.prog GG 352 [.int .u16 (wrapW a), .int .u16 (wrapW b)] (.int .u16 (wrapW (a - b))) := by
  refine Pure.vc mixed Tryz.func352 rfl (by kernel_rfl) ?_
  have h : IntKind.u16.wrap (wrapW a - wrapW b) = wrapW (a - b) := by rw [wr16']; unfold wrapW; omega
  simp [intOp, h]
theorem wrapW_mul (a b : Int) : wrapW (wrapW a * wrapW b) = wrapW (a * b) := by
  unfold wrapW
  rw [← Int.mul_emod]
theorem wmul353 (a b : Int) : Pure Tryz.prog GG 353 [.int .u16 (wrapW a), .int .u16 (wrapW b)] (.int .u16 (wrapW (a * b))) := by
  refine Pure.vc mixed Tryz.func353 rfl (by kernel_rfl) ?_
  have h : IntKind.u16.wrap (wrapW a * wrapW b) = wrapW (a * b) := by rw [wr16']; exact wrapW_mul a b
  simp [intOp, h]
theorem wneg350 (a : Int) : Pure Tryz.prog GG 350 [.int .u16 (wrapW a)] (.int .u16 (wrapW (0 - a))) := by
  refine Pure.vc mixed Tryz.func350 rfl (by kernel_rfl) ?_
  have h : IntKind.u16.wrap (0 - wrapW a) = wrapW (0 - a) := by rw [wr16']; unfold wrapW; omega
  simp only [Int.zero_sub] at h ⊢
  simp [unA, h]
theorem xor_mask {n : Int} (h0 : 0 ≤ n) (h1 : n ≤ 65535) : (((BitVec.ofInt 16 65535) ^^^ (BitVec.ofInt 16 n)).toNat : Int) = 65535 - n := by
  have e : BitVec.ofInt 16 65535 = BitVec.allOnes 16 := by decide
  rw [e, BitVec.allOnes_xor, BitVec.toNat_not, BitVec.toNat_ofInt]
  omega
theorem winv349 (a : Int) : Pure Tryz.prog GG 349 [.int .u16 (wrapW a)] (.int .u16 (65535 - wrapW a)) := by
  refine Pure.vc mixed Tryz.func349 rfl (by kernel_rfl) ?_
  have hr := wrapW_range a
  have h := xor_mask hr.1 hr.2
  have h2 : IntKind.u16.wrap (65535 - wrapW a) = 65535 - wrapW a := wr16 (by omega) (by omega)
  have h3 : (if IntKind.u16.signed = true then (-1 : Int) else IntKind.u16.max) = 65535 := by decide
  have h4 : unA .xor (.int .u16 (wrapW a)) = some (.int .u16 (65535 - wrapW a)) := by
    unfold unA
    simp only []
    rw [h3]
    show some (AV.int .u16 (IntKind.u16.wrap (((BitVec.ofInt 16 65535) ^^^ (BitVec.ofInt 16 (wrapW a))).toNat : Int))) = _
    rw [h, h2]
  simp [-unA, h4]
theorem add237 (a b : Int) : Pure Tryz.prog GG 237 [.int .i64 a, .int .i64 b] (.int .i64 (wrapW (a + b))) := by
  refine Pure.vc mixed Tryz.func237 rfl (by kernel_rfl) ?_
  try simp
  refine vcCall.call (of293 a) rfl ?_
  try simp
  refine vcCall.call (two295 (by simp) (wrapW_range _).1 (wrapW_range _).2 (wadd296 a b)) rfl ?_
  simp
theorem sub301 (a b : Int) : Pure Tryz.prog GG 301 [.int .i64 a, .int .i64 b] (.int .i64 (wrapW (a - b))) := by
  refine Pure.vc mixed Tryz.func301 rfl (by kernel_rfl) ?_
  try simp
  refine vcCall.call (of293 a) rfl ?_
  try simp
  refine vcCall.call (two295 (by simp) (wrapW_range _).1 (wrapW_range _).2 (wsub352 a b)) rfl ?_
  simp
theorem mul302 (a b : Int) : Pure Tryz.prog GG 302 [.int .i64 a, .int .i64 b] (.int .i64 (wrapW (a * b))) := by
  refine Pure.vc mixed Tryz.func302 rfl (by kernel_rfl) ?_
  try simp
  refine vcCall.call (of293 a) rfl ?_
  try simp
  refine vcCall.call (two295 (by simp) (wrapW_range _).1 (wrapW_range _).2 (wmul353 a b)) rfl ?_
  simp
theorem inv298 (a : Int) : Pure Tryz.prog GG 298 [.int .i64 a] (.int .i64 (65535 - wrapW a)) := by
  refine Pure.vc mixed Tryz.func298 rfl (by kernel_rfl) ?_
  have hr := wrapW_range a
  try simp
  refine vcCall.call (of293 a) rfl ?_
  try simp
  refine vcCall.call (one348 (by simp) (by omega) (by omega) (winv349 a)) rfl ?_
  simp
theorem neg299 (a : Int) : Pure Tryz.prog GG 299 [.int .i64 a] (.int .i64 (wrapW (0 - a))) := by
  refine Pure.vc mixed Tryz.func299 rfl (by kernel_rfl) ?_
  try simp
  refine vcCall.call (of293 a) rfl ?_
  try simp
  refine vcCall.call (one348 (by simp) (wrapW_range _).1 (wrapW_range _).2 (wneg350 a)) rfl ?_
  simp
def shlW (a b : Int) : Int := if 0 ≤ b ∧ b < 16 then wrapW (a * 2 ^ b.toNat) else 0
def shrW (a b : Int) : Int := if 0 ≤ b ∧ b < 16 then wrapW a / 2 ^ b.toNat else 0
theorem shift354 {f : FuncId} {x : AV} {b r : Int} (hx : noRef x = true) (h0 : 0 ≤ r) (h1 : r ≤ 65535) (h : 0 ≤ b → b < 16 → Pure Tryz.prog GG f [x, .int .i64 b] (.int .u16 r)) :
    Pure Tryz.prog GG 354 [.fn f [x] [], .int .i64 b] (.int .i64 (if 0 ≤ b ∧ b < 16 then r else 0)) := by
  refine Pure.vc mixed Tryz.func354 rfl (by kernel_rfl) ?_
  by_cases c0 : b < 0
  · rw [if_neg (by omega)]
    simp [c0]
  · by_cases c1 : 16 ≤ b
    · rw [if_neg (by omega)]
      simp [c0, c1]
    · rw [if_pos (by omega)]
      simp [c0, c1]
      refine vcCall.call (h (by omega) (by omega)) (by simp [hx]) ?_
      try simp
      refine vcCall.call (value294 r h0 h1) rfl ?_
      simp
theorem wrapW_mulL (a c : Int) : wrapW (wrapW a * c) = wrapW (a * c) := by
  unfold wrapW
  rw [Int.mul_emod, Int.emod_emod_of_dvd _ (Int.dvd_refl _), ← Int.mul_emod]
theorem wshl355 (a b : Int) (h0 : 0 ≤ b) (h1 : b < 16) : Pure Tryz.prog GG 355 [.int .u16 (wrapW a), .int .i64 b] (.int .u16 (wrapW (a * 2 ^ b.toNat))) := by
  refine Pure.vc mixed Tryz.func355 rfl (by kernel_rfl) ?_
  have hm : min b.toNat 16 = b.toNat := by omega
  have h : IntKind.u16.wrap (wrapW a * 2 ^ b.toNat) = wrapW (a * 2 ^ b.toNat) := by rw [wr16']; exact wrapW_mulL a _
  have h2 : ¬ b < 0 := by omega
  simp [binA, IntKind.bits, hm, h, h2]
theorem wshr356 (a b : Int) (h0 : 0 ≤ b) (h1 : b < 16) : Pure Tryz.prog GG 356 [.int .u16 (wrapW a), .int .i64 b] (.int .u16 (wrapW a / 2 ^ b.toNat)) := by
  refine Pure.vc mixed Tryz.func356 rfl (by kernel_rfl) ?_
  have hm : min b.toNat 16 = b.toNat := by omega
  have hp : (0 : Int) < 2 ^ b.toNat := Int.pow_pos (by omega)
  have h : (wrapW a).fdiv (2 ^ b.toNat) = wrapW a / 2 ^ b.toNat := Int.fdiv_eq_ediv_of_nonneg _ (by omega)
  have h2 : ¬ b < 0 := by omega
  simp [binA, IntKind.bits, hm, h, h2]
theorem shl303 (a b : Int) : Pure Tryz.prog GG 303 [.int .i64 a, .int .i64 b] (.int .i64 (shlW a b)) := by
  refine Pure.vc mixed Tryz.func303 rfl (by kernel_rfl) ?_
  try simp
  refine vcCall.call (of293 a) rfl ?_
  try simp
  refine vcCall.call (shift354 (by simp) (wrapW_range _).1 (wrapW_range _).2 (wshl355 a b)) rfl ?_
  simp [shlW]
theorem shr304 (a b : Int) : Pure Tryz.prog GG 304 [.int .i64 a, .int .i64 b] (.int .i64 (shrW a b)) := by
  refine Pure.vc mixed Tryz.func304 rfl (by kernel_rfl) ?_
  have hr := shr_range b.toNat (wrapW_range a).1 (wrapW_range a).2
  try simp
  refine vcCall.call (of293 a) rfl ?_
  try simp
  refine vcCall.call (shift354 (by simp) hr.1 hr.2 (wshr356 a b)) rfl ?_
  simp [shrW]
/-- The table of ones of a byte. -/
def tabW : List UInt8 := (List.range 256).map fun i => UInt8.ofNat (onesN i 8)
theorem tabW_get {i : Nat} (h : i < 256) : tabW[i]? = some (UInt8.ofNat (onesN i 8)) := by simp [tabW, h]
theorem onesN_lo (a : Nat) : ∀ i, i ≤ 8 → onesN (a % 256) i = onesN a i
  | 0, _ => rfl
  | i + 1, h => by
    have h1 : (a % 256).testBit i = a.testBit i := by
      rw [show 256 = 2 ^ 8 by decide, Nat.testBit_mod_two_pow]
      simp; omega
    simp only [onesN, onesN_lo a i (by omega), h1]
theorem onesN_hi (a : Nat) : ∀ i, onesN a (8 + i) = onesN a 8 + onesN (a / 256) i
  | 0 => by simp [onesN]
  | i + 1 => by
    have h1 : (a / 256).testBit i = a.testBit (8 + i) := by
      rw [show 256 = 2 ^ 8 by decide, Nat.testBit_div_two_pow, Nat.add_comm]
    show onesN a (8 + i + 1) = _
    simp only [onesN, onesN_hi a i, h1]
    omega
theorem onesN_16 (a : Nat) : onesN a 16 = onesN (a / 256) 8 + onesN (a % 256) 8 := by
  rw [onesN_lo a 8 (Nat.le_refl _), show 16 = 8 + 8 by rfl, onesN_hi]; omega
theorem tabL : ([0, 1, 1, 2, 1, 2, 2, 3, 1, 2, 2, 3, 2, 3, 3, 4, 1, 2, 2, 3, 2, 3, 3, 4, 2, 3, 3, 4, 3, 4, 4, 5, 1, 2, 2, 3, 2, 3, 3, 4, 2, 3, 3, 4, 3, 4, 4, 5, 2, 3, 3, 4, 3, 4, 4, 5, 3, 4, 4, 5, 4, 5, 5, 6, 1, 2, 2, 3, 2, 3, 3, 4, 2, 3, 3, 4, 3, 4, 4, 5, 2, 3, 3, 4, 3, 4, 4, 5, 3, 4, 4, 5, 4, 5, 5, 6, 2, 3, 3, 4, 3, 4, 4, 5, 3, 4, 4, 5, 4, 5, 5, 6, 3, 4, 4, 5, 4, 5, 5, 6, 4, 5, 5, 6, 5, 6, 6, 7, 1, 2, 2, 3, 2, 3, 3, 4, 2, 3, 3, 4, 3, 4, 4, 5, 2, 3, 3, 4, 3, 4, 4, 5, 3, 4, 4, 5, 4, 5, 5, 6, 2, 3, 3, 4, 3, 4, 4, 5, 3, 4, 4, 5, 4, 5, 5, 6, 3, 4, 4, 5, 4, 5, 5, 6, 4, 5, 5, 6, 5, 6, 6, 7, 2, 3, 3, 4, 3, 4, 4, 5, 3, 4, 4, 5, 4, 5, 5, 6, 3, 4, 4, 5, 4, 5, 5, 6, 4, 5, 5, 6, 5, 6, 6, 7, 3, 4, 4, 5, 4, 5, 5, 6, 4, 5, 5, 6, 5, 6, 6, 7, 4, 5, 5, 6, 5, 6, 6, 7, 5, 6, 6, 7, 6, 7, 7, 8] : List UInt8) = tabW := by decide +kernel
theorem ones351 (a : Int) (h0 : 0 ≤ a) (h1 : a ≤ 65535) : Pure Tryz.prog GG 351 [.int .u16 a] (.int .i64 (onesN a.toNat 16)) := by
  refine Pure.vc mixed Tryz.func351 rfl (by kernel_rfl) ?_
  obtain ⟨n, rfl⟩ := Int.eq_ofNat_of_zero_le h0
  have e1 : binA (Dof Tryz.prog) .shr 294 (.int .u16 (n : Int)) (.int .u64 8) = some (.int .u16 ((n / 256 : Nat) : Int)) := by
    have e : (n : Int).fdiv (2 ^ (min 8 IntKind.u16.bits)) = ((n / 256 : Nat) : Int) := by
      show (n : Int).fdiv 256 = _
      rw [Int.fdiv_eq_ediv_of_nonneg _ (by omega)]; omega
    show some (AV.int .u16 ((n : Int).fdiv (2 ^ (min 8 IntKind.u16.bits)))) = _
    rw [e]
  have e2 : binA (Dof Tryz.prog) .and 294 (.int .u16 (n : Int)) (.int .u16 255) = some (.int .u16 ((n % 256 : Nat) : Int)) := by
    have e : ((BitVec.ofInt 16 (n : Int) &&& 255#16).toNat : Int) = ((n % 256 : Nat) : Int) := by
      rw [BitVec.toNat_and, BitVec.toNat_ofInt]
      have e : (255#16).toNat = 2 ^ 8 - 1 := by decide
      rw [e, Nat.and_two_pow_sub_one_eq_mod]
      omega
    show some (AV.int .u16 (IntKind.u16.wrap ((BitVec.ofInt 16 (n : Int) &&& 255#16).toNat : Int))) = _
    rw [e, wr16 (by omega) (by omega)]
  have g1 := tabW_get (i := n / 256) (by omega)
  have g2 := tabW_get (i := n % 256) (by omega)
  have l1 := onesN_le (n / 256) 8
  have l2 := onesN_le (n % 256) 8
  have e4 := onesN_16 n
  have p1 : (0 : Int) ≤ ((n / 256 : Nat) : Int) := by omega
  have p2 : (0 : Int) ≤ ((n % 256 : Nat) : Int) := by omega
  have u : ∀ x y : Nat, x ≤ 8 → y ≤ 8 → IntKind.u8.wrap (((x : Int) % 256) + ((y : Int) % 256)) = (x : Int) + y ∧ IntKind.i64.wrap ((x : Int) + y) = x + y := by
    intro x y hx hy
    refine ⟨?_, wr (by omega) (by omega)⟩
    simp [IntKind.wrap, IntKind.bits, IntKind.signed]; omega
  obtain ⟨w1, w2⟩ := u _ _ l1 l2
  rw [Int.toNat_natCast, e4]
  generalize n / 256 = p at *
  generalize n % 256 = q at *
  simp [e1, e2, tabL, g1, g2, -binA, -intOp]
  simp [w1, w2, convA]
theorem ones300 (a : Int) : Pure Tryz.prog GG 300 [.int .i64 a] (.int .i64 (onesN (wrapW a).toNat 16)) := by
  refine Pure.vc mixed Tryz.func300 rfl (by kernel_rfl) ?_
  try simp
  refine vcCall.call (of293 a) rfl ?_
  try simp
  refine vcCall.call (ones351 (wrapW a) (wrapW_range a).1 (wrapW_range a).2) rfl ?_
  simp

/-! ### The reference's -/
theorem tmod_cases (n : Int) : n.tmod 65536 = if 0 ≤ n then n % 65536 else -((-n) % 65536) := by
  split
  · rename_i h
    exact Int.tmod_eq_emod_of_nonneg h
  · rename_i h
    have e : n.tmod 65536 = -((-n).tmod 65536) := by rw [Int.neg_tmod]; omega
    rw [e, Int.tmod_eq_emod_of_nonneg (by omega)]
theorem pow2_le {n : Nat} (h : n ≤ 16) : (2 : Int) ^ n ≤ 65536 ∧ (0 : Int) < 2 ^ n := by
  have h1 := Nat.pow_le_pow_right (n := 2) (by decide) h
  have h2 := Nat.pow_pos (n := n) (show 0 < 2 by decide)
  have e : (2 : Int) ^ n = ((2 ^ n : Nat) : Int) := by simp
  rw [e]
  omega
theorem rwrap333 (n : Int) : Pure Tryz.prog GG 333 [.int .i64 n] (.int .i64 (wrapW n)) := by
  refine Pure.vc mixed Tryz.func333 rfl (by kernel_rfl) ?_
  have ht := tmod_cases n
  by_cases h : n.tmod 65536 < 0
  · have hn : ¬ 0 ≤ n := fun hn => by rw [if_pos hn] at ht; omega
    rw [if_neg hn] at ht
    have h1 : IntKind.i64.wrap (n.tmod 65536 + 65535) = n.tmod 65536 + 65535 := wr (by omega) (by omega)
    have h2 : IntKind.i64.wrap (n.tmod 65536 + 65535 + 1) = wrapW n := by
      rw [wr (by omega) (by omega)]; unfold wrapW; omega
    simp [h, h1, h2]
    try rw [← h1, h2]
  · have h2 : n.tmod 65536 = wrapW n := by
      unfold wrapW
      split at ht <;> omega
    simp [intOp, h]
    exact h2
theorem radd286 (a b : Int) : Pure Tryz.prog GG 286 [.int .i64 a, .int .i64 b] (.int .i64 (wrapW (a + b))) := by
  refine Pure.vc mixed Tryz.func286 rfl (by kernel_rfl) ?_
  have ha := wrapW_range a
  have hb := wrapW_range b
  have h : IntKind.i64.wrap (wrapW a + wrapW b) = wrapW a + wrapW b := wr (by omega) (by omega)
  have h2 : wrapW (wrapW a + wrapW b) = wrapW (a + b) := by unfold wrapW; omega
  try simp
  refine vcCall.call (rwrap333 a) rfl ?_
  try simp
  refine vcCall.call (rwrap333 b) rfl ?_
  simp [h]
  refine vcCall.call (rwrap333 _) rfl ?_
  simp [h2]
theorem rsub339 (a b : Int) : Pure Tryz.prog GG 339 [.int .i64 a, .int .i64 b] (.int .i64 (wrapW (a - b))) := by
  refine Pure.vc mixed Tryz.func339 rfl (by kernel_rfl) ?_
  have ha := wrapW_range a
  have hb := wrapW_range b
  have h : IntKind.i64.wrap (wrapW a - wrapW b) = wrapW a - wrapW b := wr (by omega) (by omega)
  have h2 : wrapW (wrapW a - wrapW b) = wrapW (a - b) := by unfold wrapW; omega
  try simp
  refine vcCall.call (rwrap333 a) rfl ?_
  try simp
  refine vcCall.call (rwrap333 b) rfl ?_
  simp [h]
  refine vcCall.call (rwrap333 _) rfl ?_
  simp [h2]
theorem mul_bound {a b c d : Int} (ha0 : 0 ≤ a) (ha1 : a ≤ c) (hb0 : 0 ≤ b) (hb1 : b ≤ d) : 0 ≤ a * b ∧ a * b ≤ c * d :=
  ⟨Int.mul_nonneg ha0 hb0, Int.mul_le_mul ha1 hb1 hb0 (by omega)⟩
theorem rmul340 (a b : Int) : Pure Tryz.prog GG 340 [.int .i64 a, .int .i64 b] (.int .i64 (wrapW (a * b))) := by
  refine Pure.vc mixed Tryz.func340 rfl (by kernel_rfl) ?_
  have ha := wrapW_range a
  have hb := wrapW_range b
  have hm := mul_bound ha.1 ha.2 hb.1 hb.2
  have h : IntKind.i64.wrap (wrapW a * wrapW b) = wrapW a * wrapW b := wr (by omega) (by omega)
  have h2 := wrapW_mul a b
  try simp
  refine vcCall.call (rwrap333 a) rfl ?_
  try simp
  refine vcCall.call (rwrap333 b) rfl ?_
  simp [h]
  refine vcCall.call (rwrap333 _) rfl ?_
  simp [h2]
theorem rinv336 (a : Int) : Pure Tryz.prog GG 336 [.int .i64 a] (.int .i64 (65535 - wrapW a)) := by
  refine Pure.vc mixed Tryz.func336 rfl (by kernel_rfl) ?_
  have ha := wrapW_range a
  have h : IntKind.i64.wrap (65535 - wrapW a) = 65535 - wrapW a := wr (by omega) (by omega)
  try simp
  refine vcCall.call (rwrap333 a) rfl ?_
  simp [h]
theorem rneg337 (a : Int) : Pure Tryz.prog GG 337 [.int .i64 a] (.int .i64 (wrapW (0 - a))) := by
  refine Pure.vc mixed Tryz.func337 rfl (by kernel_rfl) ?_
  have ha := wrapW_range a
  have h : IntKind.i64.wrap (-wrapW a) = -wrapW a := wr (by omega) (by omega)
  have h2 : wrapW (-wrapW a) = wrapW (-a) := by unfold wrapW; omega
  try simp
  refine vcCall.call (rwrap333 a) rfl ?_
  simp [h]
  refine vcCall.call (rwrap333 _) rfl ?_
  simp [h2]
theorem rpower379 (n : Nat) (hn : n ≤ 16) : Pure Tryz.prog GG 379 [.int .i64 n] (.int .i64 (2 ^ n)) := by
  refine Pure.vc mixed Tryz.func379 rfl (by kernel_rfl) ?_
  simp
  refine vcLoop.intro (fun q env σ => ∃ i : Nat, i ≤ n ∧ q = n - i ∧ env 0 = .int .i64 n ∧ env 3 = .int .i64 (2 ^ i) ∧ env 4 = .int .i64 i ∧ σ = ⟨[], []⟩) n ⟨0, by simp⟩ ?_
  rintro q env σ ⟨i, hi, rfl, h0, h3, h4, rfl⟩
  by_cases hc : i < n
  · have hc' : (i : Int) < n := by omega
    obtain ⟨hp, hp0⟩ := pow2_le (n := i) (by omega)
    have hw : IntKind.i64.wrap (2 * 2 ^ i) = 2 ^ (i + 1) := by rw [wr (by omega) (by omega), Int.pow_succ]; omega
    simp [h0, h3, h4, hc]
    exact ⟨_, by omega, i + 1, by omega, rfl, hw, wr (by omega) (by omega)⟩
  · have hi' : i = n := by omega
    subst hi'
    simp [h0, h3, h4]
theorem rshl344 (a b : Int) : Pure Tryz.prog GG 344 [.int .i64 a, .int .i64 b] (.int .i64 (shlW a b)) := by
  refine Pure.vc mixed Tryz.func344 rfl (by kernel_rfl) ?_
  unfold shlW
  by_cases c0 : b < 0
  · rw [if_neg (by omega)]
    simp [c0]
  · by_cases c1 : 15 < b
    · rw [if_neg (by omega)]
      simp [c0, c1]
    · rw [if_pos (by omega)]
      obtain ⟨n, rfl⟩ := Int.eq_ofNat_of_zero_le (show 0 ≤ b by omega)
      have ha := wrapW_range a
      obtain ⟨hp, hp0⟩ := pow2_le (n := n) (by omega)
      have hn0 : ¬ (n : Int) < 0 := by omega
      have hm := mul_bound ha.1 ha.2 (Int.le_of_lt hp0) hp
      have h : IntKind.i64.wrap (wrapW a * 2 ^ n) = wrapW a * 2 ^ n := wr (by omega) (by omega)
      have h2 := wrapW_mulL a (2 ^ n)
      simp [c1, hn0]
      refine vcCall.call (rwrap333 a) rfl ?_
      try simp
      refine vcCall.call (rpower379 n (by omega)) rfl ?_
      simp [h]
      refine vcCall.call (rwrap333 _) rfl ?_
      simp [h2]
theorem rshr345 (a b : Int) : Pure Tryz.prog GG 345 [.int .i64 a, .int .i64 b] (.int .i64 (shrW a b)) := by
  refine Pure.vc mixed Tryz.func345 rfl (by kernel_rfl) ?_
  unfold shrW
  by_cases c0 : b < 0
  · rw [if_neg (by omega)]
    simp [c0]
  · by_cases c1 : 15 < b
    · rw [if_neg (by omega)]
      simp [c0, c1]
    · rw [if_pos (by omega)]
      obtain ⟨n, rfl⟩ := Int.eq_ofNat_of_zero_le (show 0 ≤ b by omega)
      have ha := wrapW_range a
      obtain ⟨hp, hp0⟩ := pow2_le (n := n) (by omega)
      have hn0 : ¬ (n : Int) < 0 := by omega
      have hr := shr_range n ha.1 ha.2
      have h : (wrapW a).tdiv (2 ^ n) = wrapW a / 2 ^ n := Int.tdiv_eq_ediv_of_nonneg ha.1
      have h1 : IntKind.i64.wrap (wrapW a / 2 ^ n) = wrapW a / 2 ^ n := wr (by omega) (by omega)
      have h2 : ¬ ((2 : Int) ^ n = 0) := by omega
      simp [c1, hn0]
      refine vcCall.call (rwrap333 a) rfl ?_
      try simp
      refine vcCall.call (rpower379 n (by omega)) rfl ?_
      simp [intOp, h, h1, h2]
theorem bit_eq (a n : Nat) : (a / 2 ^ n) % 2 = if a.testBit n = true then 1 else 0 := by
  rw [Nat.testBit_eq_decide_div_mod_eq]
  have := Nat.mod_two_eq_zero_or_one (a / 2 ^ n)
  rcases this with h | h <;> simp [h]
theorem rbit377 (a : Int) (n : Nat) (hn : n < 16) : Pure Tryz.prog GG 377 [.int .i64 a, .int .i64 n] (.int .i64 (if (wrapW a).toNat.testBit n = true then 1 else 0)) := by
  refine Pure.vc mixed Tryz.func377 rfl (by kernel_rfl) ?_
  try simp
  refine vcCall.call (rshr345 a n) rfl ?_
  have ha := wrapW_range a
  have hs : shrW a n = wrapW a / 2 ^ n := by unfold shrW; rw [if_pos (by omega)]; simp
  have he : (wrapW a / 2 ^ n).tmod 2 = (if (wrapW a).toNat.testBit n = true then 1 else 0) := by
    obtain ⟨m, hm⟩ := Int.eq_ofNat_of_zero_le ha.1
    rw [hm]
    have hb := bit_eq m n
    have e : ((m : Int) / 2 ^ n) = ((m / 2 ^ n : Nat) : Int) := by simp
    have e3 : ∀ q : Nat, (q : Int).tmod 2 = ((q % 2 : Nat) : Int) := fun q => by
      rw [Int.tmod_eq_emod_of_nonneg (by omega)]; omega
    rw [e, e3, Int.toNat_natCast, hb]
    split <;> rfl
  rw [hs]
  simp [intOp, he]
theorem rones338 (a : Int) : Pure Tryz.prog GG 338 [.int .i64 a] (.int .i64 (onesN (wrapW a).toNat 16)) := by
  refine Pure.vc mixed Tryz.func338 rfl (by kernel_rfl) ?_
  simp
  refine vcLoop.intro (fun q env σ => ∃ i : Nat, i ≤ 16 ∧ q = 16 - i ∧ env 0 = .int .i64 a ∧ env 3 = .int .i64 (onesN (wrapW a).toNat i) ∧ env 4 = .int .i64 i ∧ σ = ⟨[], []⟩) 16 ⟨0, by simp [onesN]⟩ ?_
  rintro q env σ ⟨i, hi, rfl, h0, h3, h4, rfl⟩
  by_cases hc : i < 16
  · have hc' : (i : Int) < 16 := by omega
    have hle := onesN_le (wrapW a).toNat i
    simp [h0, h3, h4, hc']
    refine vcCall.call (rbit377 a i hc) rfl ?_
    have hw : IntKind.i64.wrap ((onesN (wrapW a).toNat i : Int) + (if (wrapW a).toNat.testBit i = true then 1 else 0)) = (onesN (wrapW a).toNat (i + 1) : Int) := by
      rw [wr (by split <;> omega) (by split <;> omega)]
      simp only [onesN]
      split <;> simp
    simp [h0, h3, h4, hw]
    exact ⟨_, by omega, i + 1, by omega, rfl, rfl, wr (by omega) (by omega)⟩
  · have hi' : i = 16 := by omega
    subst hi'
    simp [h0, h3, h4]
end Go.Proofs.YtpgcmnabljandaaGreatDoor
end

section
/-
  Walks: operators, for the program and for the reference.
-/
set_option linter.unusedVariables false
set_option linter.unusedSimpArgs false
set_option maxRecDepth 100000
namespace Go.Proofs.YtpgcmnabljandaaGreatDoor
open Go Go.Abs

theorem beq_dec (a b : Int) : (a == b) = decide (a = b) := by
  by_cases h : a = b
  · subst h; simp
  · rw [decide_eq_false h]; exact beq_eq_false_iff_ne.2 h
theorem bne_dec (a b : Int) : (a != b) = !decide (a = b) := by rw [bne, beq_dec]
theorem truth297 (b : Bool) : Pure Tryz.prog GG 297 [.bool b] (.int .i64 (b2i b)) := by
  refine Pure.vc mixed Tryz.func297 rfl (by kernel_rfl) ?_
  cases b <;> simp [b2i]
theorem rtruth335 (b : Bool) : Pure Tryz.prog GG 335 [.bool b] (.int .i64 (b2i b)) := by
  refine Pure.vc mixed Tryz.func335 rfl (by kernel_rfl) ?_
  cases b <;> simp [b2i]
theorem b2i_beq (a b : Int) : b2i (a == b) = b2i (decide (a = b)) := by
  have e : (a == b) = decide (a = b) := by
    by_cases h : a = b
    · subst h; simp
    · rw [decide_eq_false h]; exact beq_eq_false_iff_ne.2 h
  rw [e]
theorem single238 (op a : Int) : Pure Tryz.prog GG 238 [.int .i64 op, .int .i64 a] (.int .i64 (unW op a)) := by
  refine Pure.vc mixed Tryz.func238 rfl (by kernel_rfl) ?_
  by_cases h4 : op = 4
  · subst h4
    simp
    refine vcCall.call (truth297 _) rfl ?_
    simp [unW, b2i_beq]
  by_cases h5 : op = 5
  · subst h5
    simp
    refine vcCall.call (inv298 a) rfl ?_
    simp [unW]
  by_cases h6 : op = 6
  · subst h6
    simp
    refine vcCall.call (neg299 a) rfl ?_
    simp [unW]
  simp [h4, h5, h6]
  refine vcCall.call (ones300 a) rfl ?_
  simp [unW, h4, h5, h6]
theorem runary287 (op a : Int) : Pure Tryz.prog GG 287 [.int .i64 op, .int .i64 a] (.int .i64 (unW op a)) := by
  refine Pure.vc mixed Tryz.func287 rfl (by kernel_rfl) ?_
  by_cases h4 : op = 4
  · subst h4
    simp
    refine vcCall.call (rtruth335 _) rfl ?_
    simp [unW, b2i_beq]
  by_cases h5 : op = 5
  · subst h5
    simp
    refine vcCall.call (rinv336 a) rfl ?_
    simp [unW]
  by_cases h6 : op = 6
  · subst h6
    simp
    refine vcCall.call (rneg337 a) rfl ?_
    simp [unW]
  simp [h4, h5, h6]
  refine vcCall.call (rones338 a) rfl ?_
  simp [unW, h4, h5, h6]

/-! ### Bit by bit -/
theorem nat_and {x y : Nat} (hx : x < 65536) (hy : y < 65536) : intOp .and .i64 (x : Int) (y : Int) = some (.int .i64 ((x &&& y : Nat) : Int)) := by
  have h := Nat.and_lt_two_pow (n := 16) x (y := y) (by omega)
  have e1 : (BitVec.ofInt IntKind.i64.bits (x : Int)).toNat = x := by
    show (BitVec.ofInt 64 (x : Int)).toNat = x
    rw [BitVec.toNat_ofInt]; omega
  have e2 : (BitVec.ofInt IntKind.i64.bits (y : Int)).toNat = y := by
    show (BitVec.ofInt 64 (y : Int)).toNat = y
    rw [BitVec.toNat_ofInt]; omega
  show some (AV.int .i64 (IntKind.i64.wrap ((BitVec.ofInt IntKind.i64.bits (x : Int) &&& BitVec.ofInt IntKind.i64.bits (y : Int)).toNat : Int))) = _
  rw [BitVec.toNat_and, e1, e2, wr (by omega) (by omega)]
theorem nat_or {x y : Nat} (hx : x < 65536) (hy : y < 65536) : intOp .or .i64 (x : Int) (y : Int) = some (.int .i64 ((x ||| y : Nat) : Int)) := by
  have h := Nat.or_lt_two_pow (n := 16) (x := x) (y := y) (by omega) (by omega)
  have e1 : (BitVec.ofInt IntKind.i64.bits (x : Int)).toNat = x := by
    show (BitVec.ofInt 64 (x : Int)).toNat = x
    rw [BitVec.toNat_ofInt]; omega
  have e2 : (BitVec.ofInt IntKind.i64.bits (y : Int)).toNat = y := by
    show (BitVec.ofInt 64 (y : Int)).toNat = y
    rw [BitVec.toNat_ofInt]; omega
  show some (AV.int .i64 (IntKind.i64.wrap ((BitVec.ofInt IntKind.i64.bits (x : Int) ||| BitVec.ofInt IntKind.i64.bits (y : Int)).toNat : Int))) = _
  rw [BitVec.toNat_or, e1, e2, wr (by omega) (by omega)]
theorem nat_xor {x y : Nat} (hx : x < 65536) (hy : y < 65536) : intOp .xor .i64 (x : Int) (y : Int) = some (.int .i64 ((x ^^^ y : Nat) : Int)) := by
  have h := Nat.xor_lt_two_pow (n := 16) (x := x) (y := y) (by omega) (by omega)
  have e1 : (BitVec.ofInt IntKind.i64.bits (x : Int)).toNat = x := by
    show (BitVec.ofInt 64 (x : Int)).toNat = x
    rw [BitVec.toNat_ofInt]; omega
  have e2 : (BitVec.ofInt IntKind.i64.bits (y : Int)).toNat = y := by
    show (BitVec.ofInt 64 (y : Int)).toNat = y
    rw [BitVec.toNat_ofInt]; omega
  show some (AV.int .i64 (IntKind.i64.wrap ((BitVec.ofInt IntKind.i64.bits (x : Int) ^^^ BitVec.ofInt IntKind.i64.bits (y : Int)).toNat : Int))) = _
  rw [BitVec.toNat_xor, e1, e2, wr (by omega) (by omega)]

def bitI (x i : Nat) : Int := if x.testBit i = true then 1 else 0
theorem bitI_range (x i : Nat) : 0 ≤ bitI x i ∧ bitI x i ≤ 1 := by unfold bitI; split <;> omega
theorem rbit377' (x i : Nat) (hx : x < 65536) (hi : i < 16) : Pure Tryz.prog GG 377 [.int .i64 x, .int .i64 i] (.int .i64 (bitI x i)) := by
  have h := rbit377 (x : Int) i hi
  rw [wrapW_id (by omega) (by omega)] at h
  simpa [bitI] using h
theorem rbits378 (x y : Nat) (lo hi : Int) (X : Nat) (hx : x < 65536) (hy : y < 65536) (hX : X < 65536) (h : ∀ i, i < 16 → X.testBit i = decide (lo ≤ bitI x i + bitI y i ∧ bitI x i + bitI y i ≤ hi)) :
    Pure Tryz.prog GG 378 [.int .i64 x, .int .i64 y, .int .i64 lo, .int .i64 hi] (.int .i64 X) := by
  refine Pure.vc mixed Tryz.func378 rfl (by kernel_rfl) ?_
  simp
  refine vcLoop.intro (fun q env σ => q ≤ 16 ∧ env 0 = .int .i64 x ∧ env 1 = .int .i64 y ∧ env 2 = .int .i64 lo ∧ env 3 = .int .i64 hi ∧ env 9 = .int .i64 ((X / 2 ^ q : Nat) : Int) ∧ env 10 = .int .i64 ((q : Int) - 1) ∧ σ = ⟨[], []⟩) 16 ⟨by simp, by simp, by simp, by simp, by simp, by simp; omega, by simp, rfl⟩ ?_
  rintro q env σ ⟨hq, h0, h1, h2, h3, h9, h10, rfl⟩
  cases q with
  | zero =>
    simp at h9 h10
    simp [h0, h1, h2, h3, h9, h10]
  | succ i =>
    have hi' : i < 16 := by omega
    have e10 : ((i + 1 : Nat) : Int) - 1 = i := by omega
    rw [e10] at h10
    have hbx := bitI_range x i
    have hby := bitI_range y i
    have hw : IntKind.i64.wrap (bitI x i + bitI y i) = bitI x i + bitI y i := wr (by omega) (by omega)
    have hXb := h i hi'
    have hd : X / 2 ^ i = 2 * (X / 2 ^ (i + 1)) + (if X.testBit i = true then 1 else 0) := by
      rw [← bit_eq, Nat.pow_succ, ← Nat.div_div_eq_div_mul]; omega
    have hle : X / 2 ^ i ≤ X := Nat.div_le_self _ _
    have hw2 : IntKind.i64.wrap (2 * ((X / 2 ^ (i + 1) : Nat) : Int)) = ((2 * (X / 2 ^ (i + 1)) : Nat) : Int) := by
      rw [wr (by omega) (by omega)]; omega
    have hwi : IntKind.i64.wrap ((i : Int) - 1) = (i : Int) - 1 := wr (by omega) (by omega)
    generalize X / 2 ^ (i + 1) = A at h9 hd hw2
    generalize hB : X / 2 ^ i = B at hd hle
    have hXB : (X : Int) / 2 ^ i = (B : Int) := by rw [← hB]; simp
    have hp : (0 : Int) ≤ i := by omega
    simp [h0, h1, h2, h3, h9, h10]
    refine vcCall.call (rbit377' x i hx hi') rfl ?_
    try simp [h0, h1, h2, h3, h9, h10]
    refine vcCall.call (rbit377' y i hy hi') rfl ?_
    by_cases c1 : lo ≤ bitI x i + bitI y i
    · by_cases c2 : bitI x i + bitI y i ≤ hi
      · rw [decide_eq_true (⟨c1, c2⟩ : _ ∧ _)] at hXb
        rw [hXb] at hd
        simp at hd
        have hw3 : IntKind.i64.wrap (((2 * A : Nat) : Int) + 1) = (B : Int) := by rw [wr (by omega) (by omega)]; omega
        simp [h0, h1, h2, h3, h9, h10, hw, hw2, c1, c2, hw3, hwi]
        exact ⟨i, by omega, by omega, by rw [hXB, wr (by omega) (by omega)]; omega, rfl⟩
      · rw [decide_eq_false (fun h => c2 h.2)] at hXb
        rw [hXb] at hd
        simp at hd
        simp [h0, h1, h2, h3, h9, h10, hw, hw2, c1, c2, hwi]
        exact ⟨i, by omega, by omega, by rw [hXB]; omega, rfl⟩
    · rw [decide_eq_false (fun h => c1 h.1)] at hXb
      rw [hXb] at hd
      simp at hd
      simp [h0, h1, h2, h3, h9, h10, hw, hw2, c1, hwi]
      exact ⟨i, by omega, by omega, by rw [hXB]; omega, rfl⟩
theorem rand341 (x y : Nat) (hx : x < 65536) (hy : y < 65536) : Pure Tryz.prog GG 341 [.int .i64 x, .int .i64 y] (.int .i64 ((x &&& y : Nat) : Int)) := by
  refine Pure.vc mixed Tryz.func341 rfl (by kernel_rfl) ?_
  simp
  refine vcCall.call (rbits378 x y 2 2 (x &&& y) hx hy (Nat.and_lt_two_pow (n := 16) x hy) fun i hi => ?_) rfl ?_
  · rw [Nat.testBit_and]
    unfold bitI
    cases x.testBit i <;> cases y.testBit i <;> rfl
  · simp
theorem ror342 (x y : Nat) (hx : x < 65536) (hy : y < 65536) : Pure Tryz.prog GG 342 [.int .i64 x, .int .i64 y] (.int .i64 ((x ||| y : Nat) : Int)) := by
  refine Pure.vc mixed Tryz.func342 rfl (by kernel_rfl) ?_
  simp
  refine vcCall.call (rbits378 x y 1 2 (x ||| y) hx hy (Nat.or_lt_two_pow (n := 16) hx hy) fun i hi => ?_) rfl ?_
  · rw [Nat.testBit_or]
    unfold bitI
    cases x.testBit i <;> cases y.testBit i <;> rfl
  · simp
theorem rxor343 (x y : Nat) (hx : x < 65536) (hy : y < 65536) : Pure Tryz.prog GG 343 [.int .i64 x, .int .i64 y] (.int .i64 ((x ^^^ y : Nat) : Int)) := by
  refine Pure.vc mixed Tryz.func343 rfl (by kernel_rfl) ?_
  simp
  refine vcCall.call (rbits378 x y 1 1 (x ^^^ y) hx hy (Nat.xor_lt_two_pow (n := 16) hx hy) fun i hi => ?_) rfl ?_
  · rw [Nat.testBit_xor]
    unfold bitI
    cases x.testBit i <;> cases y.testBit i <;> rfl
  · simp

end Go.Proofs.YtpgcmnabljandaaGreatDoor
end
