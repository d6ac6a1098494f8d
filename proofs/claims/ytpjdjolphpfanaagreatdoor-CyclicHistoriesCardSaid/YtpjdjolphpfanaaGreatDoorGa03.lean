/- A part of the proof. -/
import Derived.Test.YtpjdjolphpfanaaGreatDoorGa02
import Derived.Laws.StructEq
import Derived.ChangeKeysEq
set_option linter.unusedVariables false
set_option linter.unusedSimpArgs false
set_option linter.defProp false
section
namespace Go.Abs
open Go Go.RowKit
section

theorem str_toList (a : List UInt8) : (⟨a.toArray⟩ : ByteArray).toList = a := by rw [ByteArray.toList_eq]
theorem str_size (a : List UInt8) : (⟨a.toArray⟩ : ByteArray).size = a.length := by simp [ByteArray.size]
theorem str_append (a b : List UInt8) : (⟨a.toArray⟩ : ByteArray) ++ ⟨b.toArray⟩ = ⟨(a ++ b).toArray⟩ := by
  apply ByteArray.ext; simp
theorem str_extract (a : List UInt8) (l h : Nat) : (⟨a.toArray⟩ : ByteArray).extract l h = ⟨((a.take h).drop l).toArray⟩ := by
  apply ByteArray.ext
  rw [ByteArray.data_extract]
  simp [List.extract_eq_take_drop, List.drop_take]

section
variable {P : Program} {G : Nat → AV} {w0 : World} {ro0 : Nat → Nat → Option Value} {K : Kn} {σ : St} {w w' : World}

theorem cellsOf_info {t : Nat} (h : P.cellsOf t ≠ 0) : ∃ inf, P.info? t = some inf ∧ inf.size ≠ 0 := by
  simp only [Program.cellsOf] at h
  cases hi : P.info? t with
  | none => simp [hi] at h
  | some inf => exact ⟨inf, rfl, by simpa [hi] using h⟩

theorem fieldAddr_sound (h : WRel G w0 ro0 K σ w) {s f : Nat} {x v : AV} {x' : Value} (hx : VRel K x x') (hf : fieldAddrA (Dof P) s x f = some v) :
    ∃ v', (Instr.fieldAt s x' f).run P w = .ok v' w ∧ VRel K v v' := by
  unfold fieldAddrA at hf
  split at hf
  · rename_i i hD
    obtain ⟨inf, d, z, hi, hu, hzero, rfl⟩ := Dof_spec hD
    simp only at hf
    split at hf
    · rename_i fs hd
      obtain ⟨fields, rfl, rfl, hnz, _⟩ := td_st hd
      split at hf
      · rename_i off ty hfo
        simp only [List.getElem?_map, Option.map_eq_some_iff] at hfo
        obtain ⟨fl, hfl, he⟩ := hfo
        simp only [Prod.mk.injEq] at he
        obtain ⟨rfl, rfl⟩ := he
        have hfl' : fields[f]? = some fl := by simpa using hfl
        obtain ⟨inf2, hi2, hsz2⟩ := cellsOf_info (hnz fl (List.mem_of_getElem? hfl))
        have hrun : ∀ ad : Addr, (Instr.fieldAt s (.pointer (some ad)) f).run P w = .ok (.pointer (some (ad.add fl.offset))) w := by
          intro ad
          simp [Instr.fieldAt, run_underlying hu, hfl', Instr.sureAddr, fieldPlace, sizeOf, typeInfo, hi2, hsz2]
        split at hf
        · simp at hf; subst hf
          simp only [VRel] at hx
          obtain ⟨B, hm, rfl⟩ := hx
          exact ⟨_, hrun _, by rw [addr_add]; exact ⟨B, hm, rfl⟩⟩
        · simp at hf; subst hf
          simp only [VRel] at hx
          obtain ⟨B, o, rfl, hc⟩ := hx
          exact ⟨_, hrun _, by rw [addr_add]; simp only [VRel]; exact ⟨B, _, rfl, CellsAt.drop B _ _ _ hc⟩⟩
        · cases hf
      · cases hf
    · cases hf
  · cases hf

theorem VRels.sub {c : List AV} {vs : List Value} (h : VRels K c vs) (off n : Nat) : VRels K ((c.drop off).take n) ((vs.drop off).take n) := by
  refine VRels.intro (by simp [h.length]) fun i a e => ?_
  rw [List.getElem?_take, List.getElem?_drop] at e
  split at e
  · rename_i hi
    obtain ⟨v, e1, e2⟩ := h.get _ _ e
    exact ⟨v, by rw [List.getElem?_take, if_pos hi, List.getElem?_drop]; exact e1, e2⟩
  · cases e

/-- A part of a composite value. -/
theorem part_sound {t : Nat} {inf : TypeInfo} {d : TypeDesc} (hi : P.info? t = some inf) (hu : P.underlying t = some d) {c c' : List AV} {vs : Array Value} (hc : VRels K c vs.toList) {off : Nat}
    (h1 : cut c off (if (tdOf P d).agg = some true then inf.size else 1) = some c') {v : AV} (h2 : asVal (tdOf P d).agg c' = some v) : ∃ v', (part t vs off).run P w = .ok v' w ∧ VRel K v v' := by
  obtain ⟨g1, g2, g3⟩ := cut_spec h1
  have hd : tdOf P d ≠ .other := by intro e; rw [e] at h2; simp [TD.agg, asVal] at h2
  have ha := run_isAgg (w := w) hu hd
  cases hg : (tdOf P d).agg with
  | none => rw [hg] at h2; simp [asVal] at h2
  | some g =>
    rw [hg] at h2 ha
    cases g with
    | true =>
      simp [asVal] at h2
      subst h2
      rw [hg] at g2
      simp only [if_true] at g2
      refine ⟨.agg (vs.extract off (off + inf.size)), ?_, ?_⟩
      · simp only [part, Sem.run_bind, ha, Result.andThen_ok]
        simp [sizeOf, typeInfo, hi]
      · simp only [VRel]
        refine ⟨_, rfl, ?_⟩
        rw [g2]
        have := hc.sub off inf.size
        simpa [List.extract_eq_take_drop] using this
    | false =>
      simp only [asVal] at h2
      rw [hg] at g2 g1
      simp only [Option.some.injEq, Bool.false_eq_true, if_false] at g2 g1
      have hget : c[off]? = some v := by
        rw [g2, List.head?_take] at h2
        simp [List.head?_drop] at h2
        exact h2
      obtain ⟨v', e1, e2⟩ := hc.get off v hget
      refine ⟨v', ?_, e2⟩
      simp only [part, Sem.run_bind, ha, Result.andThen_ok]
      have : vs[off]? = some v' := by simpa using e1
      simp [this]

theorem field_sound {s f : Nat} {x v : AV} {x' : Value} (hx : VRel K x x') (hf : fieldA (Dof P) s x f = some v) :
    ∃ v', (Instr.field s x' f).run P w = .ok v' w ∧ VRel K v v' := by
  unfold fieldA at hf
  split at hf
  · rename_i i c hD
    obtain ⟨inf, d, z, hi, hu, hzero, rfl⟩ := Dof_spec hD
    simp only at hf
    split at hf
    · rename_i fs hd
      obtain ⟨fields, rfl, rfl, hnz, _⟩ := td_st hd
      split at hf
      · rename_i off ty hfo
        simp only [List.getElem?_map, Option.map_eq_some_iff] at hfo
        obtain ⟨fl, hfl, he⟩ := hfo
        simp only [Prod.mk.injEq] at he
        obtain ⟨rfl, rfl⟩ := he
        have hfl' : fields[f]? = some fl := by simpa using hfl
        split at hf
        · rename_i j hj
          obtain ⟨inf2, d2, z2, hi2, hu2, _, rfl⟩ := Dof_spec hj
          obtain ⟨c', hc', hv⟩ := Option.bind_eq_some_iff.1 hf
          simp only [VRel] at hx
          obtain ⟨vs, rfl, hvs⟩ := hx
          obtain ⟨v', e1, e2⟩ := part_sound (w := w) hi2 hu2 hvs hc' hv
          refine ⟨v', ?_, e2⟩
          simp [Instr.field, run_underlying hu, hfl', asAgg, e1]
        · cases hf
      · cases hf
    · cases hf
  · cases hf

theorem asInt_spec {i : AV} {n : Int} (h : asIntA i = some n) {i' : Value} (hi : VRel K i i') : ∃ k, i' = .int k n := by
  cases i <;> simp [asIntA] at h
  subst h
  exact ⟨_, by simpa only [VRel] using hi⟩

theorem indexAddr_sound (h : WRel G w0 ro0 K σ w) {t : Nat} {x i v : AV} {x' i' : Value} (hx : VRel K x x') (hi' : VRel K i i') (hf : indexAddrA (Dof P) t x i = some v) :
    ∃ v', (Instr.indexAt t x' i').run P w = .ok v' w ∧ VRel K v v' := by
  unfold indexAddrA at hf
  split at hf
  · rename_i ti n hD hn
    obtain ⟨inf, d, z, hi, hu, hzero, rfl⟩ := Dof_spec hD
    obtain ⟨k, rfl⟩ := asInt_spec hn hi'
    simp only at hf
    split at hf
    · rename_i e hd
      have hd' := td_sl hd
      subst hd'
      split at hf
      · rename_i j hj
        obtain ⟨inf2, d2, z2, hi2, hu2, _, rfl⟩ := Dof_spec hj
        split at hf
        · rename_i sz rows tok
          split at hf
          · rename_i hc
            obtain ⟨h0, hsz⟩ := hc
            simp only at hsz
            obtain ⟨r, hr, rfl⟩ := Option.map_eq_some_iff.1 hf
            have hlt : n.toNat < rows.length := (List.getElem?_eq_some_iff.1 hr).1
            simp only [VRel] at hx
            rcases hx with ⟨_, rfl, _⟩ | ⟨B, off, cap, rfl, hcap, hrows, _⟩
            · simp at hlt
            · have hsz' : sz = inf2.size := by
                rcases hsz with hsz | rfl
                · exact hsz
                · simp at hlt
              subst hsz'
              obtain ⟨_, _, hca⟩ := RowsAt.get B _ rows off hrows _ _ hr
              refine ⟨.pointer (some ⟨B, off + n.toNat * inf2.size, none⟩), ?_, by simp only [VRel]; exact ⟨B, _, rfl, hca⟩⟩
              have hn2 : n < (rows.length : Int) := by omega
              simp [Instr.indexAt, asIntOf, run_underlying hu, h0, hn2, sizeOf, typeInfo, hi2, addr_add]
          · cases hf
        · rename_i b off len sz
          split at hf
          · rename_i hc
            obtain ⟨h0, hlt, hsz⟩ := hc
            simp only at hsz
            subst hsz
            simp at hf
            subst hf
            simp only [VRel] at hx
            obtain ⟨B, cap, hm, rfl, _⟩ := hx
            refine ⟨.pointer (some ⟨B, off + n.toNat * inf2.size, none⟩), ?_, by simp only [VRel]; exact ⟨B, hm, rfl⟩⟩
            simp [Instr.indexAt, asIntOf, run_underlying hu, h0, hlt, sizeOf, typeInfo, hi2, addr_add]
          · cases hf
        · cases hf
      · cases hf
    · rename_i m e hd
      have hd' := td_arr hd
      subst hd'
      split at hf
      · rename_i j hj
        obtain ⟨inf2, d2, z2, hi2, hu2, _, rfl⟩ := Dof_spec hj
        split at hf
        · rename_i hc
          obtain ⟨h0, hlt⟩ := hc
          have hrun : ∀ ad : Addr, (Instr.indexAt t (.pointer (some ad)) (.int k n)).run P w = .ok (.pointer (some (ad.add (n.toNat * inf2.size)))) w := by
            intro ad
            simp [Instr.indexAt, asIntOf, run_underlying hu, h0, hlt, sizeOf, typeInfo, hi2, Instr.sureAddr]
          split at hf
          · simp at hf; subst hf
            simp only [VRel] at hx
            obtain ⟨B, hm, rfl⟩ := hx
            exact ⟨_, hrun _, by rw [addr_add]; exact ⟨B, hm, rfl⟩⟩
          · simp at hf; subst hf
            simp only [VRel] at hx
            obtain ⟨B, o, rfl, hc⟩ := hx
            exact ⟨_, hrun _, by rw [addr_add]; simp only [VRel]; exact ⟨B, _, rfl, CellsAt.drop B _ _ _ hc⟩⟩
          · cases hf
        · cases hf
      · cases hf
    · cases hf
  · cases hf

theorem index_sound {t : Nat} {x i v : AV} {x' i' : Value} (hx : VRel K x x') (hi' : VRel K i i') (hf : indexA (Dof P) t x i = some v) :
    ∃ v', (Instr.index t x' i').run P w = .ok v' w ∧ VRel K v v' := by
  unfold indexA at hf
  split at hf
  · rename_i ti n hD hn
    obtain ⟨inf, d, z, hi, hu, hzero, rfl⟩ := Dof_spec hD
    obtain ⟨k, rfl⟩ := asInt_spec hn hi'
    simp only at hf
    split at hf
    · rename_i s hd
      have hd' := td_str hd
      subst hd'
      split at hf
      · rename_i h0
        obtain ⟨b, hb, rfl⟩ := Option.map_eq_some_iff.1 hf
        simp only [VRel] at hx
        subst hx
        refine ⟨.int .u8 b.toNat, ?_, by simp [VRel]⟩
        have : (⟨s.toArray⟩ : ByteArray)[n.toNat]? = some b := by
          have hlt := (List.getElem?_eq_some_iff.1 hb)
          obtain ⟨h1, h2⟩ := hlt
          rw [getElem?_pos _ _ (by rw [str_size]; exact h1)]
          congr 1
        simp [Instr.index, asIntOf, run_underlying hu, h0, this]
      · cases hf
    · rename_i m e c hd
      have hd' := td_arr hd
      subst hd'
      split at hf
      · rename_i j hj
        obtain ⟨inf2, d2, z2, hi2, hu2, _, rfl⟩ := Dof_spec hj
        split at hf
        · rename_i hc
          obtain ⟨h0, hlt⟩ := hc
          obtain ⟨c', hc', hv⟩ := Option.bind_eq_some_iff.1 hf
          simp only [VRel] at hx
          obtain ⟨vs, rfl, hvs⟩ := hx
          obtain ⟨v', e1, e2⟩ := part_sound (w := w) hi2 hu2 hvs hc' hv
          refine ⟨v', ?_, e2⟩
          simp [Instr.index, asIntOf, run_underlying hu, h0, hlt, sizeOf, typeInfo, hi2, e1]
        · cases hf
      · cases hf
    · cases hf
  · cases hf

theorem extract_sound {x v : AV} {x' : Value} (hx : VRel K x x') {i : Nat} (hf : extractA x i = some v) : ∃ v', (Instr.extract x' i).run P w = .ok v' w ∧ VRel K v v' := by
  cases x <;> simp [extractA] at hf
  simp only [VRel] at hx
  obtain ⟨vs, rfl, hvs⟩ := hx
  obtain ⟨v', e1, e2⟩ := hvs.get i v hf
  have : vs[i]? = some v' := by simpa using e1
  exact ⟨v', by simp [Instr.extract, this], e2⟩

theorem un_sound {op : UnOp} {x v : AV} {x' : Value} (hx : VRel K x x') (hf : unA op x = some v) : ∃ v', (Op.unary op x').run P w = .ok v' w ∧ VRel K v v' := by
  unfold unA at hf
  split at hf
  · simp only [VRel] at hx; subst hx; simp at hf; subst hf
    exact ⟨_, by simp only [Op.unary, pure, Sem.run]; rfl, by simp [VRel]⟩
  · simp only [VRel] at hx; subst hx; simp only [Option.some.injEq] at hf; subst hf
    exact ⟨_, by simp only [Op.unary, Op.intArith, pure, Sem.run]; rfl, by simp [VRel]⟩
  · simp only [VRel] at hx; subst hx; simp at hf; subst hf
    exact ⟨_, by simp [Op.unary, Op.intBits]; rfl, by simp [VRel]⟩
  · cases hf

theorem intOp_sound {op : BinOp} {k : IntKind} {a b : Int} {v : AV} (hf : intOp op k a b = some v) (t : Nat) (hs : op ≠ .shl ∧ op ≠ .shr) :
    ∃ v', (binOp op t (.int k a) (.int k b)).run P w = .ok v' w ∧ VRel K v v' := by
  obtain ⟨hs1, hs2⟩ := hs
  cases op <;> simp only [intOp] at hf <;> first
    | exact absurd rfl hs1
    | exact absurd rfl hs2
    | skip
  all_goals first
    | (split at hf
       · cases hf
       · rename_i hb
         simp at hf; subst hf
         exact ⟨_, by simp [binOp, Op.intDiv, hb]; rfl, by simp [VRel]⟩)
    | (simp at hf; subst hf; exact ⟨_, by simp [binOp, Op.intArith, Op.intBits, Op.intCmp]; rfl, by simp [VRel]⟩)
    | (cases hf)
end

end
section

section
variable {P : Program} {G : Nat → AV} {w0 : World} {ro0 : Nat → Nat → Option Value} {K : Kn} {σ : St} {w w' : World}

theorem plainT_spec {t : Nat} (h : plainT (Dof P) t = true) : ∃ inf, P.info? t = some inf ∧ (P.underlying t = some .bool ∨ P.underlying t = some .string ∨ ∃ k, P.underlying t = some (.int k)) := by
  unfold plainT at h
  split at h
  · rename_i i hD
    obtain ⟨inf, d, z, hi, hu, _, rfl⟩ := Dof_spec hD
    refine ⟨inf, hi, ?_⟩
    simp only at h
    split at h
    · rename_i k hd; exact .inr (.inr ⟨k, by rw [hu, td_int hd]⟩)
    · rename_i hd; exact .inl (by rw [hu, td_bool hd])
    · rename_i hd; exact .inr (.inl (by rw [hu, td_str hd]))
    · cases h
  · cases h

/-- The fields' types fit the cells: said of values, as the comparison meets them. -/
theorem eqFields_run (d : Nat) (xs ys : Array Value) : ∀ (fs : List Field) (k : Nat) (as bs : List AV) (p : Bool), (∀ f ∈ fs, plainT (Dof P) f.type = true ∧ f.name ≠ "_") →
    fs.map (·.offset) = List.range' k fs.length → as.length = fs.length → VRels K as (xs.toList.drop k) → VRels K bs (ys.toList.drop k) → cellsEq as bs = some p →
    (∀ (j : Nat) (f : Field) (a : AV), fs[j]? = some f → as[j]? = some a → (match P.underlying f.type, a with | some .bool, .bool _ => True | some .string, .str _ => True | some (.int _), .int .. => True | _, _ => False)) →
    (Op.eqFields (d + 1) xs ys fs).run P w = .ok p w
  | [], k, as, bs, p, _, _, hl, h1, h2, he, _ => by
    have : as = [] := List.eq_nil_of_length_eq_zero (by simpa using hl)
    subst this
    cases bs with
    | nil => simp [cellsEq] at he; subst he; simp [Op.eqFields]
    | cons => simp [cellsEq] at he
  | f :: fs, k, as, bs, p, hf, ho, hl, h1, h2, he, ht => by
    cases as with
    | nil => simp at hl
    | cons a as =>
      cases bs with
      | nil => simp [cellsEq] at he
      | cons b bs =>
        simp only [List.map_cons, List.length_cons, List.range'_succ, List.cons.injEq] at ho
        obtain ⟨ho1, ho2⟩ := ho
        simp only [VRels] at h1 h2
        obtain ⟨va, ra, e1, g1, g2⟩ := h1
        obtain ⟨vb, rb, e2, g3, g4⟩ := h2
        simp only [cellsEq] at he
        split at he
        · rename_i p1 q1 hp1 hq1
          simp only [Option.some.injEq] at he
          subst he
          obtain ⟨hpl, hnm⟩ := hf f (by simp)
          have htk := ht 0 f a (by simp) (by simp)
          have hxa : xs[f.offset]? = some va := by
            have : (xs.toList.drop k)[0]? = some va := by rw [e1]; rfl
            rw [ho1]; simpa using this
          have hyb : ys[f.offset]? = some vb := by
            have : (ys.toList.drop k)[0]? = some vb := by rw [e2]; rfl
            rw [ho1]; simpa using this
          have hdx : ra = xs.toList.drop (k + 1) := by
            have := congrArg List.tail e1
            simpa using this.symm
          have hdy : rb = ys.toList.drop (k + 1) := by
            have := congrArg List.tail e2
            simpa using this.symm
          have ih := eqFields_run d xs ys fs (k + 1) as bs q1 (fun x hx => hf x (by simp [hx])) ho2 (by simpa using hl) (hdx ▸ g2) (hdy ▸ g4) hq1
            (fun j f' a' h1 h2 => ht (j + 1) f' a' (by simpa using h1) (by simpa using h2))
          obtain ⟨inf, hi, hu⟩ := plainT_spec hpl
          have hagg : (isAgg f.type).run P w = .ok false w := by
            rcases hu with hu | hu | ⟨k, hu⟩ <;> simp [isAgg, run_underlying hu]
          have heq : (Op.equalIn (d + 1) f.type va vb).run P w = .ok p1 w := by
            rcases hu with hu | hu | ⟨k', hu⟩
            · rw [hu] at htk
              cases a <;> simp at htk
              cases b <;> simp [plainEq] at hp1
              subst hp1
              simp only [VRel] at g1 g3
              subst g1; subst g3
              simp [Op.equalIn, run_underlying hu]
            · rw [hu] at htk
              cases a <;> simp at htk
              cases b <;> simp [plainEq] at hp1
              subst hp1
              simp only [VRel] at g1 g3
              subst g1; subst g3
              rw [run_equalIn_string w d f.type _ _ hu, str_toList, str_toList]
            · rw [hu] at htk
              cases a <;> simp at htk
              cases b <;> simp only [plainEq] at hp1 <;> try (cases hp1; done)
              split at hp1
              · rename_i hk
                simp at hp1
                subst hp1
                subst hk
                simp only [VRel] at g1 g3
                subst g1; subst g3
                exact run_equalIn_int w d f.type _ k' _ _ hu
              · cases hp1
          simp only [Op.eqFields, if_pos hnm]
          simp [part, hagg, hxa, hyb, heq]
          cases p1
          · simp
          · simpa using ih
        · cases he

/-- A plain cell of the kind that a field's type has. -/
def fitsOne : TD → AV → Prop
  | .bool, .bool _ => True
  | .str, .str _ => True
  | .int _, .int .. => True
  | _, _ => False

theorem fitsAll_spec : ∀ (tds : List TD) (as : List AV), fitsAll tds as = true → as.length = tds.length ∧
    ∀ (j : Nat) (td : TD) (a : AV), tds[j]? = some td → as[j]? = some a → fitsOne td a
  | [], [], _ => ⟨rfl, by simp⟩
  | [], a :: r, h => by simp [fitsAll] at h
  | td :: r, [], h => by cases td <;> simp [fitsAll] at h
  | td :: r, a :: s, h => by
    have : fitsAll r s = true ∧ fitsOne td a := by
      cases td <;> cases a <;> simp [fitsAll] at h <;> exact ⟨h, trivial⟩
    obtain ⟨h1, h2⟩ := this
    obtain ⟨i1, i2⟩ := fitsAll_spec r s h1
    refine ⟨by simp [i1], fun j td' a' e1 e2 => ?_⟩
    cases j with
    | zero => simp at e1 e2; rw [← e1, ← e2]; exact h2
    | succ j => exact i2 j td' a' (by simpa using e1) (by simpa using e2)

theorem flatT_spec {t : Nat} {tds : List TD} (h : flatT (Dof P) t = some tds) :
    ∃ fields : Array Field, P.underlying t = some (.struct fields) ∧ P.stoodInHeld t = false ∧ tds = fields.toList.map (fun f => plainTD (Dof P) f.type) ∧ (∀ f ∈ fields.toList, plainT (Dof P) f.type = true ∧ f.name ≠ "_") ∧
      fields.toList.map (·.offset) = List.range fields.size := by
  unfold flatT at h
  split at h
  · rename_i i hD
    obtain ⟨inf, d, z, hi, hu, _, rfl⟩ := Dof_spec hD
    simp only at h
    split at h
    · rename_i fs hd
      obtain ⟨fields, rfl, rfl, _, hnm⟩ := td_st hd
      split at h
      · rename_i hc
        simp only [Option.some.injEq] at h
        simp only [Bool.and_eq_true, Bool.not_eq_true', beq_iff_eq, List.map_map, List.length_map, Array.length_toList, List.all_map, List.all_eq_true] at hc
        obtain ⟨⟨h1, h2⟩, h3⟩ := hc
        refine ⟨fields, hu, h1, by rw [← h]; simp, fun f hf => ⟨h2 f hf, hnm f hf⟩, ?_⟩
        rw [← h3]
        rfl
      · cases h
    · cases h
  · cases h

theorem eqGuardType_plain {t : Nat} (h : plainT (Dof P) t = true) (d : Nat) : P.eqGuardType (d + 1) t = false := by
  obtain ⟨inf, hi, hu⟩ := plainT_spec h
  rcases hu with hu | hu | ⟨k, hu⟩ <;> simp [Program.eqGuardType, hu]

/-- An array's elements, one behind the other. -/
theorem eqItems_run (d : Nat) {e : Nat} (he : plainT (Dof P) e = true) (xs ys : Array Value) : ∀ (n k : Nat) (as bs : List AV) (p : Bool), as.length = n →
    VRels K as (xs.toList.drop k) → VRels K bs (ys.toList.drop k) → cellsEq as bs = some p →
    (∀ a ∈ as, (match P.underlying e, a with | some .bool, .bool _ => True | some .string, .str _ => True | some (.int _), .int .. => True | _, _ => False)) →
    (Op.eqItems (d + 1) e 1 xs ys (List.range' k n)).run P w = .ok p w
  | 0, k, as, bs, p, hl, h1, h2, hq, _ => by
    have : as = [] := List.eq_nil_of_length_eq_zero hl
    subst this
    cases bs with
    | nil => simp [cellsEq] at hq; subst hq; simp [Op.eqItems]
    | cons => simp [cellsEq] at hq
  | n + 1, k, as, bs, p, hl, h1, h2, hq, ht => by
    cases as with
    | nil => simp at hl
    | cons a as =>
      cases bs with
      | nil => simp [cellsEq] at hq
      | cons b bs =>
        simp only [VRels] at h1 h2
        obtain ⟨va, ra, e1, g1, g2⟩ := h1
        obtain ⟨vb, rb, e2, g3, g4⟩ := h2
        simp only [cellsEq] at hq
        split at hq
        · rename_i p1 q1 hp1 hq1
          simp only [Option.some.injEq] at hq
          subst hq
          have htk := ht a (by simp)
          have hxa : xs[k]? = some va := by
            have : (xs.toList.drop k)[0]? = some va := by rw [e1]; rfl
            simpa using this
          have hyb : ys[k]? = some vb := by
            have : (ys.toList.drop k)[0]? = some vb := by rw [e2]; rfl
            simpa using this
          have hdx : ra = xs.toList.drop (k + 1) := by
            have := congrArg List.tail e1
            simpa using this.symm
          have hdy : rb = ys.toList.drop (k + 1) := by
            have := congrArg List.tail e2
            simpa using this.symm
          have ih := eqItems_run d he xs ys n (k + 1) as bs q1 (by simpa using hl) (hdx ▸ g2) (hdy ▸ g4) hq1 (fun a' h' => ht a' (by simp [h']))
          obtain ⟨inf, hi, hu⟩ := plainT_spec he
          have hagg : (isAgg e).run P w = .ok false w := by
            rcases hu with hu | hu | ⟨k, hu⟩ <;> simp [isAgg, run_underlying hu]
          have heq : (Op.equalIn (d + 1) e va vb).run P w = .ok p1 w := by
            rcases hu with hu | hu | ⟨k', hu⟩
            · rw [hu] at htk
              cases a <;> simp at htk
              cases b <;> simp [plainEq] at hp1
              subst hp1
              simp only [VRel] at g1 g3
              subst g1; subst g3
              simp [Op.equalIn, run_underlying hu]
            · rw [hu] at htk
              cases a <;> simp at htk
              cases b <;> simp [plainEq] at hp1
              subst hp1
              simp only [VRel] at g1 g3
              subst g1; subst g3
              rw [run_equalIn_string w d e _ _ hu, str_toList, str_toList]
            · rw [hu] at htk
              cases a <;> simp at htk
              cases b <;> simp only [plainEq] at hp1 <;> try (cases hp1; done)
              split at hp1
              · rename_i hk
                simp at hp1
                subst hp1
                subst hk
                simp only [VRel] at g1 g3
                subst g1; subst g3
                exact run_equalIn_int w d e _ k' _ _ hu
              · cases hp1
          rw [List.range'_succ]
          simp only [Op.eqItems]
          simp [part, hagg, hxa, hyb, heq]
          cases p1
          · simp
          · simpa using ih
        · cases hq

theorem arrT_spec {t : Nat} {tds : List TD} (h : arrT (Dof P) t = some tds) :
    ∃ n e inf td, P.underlying t = some (.array n e) ∧ P.info? e = some inf ∧ P.cellsOf e = 1 ∧ plainT (Dof P) e = true ∧ tds = List.replicate n (tdOf P td) ∧ P.underlying e = some td := by
  unfold arrT at h
  split at h
  · rename_i i hD
    obtain ⟨inf, d, z, hi, hu, _, rfl⟩ := Dof_spec hD
    simp only at h
    split at h
    · rename_i n e hd
      split at h
      · rename_i j hj
        obtain ⟨inf2, d2, z2, hi2, hu2, _, rfl⟩ := Dof_spec hj
        split at h
        · rename_i hc
          simp only [Option.some.injEq] at h
          simp only [Bool.and_eq_true, beq_iff_eq] at hc
          exact ⟨n, e, inf2, d2, by rw [hu, td_arr hd], hi2, by simp [Program.cellsOf, hi2, hc.2], hc.1, h.symm, hu2⟩
        · cases h
      · cases h
    · cases h
  · cases h

theorem eqArr_run {t : Nat} {tds : List TD} {a b : List AV} {p : Bool} (ht : arrT (Dof P) t = some tds) (hfit : fitsAll tds a = true) (h : cellsEq a b = some p) {as bs : Array Value} (ha : VRels K a as.toList) (hb : VRels K b bs.toList) :
    P.eqGuardType P.depth t = false ∧ (Op.equalIn 10000 t (.agg as) (.agg bs)).run P w = .ok p w := by
  obtain ⟨n, e, inf, td, hu, hi, hc, hpl, rfl, hue⟩ := arrT_spec ht
  obtain ⟨hl, hk⟩ := fitsAll_spec _ _ hfit
  constructor
  · have : ∃ d, P.depth = d + 2 := ⟨2 * (P.types.size + Made.depth), rfl⟩
    obtain ⟨d, hd⟩ := this
    rw [hd, Program.eqGuardType]
    simp only [hu]
    exact eqGuardType_plain hpl d
  · rw [run_equalIn_array w 9999 as bs hu hi, hc, List.range_eq_range']
    refine eqItems_run 9998 hpl as bs n 0 a b p (by simpa using hl) (by simpa using ha) (by simpa using hb) h ?_
    intro x hx
    obtain ⟨j, hj⟩ := List.mem_iff_getElem?.1 hx
    have hjl : j < n := by
      obtain ⟨h1, _⟩ := List.getElem?_eq_some_iff.1 hj
      simpa [hl] using h1
    have hf := hk j (tdOf P td) x (by simp [hjl]) hj
    rw [hue]
    cases hd : tdOf P td <;> simp only [hd] at hf <;> cases x <;> simp only [fitsOne] at hf
    · rw [td_bool hd]; trivial
    · rw [td_int hd]; trivial
    · rw [td_str hd]; trivial

theorem eqAgg_run {t : Nat} {a b : List AV} {p : Bool} (h : eqAgg (Dof P) t a b = some p) {as bs : Array Value} (ha : VRels K a as.toList) (hb : VRels K b bs.toList) :
    P.eqGuardType P.depth t = false ∧ (Op.equalIn 10000 t (.agg as) (.agg bs)).run P w = .ok p w := by
  unfold eqAgg at h
  split at h
  · rename_i tds htds
    split at h
    · rename_i hfit
      obtain ⟨fields, hu, hst, rfl, hpl, hoff⟩ := flatT_spec htds
      obtain ⟨hl, hk⟩ := fitsAll_spec _ _ hfit
      have hfo : P.fieldsOf t = fields := by simp [Program.fieldsOf, hu]
      constructor
      · have : ∃ d, P.depth = d + 2 := ⟨2 * (P.types.size + Made.depth), rfl⟩
        obtain ⟨d, hd⟩ := this
        rw [hd]
        rw [Program.eqGuardType]
        simp only [hu]
        rw [← Array.any_toList]
        rw [List.any_eq_false]
        intro f hf
        have := eqGuardType_plain (hpl f hf).1 d
        simp [this]
      · rw [run_equalIn_struct w 9999 t as bs (by rw [hfo]; exact hu) hst, hfo]
        refine eqFields_run 9998 as bs fields.toList 0 a b p hpl (by rw [hoff, List.range_eq_range']; simp) (by simpa using hl) (by simpa using ha) (by simpa using hb) h ?_
        intro j f x e1 e2
        have := hk j (plainTD (Dof P) f.type) x (by simp [e1]) e2
        have hp := (hpl f (List.mem_of_getElem? e1)).1
        unfold plainT at hp
        unfold plainTD at this
        cases hD : Dof P f.type with
        | none => simp [hD] at hp
        | some i =>
          obtain ⟨inf, d, z, hi, hu', _, rfl⟩ := Dof_spec hD
          simp only [hD] at this
          rw [hu']
          cases hd : tdOf P d <;> simp only [hd] at this <;> cases x <;> simp only [fitsOne] at this
          · rw [td_bool hd]; trivial
          · rw [td_int hd]; trivial
          · rw [td_str hd]; trivial
    · cases h
  · split at h
    · rename_i tds htds
      split at h
      · rename_i hfit
        exact eqArr_run htds hfit h ha hb
      · cases h
    · cases h

theorem bin_sound {op : BinOp} {t : Nat} {x y v : AV} {x' y' : Value} (hx : VRel K x x') (hy : VRel K y y') (hf : binA (Dof P) op t x y = some v) (ox oy : Operand) :
    ∃ v', (do eqGuard op t ox oy x' y'; binOp op t x' y' : Sem Value).run P w = .ok v' w ∧ VRel K v v' := by
  have guard : ∀ {a b : Value}, (∀ s, a ≠ .agg s) → a ≠ .nilIface → (eqGuard op t ox oy a b).run P w = .ok () w := by
    intro a b h1 h2
    cases op <;> simp [eqGuard] <;> cases a <;> first | exact absurd rfl (h1 _) | exact absurd rfl h2 | rfl | simp
  unfold binA at hf
  split at hf
  · rename_i k a k' b
    simp only [VRel] at hx hy
    subst hx; subst hy
    split at hf
    · split at hf
      · cases hf
      · rename_i hb
        simp only [Option.some.injEq] at hf; subst hf
        exact ⟨.int k (k.wrap (a * 2 ^ (min b.toNat k.bits))), by rw [Sem.run_bind, guard (by simp) (by simp), Result.andThen_ok]; simp [binOp, Op.shift, hb], by simp [VRel]⟩
    · split at hf
      · cases hf
      · rename_i hb
        simp only [Option.some.injEq] at hf; subst hf
        exact ⟨.int k (a.fdiv (2 ^ (min b.toNat k.bits))), by rw [Sem.run_bind, guard (by simp) (by simp), Result.andThen_ok]; simp [binOp, Op.shift, hb], by simp [VRel]⟩
    · rename_i h1 h2
      split at hf
      · rename_i hk
        subst hk
        obtain ⟨v', e1, e2⟩ := intOp_sound (P := P) (K := K) (w := w) hf t ⟨fun e => h1 e, fun e => h2 e⟩
        exact ⟨v', by rw [Sem.run_bind, guard (by simp) (by simp), Result.andThen_ok]; exact e1, e2⟩
      · cases hf
  · rename_i a b
    simp only [VRel] at hx hy
    subst hx; subst hy
    have key : ∀ u : Value, (Op.stringOp op ⟨a.toArray⟩ ⟨b.toArray⟩).run P w = .ok u w → (do eqGuard op t ox oy (.string ⟨a.toArray⟩) (.string ⟨b.toArray⟩); binOp op t (.string ⟨a.toArray⟩) (.string ⟨b.toArray⟩) : Sem Value).run P w = .ok u w := by
      intro u hu
      rw [Sem.run_bind, guard (by simp) (by simp), Result.andThen_ok]
      cases op <;> simpa [binOp] using hu
    cases op <;> simp only [strOp] at hf
    case add =>
      split at hf
      · rename_i hl
        simp only [Option.some.injEq] at hf; subst hf
        refine ⟨.string ⟨(a ++ b).toArray⟩, key _ ?_, by simp [VRel]⟩
        have : ¬ (((⟨a.toArray⟩ : ByteArray).size + (⟨b.toArray⟩ : ByteArray).size : Nat) : Int) > IntKind.i64.max := by
          rw [str_size, str_size]; simp [IntKind.max, IntKind.signed, IntKind.bits]; omega
        simp only [Op.stringOp]
        rw [if_neg this, str_append]
        rfl
      · cases hf
    all_goals first
      | (cases hf; done)
      | (simp only [Option.some.injEq] at hf; subst hf
         exact ⟨.bool _, key _ (by simp only [Op.stringOp, str_toList, pure, Sem.run]; rfl), by simp [VRel]⟩)
  · rename_i a b
    simp only [VRel] at hx hy
    subst hx; subst hy
    have hty : plainTD (Dof P) t = .bool → P.underlying t = some .bool := by
      intro e
      unfold plainTD at e
      split at e
      · rename_i i hD
        obtain ⟨inf, d, z, hi, hu, _, rfl⟩ := Dof_spec hD
        rw [hu, td_bool e]
      · cases e
    split at hf
    · rename_i htd
      simp only [Option.some.injEq] at hf; subst hf
      exact ⟨.bool (a == b), by rw [Sem.run_bind, guard (by simp) (by simp), Result.andThen_ok]; simp [binOp, Op.equal, Op.maxDepth, run_equalIn_bool' w 9999 t a b (hty htd)], by simp [VRel]⟩
    · rename_i htd
      simp only [Option.some.injEq] at hf; subst hf
      exact ⟨.bool (!(a == b)), by rw [Sem.run_bind, guard (by simp) (by simp), Result.andThen_ok]; simp [binOp, Op.equal, Op.maxDepth, run_equalIn_bool' w 9999 t a b (hty htd)], by simp [VRel]⟩
    · cases hf
  · rename_i a b
    simp only [VRel] at hx hy
    obtain ⟨as, rfl, ha⟩ := hx
    obtain ⟨bs, rfl, hb⟩ := hy
    split at hf
    · obtain ⟨p, hp, rfl⟩ := Option.map_eq_some_iff.1 hf
      obtain ⟨e1, e2⟩ := eqAgg_run (w := w) hp ha hb
      exact ⟨.bool p, by simp only [Sem.run_bind, run_eqGuard_agg w _ t ox oy as bs e1, Result.andThen_ok, run_eql_struct, e2], by simp [VRel]⟩
    · obtain ⟨p, hp, rfl⟩ := Option.map_eq_some_iff.1 hf
      obtain ⟨e1, e2⟩ := eqAgg_run (w := w) hp ha hb
      exact ⟨.bool (!p), by simp only [Sem.run_bind, run_eqGuard_agg w _ t ox oy as bs e1, Result.andThen_ok, run_neq_struct, e2], by simp [VRel]⟩
    · cases hf
  · cases hf

theorem forIn_bytes (f : Value → ByteArray → Sem (ForInStep ByteArray)) (hf : ∀ n s, f (.int .u8 n) s = pure (ForInStep.yield (s.push (UInt8.ofNat n.toNat)))) :
    ∀ (rows : List (List AV)) (vs : List Value) (l : List UInt8) (s : ByteArray), VRels K rows.flatten vs → bytesOf rows = some l →
    (forIn vs s f : Sem ByteArray).run P w = .ok ⟨(s.data.toList ++ l).toArray⟩ w
  | [], vs, l, s, h, hl => by
    simp [bytesOf] at hl
    subst hl
    simp only [List.flatten_nil, VRels] at h
    subst h
    simp
  | r :: rows, vs, l, s, h, hl => by
    unfold bytesOf at hl
    split at hl
    · rename_i hx; simp at hx
    · rename_i n r' hx
      simp only [List.cons.injEq] at hx
      obtain ⟨rfl, rfl⟩ := hx
      obtain ⟨l', hl', rfl⟩ := Option.map_eq_some_iff.1 hl
      simp only [List.flatten_cons, List.singleton_append, VRels, VRel] at h
      obtain ⟨v, vr, rfl, rfl, h2⟩ := h
      have ih := forIn_bytes f hf rows vr l' (s.push (UInt8.ofNat n.toNat)) h2 hl'
      simp only [List.forIn_cons, hf]
      simp only [pure, Sem.run_bind, Sem.run, Result.andThen_ok]
      rw [ih]
      simp
    · cases hl

theorem conv_sound (h : WRel G w0 ro0 K σ w) {s d : Nat} {x v : AV} {x' : Value} (hx : VRel K x x') (hf : convA (Dof P) s d x = some v) :
    ∃ v', (convert s d x').run P w = .ok v' w ∧ VRel K v v' := by
  unfold convA at hf
  split at hf
  · rename_i i j k n hi hj
    obtain ⟨inf, d1, z, hi1, hu1, _, rfl⟩ := Dof_spec hi
    obtain ⟨inf2, d2, z2, hi2, hu2, _, rfl⟩ := Dof_spec hj
    simp only at hf
    split at hf
    · rename_i k1 k2 e1 e2
      simp only [Option.some.injEq] at hf; subst hf
      simp only [VRel] at hx
      subst hx
      refine ⟨.int k2 (k2.wrap n), ?_, by simp [VRel]⟩
      have e1' := td_int e1
      have e2' := td_int e2
      subst e1' e2'
      simp [convert, run_underlying hu1, run_underlying hu2, Conv.intToInt]
    · cases hf
  · rename_i i j l hi hj
    obtain ⟨inf, d1, z, hi1, hu1, _, rfl⟩ := Dof_spec hi
    obtain ⟨inf2, d2, z2, hi2, hu2, _, rfl⟩ := Dof_spec hj
    simp only at hf
    split at hf
    · rename_i e1 e2
      simp only [Option.some.injEq] at hf; subst hf
      simp only [VRel] at hx
      subst hx
      refine ⟨.string ⟨l.toArray⟩, ?_, by simp [VRel]⟩
      have e1' := td_str e1
      have e2' := td_str e2
      subst e1' e2'
      simp [convert, run_underlying hu1, run_underlying hu2]
    · cases hf
  · rename_i i j rows tok hi hj
    obtain ⟨inf, d1, z, hi1, hu1, _, rfl⟩ := Dof_spec hi
    obtain ⟨inf2, d2, z2, hi2, hu2, _, rfl⟩ := Dof_spec hj
    simp only at hf
    split at hf
    · rename_i e e1 e2
      have e1' := td_sl e1
      have e2' := td_str e2
      subst e1' e2'
      split at hf
      · rename_i m hm
        obtain ⟨inf3, d3, z3, hi3, hu3, _, rfl⟩ := Dof_spec hm
        simp only at hf
        split at hf
        · rename_i e3
          have e3' := td_int e3
          subst e3'
          obtain ⟨l, hl, rfl⟩ := Option.map_eq_some_iff.1 hf
          simp only [VRel] at hx
          rcases hx with ⟨⟨a0, rfl, _⟩, rfl, _⟩ | ⟨B, off, cap, rfl, hcap, hrows, _⟩
          · simp [bytesOf] at hl
            subst hl
            refine ⟨.string .empty, ?_, by simp [VRel]; rfl⟩
            cases a0 <;> simp [convert, run_underlying hu1, run_underlying hu2, run_underlying hu3, Conv.bytesToString, loadCells, loadCellsFrom]
          · obtain ⟨f1, f2, f3⟩ := RowsAt.flat B 1 rows off hrows
            obtain ⟨vs, g1, g2⟩ := Lies.of_cellsAt h.ro B _ off f1
            have hcl := run_loadCells_list (P := P) w ⟨B, off, none⟩ vs (fun j v e => by rw [addr_add]; exact g2 j v e)
            have hlen : vs.length = rows.length := by rw [g1.length, f2]; omega
            rw [hlen] at hcl
            refine ⟨.string ⟨l.toArray⟩, ?_, by simp [VRel]⟩
            simp only [convert, run_underlying hu1, run_underlying hu2, run_underlying hu3, Conv.bytesToString, Sem.run_bind, Result.andThen_ok, hcl]
            rw [← Array.forIn_toList]
            simp only []
            rw [forIn_bytes (P := P) (w := w) _ (fun n s => rfl) rows _ l ByteArray.empty (by simpa using g1) hl]
            simp [ByteArray.empty, ByteArray.emptyWithCapacity]
            rfl
        · cases hf
      · cases hf
    · cases hf
  · cases hf

end
end
section

section
variable {P : Program} {G : Nat → AV} {w0 : World} {ro0 : Nat → Nat → Option Value} {K : Kn} {σ : St} {w w' : World}

theorem run_sliceBound {k : IntKind} {n : Int} {y : Nat} (h0 : 0 ≤ n) (h1 : n ≤ y) (c : BoundsCode) : (Instr.sliceBound (.int k n) y c).run P w = .ok n.toNat w := by
  simp [Instr.sliceBound, asIntOf, h0, h1]

/-- What the three bounds come to. -/
theorem run_sliceBounds {isS : Bool} {len cap : Nat} {lo hi mx : Option AV} {lo' hi' mx' : Option Value} (hlo : ∀ a, lo = some a → ∃ v, lo' = some v ∧ VRel K a v) (hlo0 : lo = none → lo' = none)
    (hhi : ∀ a, hi = some a → ∃ v, hi' = some v ∧ VRel K a v) (hhi0 : hi = none → hi' = none) (hmx : ∀ a, mx = some a → ∃ v, mx' = some v ∧ VRel K a v) (hmx0 : mx = none → mx' = none)
    {l h : Int} (el : boundA lo 0 = some l) (eh : boundA hi len = some h)
    (hle : 0 ≤ l ∧ l ≤ h ∧ h ≤ len) (hlc : len ≤ cap) (em : ∀ a, mx = some a → asIntA a = some h ∧ hi.isSome) :
    (Instr.sliceBounds isS len cap lo' hi' mx').run P w = .ok (l.toNat, h.toNat, if mx.isSome then h.toNat else cap) w := by
  obtain ⟨h1, h2, h3⟩ := hle
  have hlb : ∀ c, (match lo' with | some v => Instr.sliceBound v h.toNat c | none => (pure 0 : Sem Nat)).run P w = .ok l.toNat w := by
    intro c
    cases lo with
    | none =>
      rw [hlo0 rfl]
      simp [boundA] at el
      subst el
      simp
    | some a =>
      obtain ⟨v, rfl, hv⟩ := hlo a rfl
      obtain ⟨k, rfl⟩ := asInt_spec el hv
      exact run_sliceBound h1 (by omega) c
  cases mx with
  | none =>
    rw [hmx0 rfl]
    cases hi with
    | none =>
      rw [hhi0 rfl]
      simp only [boundA, Option.some.injEq] at eh
      subst eh
      have := hlb .sliceB
      cases hl' : lo' with
      | none => simp [hl'] at this; simp [Instr.sliceBounds]; omega
      | some v => simp [hl'] at this; simp [Instr.sliceBounds, this]
    | some a =>
      obtain ⟨v, rfl, hv⟩ := hhi a rfl
      obtain ⟨k, rfl⟩ := asInt_spec eh hv
      have hb := fun c => run_sliceBound (P := P) (w := w) (k := k) (n := h) (y := cap) (by omega) (by omega) c
      have := hlb .sliceB
      cases hl' : lo' with
      | none => simp [hl'] at this; simp [Instr.sliceBounds, hb]; omega
      | some v => simp [hl'] at this; simp [Instr.sliceBounds, hb, this]
  | some a =>
    obtain ⟨v, rfl, hv⟩ := hmx a rfl
    obtain ⟨e1, e2⟩ := em a rfl
    obtain ⟨k, rfl⟩ := asInt_spec e1 hv
    cases hi with
    | none => simp at e2
    | some b =>
      obtain ⟨u, rfl, hu⟩ := hhi b rfl
      obtain ⟨k', rfl⟩ := asInt_spec eh hu
      have hb := fun c => run_sliceBound (P := P) (w := w) (k := k) (n := h) (y := cap) (by omega) (by omega) c
      have hb' := fun c => run_sliceBound (P := P) (w := w) (k := k') (n := h) (y := h.toNat) (by omega) (by omega) c
      have := hlb .slice3C
      cases hl' : lo' with
      | none => simp [hl'] at this; simp [Instr.sliceBounds, hb, hb']; omega
      | some v => simp [hl'] at this; simp [Instr.sliceBounds, hb, hb', this]

theorem RowsAt.sub {B sz : Nat} {rows : List (List AV)} {off : Nat} (h : RowsAt K B off sz rows) (l n : Nat) : RowsAt K B (off + l * sz) sz ((rows.take n).drop l) := by
  refine RowsAt.intro B sz _ _ fun i r e => ?_
  rw [List.getElem?_drop, List.getElem?_take] at e
  split at e
  · obtain ⟨h1, h2, h3⟩ := RowsAt.get B sz rows off h _ _ e
    exact ⟨h1, h2, by rw [Nat.add_mul] at h3; rwa [Nat.add_assoc]⟩
  · cases e

theorem opt_rel {N : Nat} {env : Env} {a : Act} (hw : WRel G w0 ro0 K σ w) (he : ERel K N env a) (o : Option Operand) :
    (∀ x, o.map (ev G env) = some x → ∃ v, o.map a.eval = some v ∧ VRel K x v) ∧ (o.map (ev G env) = none → o.map a.eval = none) := by
  cases o with
  | none => simp
  | some x => exact ⟨fun y e => by simp at e; subst e; exact ⟨_, rfl, ev_rel hw he x⟩, by simp⟩

theorem slice_str {t : Nat} (hu : P.underlying t = some .string) {s : List UInt8} {lo hi mx : Option AV} {lo' hi' mx' : Option Value} (hlo : ∀ a, lo = some a → ∃ v, lo' = some v ∧ VRel K a v) (hlo0 : lo = none → lo' = none)
    (hhi : ∀ a, hi = some a → ∃ v, hi' = some v ∧ VRel K a v) (hhi0 : hi = none → hi' = none) (hmx0 : mx = none → mx' = none)
    {v : AV} (hf : sliceA (.str s) lo hi mx = some v) : ∃ v', (Instr.sliceAt t (.string ⟨s.toArray⟩) lo' hi' mx').run P w = .ok v' w ∧ VRel K v v' := by
  unfold sliceA at hf
  simp only at hf
  split at hf
  · rename_i l h el eh
    split at hf
    · rename_i hc
      simp only [Option.some.injEq] at hf
      subst hf
      rw [hmx0 rfl]
      have hb := run_sliceBounds (P := P) (w := w) (K := K) (isS := false) (len := s.length) (cap := s.length) hlo hlo0 hhi hhi0 (mx := none) (mx' := none) (by simp) (by simp) el eh hc (Nat.le_refl _) (by simp)
      refine ⟨.string ⟨((s.take h.toNat).drop l.toNat).toArray⟩, ?_, by simp [VRel]⟩
      simp only [Option.isSome_none, Bool.false_eq_true, if_false] at hb
      simp only [Instr.sliceAt, Instr.slice, Sem.run_bind, run_underlying hu, Result.andThen_ok, str_size]
      simp only [Option.isSome_none, Bool.false_eq_true, if_false, Sem.run_bind, pure, Sem.run, Result.andThen_ok, hb]
      rw [str_extract]
    · cases hf
  · cases hf

theorem slice_sl {t e : Nat} (hu : P.underlying t = some (.slice e)) {inf : TypeInfo} (hi2 : P.info? e = some inf) {sz : Nat} {rows : List (List AV)} {tok : Tok} (hsz : sz = inf.size ∨ rows = [])
    {x' : Value} (hx : VRel K (.sl sz rows tok) x')
    {lo hi mx : Option AV} {lo' hi' mx' : Option Value} (hlo : ∀ a, lo = some a → ∃ v, lo' = some v ∧ VRel K a v) (hlo0 : lo = none → lo' = none)
    (hhi : ∀ a, hi = some a → ∃ v, hi' = some v ∧ VRel K a v) (hhi0 : hi = none → hi' = none) (hmx : ∀ a, mx = some a → ∃ v, mx' = some v ∧ VRel K a v) (hmx0 : mx = none → mx' = none)
    {v : AV} (hf : sliceA (.sl sz rows tok) lo hi mx = some v) : ∃ v', (Instr.sliceAt t x' lo' hi' mx').run P w = .ok v' w ∧ VRel K v v' := by
  unfold sliceA at hf
  simp only at hf
  split at hf
  · rename_i l h el eh
    split at hf
    · rename_i hc
      obtain ⟨c1, c2, c3, c4⟩ := hc
      simp only [Option.some.injEq] at hf
      subst hf
      have hmm : ∀ a, mx = some a → asIntA a = some h ∧ hi.isSome := by
        intro a ha
        subst ha
        simpa [thirdA] using c4
      simp only [VRel] at hx
      rcases hx with ⟨⟨a0, rfl, ha0⟩, rfl, htok⟩ | ⟨B, off, cap, rfl, hcap, hrows, htok⟩
      · have hb := run_sliceBounds (P := P) (w := w) (K := K) (isS := true) (len := 0) (cap := 0) hlo hlo0 hhi hhi0 hmx hmx0 el (by simpa using eh) ⟨c1, c2, by simpa using c3⟩ (Nat.le_refl _) hmm
        have hl0 : l.toNat = 0 := by simp at c3; omega
        have hh0 : h.toNat = 0 := by simp at c3; omega
        rw [hl0, hh0] at hb
        refine ⟨.slice a0 0 0, ?_, ?_⟩
        · simp only [Instr.sliceAt, Instr.slice, Sem.run_bind, run_underlying hu, Result.andThen_ok, hb]
          cases a0 <;> simp [sizeOf, typeInfo, hi2]
        · simp only [VRel]
          refine .inl ⟨⟨a0, rfl, ?_⟩, by simp, ?_⟩
          · rcases ha0 with rfl | rfl
            · exact .inl rfl
            · refine .inr ?_
              rw [hl0, hh0]
              cases mx <;> simp [sliceTok, Tok.known]
          · rw [hl0, hh0]
            cases mx <;> cases tok <;> simp [sliceTok, Tok.known, Tok.plain] <;> exact htok.elim
      · have hb := run_sliceBounds (P := P) (w := w) (K := K) (isS := true) (len := rows.length) (cap := cap) hlo hlo0 hhi hhi0 hmx hmx0 el eh ⟨c1, c2, c3⟩ hcap hmm
        have hln : l.toNat ≤ h.toNat := by omega
        have hhn : h.toNat ≤ rows.length := by omega
        have hM : h.toNat ≤ (if mx.isSome then h.toNat else cap) := by split <;> omega
        have hMc : (if mx.isSome then h.toNat else cap) ≤ cap := by split <;> omega
        generalize hMe : (if mx.isSome then h.toNat else cap) = M at hb hM hMc
        have hrl : ((rows.take h.toNat).drop l.toNat).length = h.toNat - l.toNat := by simp; omega
        refine ⟨.slice (some ⟨B, if M = l.toNat then off else off + l.toNat * inf.size, none⟩) (h.toNat - l.toNat) (M - l.toNat), ?_, ?_⟩
        · simp only [Instr.sliceAt, Instr.slice, Sem.run_bind, run_underlying hu, Result.andThen_ok, hb]
          simp [sizeOf, typeInfo, hi2, addr_add]
          split <;> rfl
        · simp only [VRel]
          refine .inr ⟨B, _, M - l.toNat, by rw [hrl], by rw [hrl]; omega, ?_, ?_⟩
          · by_cases he : M = l.toNat
            · have : (rows.take h.toNat).drop l.toNat = [] := List.eq_nil_of_length_eq_zero (by rw [hrl]; omega)
              rw [this]; simp [RowsAt]
            · rw [if_neg he]
              rcases hsz with hsz | hsz
              · rw [← hsz]; exact RowsAt.sub hrows _ _
              · subst hsz; simp [RowsAt]
          · rw [hrl]
            cases hms : mx.isSome with
            | true =>
              rw [hms] at hMe
              simp only [if_true] at hMe
              simp only [if_true, sliceTok]
              by_cases hcn : True ∧ (0 < rows.length ∨ tok.known = true)
              · rw [if_pos hcn]; simp only [TokOk]; omega
              · rw [if_neg hcn]; trivial
            | false =>
              rw [hms] at hMe
              simp only [Bool.false_eq_true, if_false] at hMe
              simp only [Bool.false_eq_true, if_false, sliceTok]
              cases tok with
              | none => trivial
              | nil => trivial
              | tight =>
                by_cases hn : h.toNat = rows.length
                · simp only [if_pos hn, TokOk] at htok ⊢; omega
                · simp only [if_neg hn, TokOk]
              | chain ct ck =>
                by_cases hn : l.toNat = 0 ∧ h.toNat = rows.length
                · simp only [if_pos hn]
                  obtain ⟨h01, h02⟩ := hn
                  rw [h01, h02]
                  simp only [Nat.zero_mul, Nat.add_zero, Nat.sub_zero, ite_self, ← hMe]
                  exact htok
                · simp only [if_neg hn, TokOk]
    · cases hf
  · cases hf

theorem slice_ms {t e : Nat} (hu : P.underlying t = some (.slice e)) {inf : TypeInfo} (hi2 : P.info? e = some inf) {b off len : Nat}
    {x' : Value} (hx : VRel K (.ms b off len inf.size) x')
    {lo hi mx : Option AV} {lo' hi' mx' : Option Value} (hlo : ∀ a, lo = some a → ∃ v, lo' = some v ∧ VRel K a v) (hlo0 : lo = none → lo' = none)
    (hhi : ∀ a, hi = some a → ∃ v, hi' = some v ∧ VRel K a v) (hhi0 : hi = none → hi' = none) (hmx0 : mx = none → mx' = none)
    {v : AV} (hf : sliceA (.ms b off len inf.size) lo hi mx = some v) : ∃ v', (Instr.sliceAt t x' lo' hi' mx').run P w = .ok v' w ∧ VRel K v v' := by
  unfold sliceA at hf
  simp only at hf
  split at hf
  · rename_i l h el eh
    split at hf
    · rename_i hc
      obtain ⟨c1, c2, c3, c4⟩ := hc
      simp only [Option.some.injEq] at hf
      subst hf
      rw [hmx0 rfl]
      simp only [VRel] at hx
      obtain ⟨B, cap, hm, rfl, hcap, hpos, hbs⟩ := hx
      have hb := run_sliceBounds (P := P) (w := w) (K := K) (isS := true) (len := len) (cap := cap) hlo hlo0 hhi hhi0 (mx := none) (mx' := none) (by simp) (by simp) el eh ⟨c1, c2, c3⟩ hcap (by simp)
      simp only [Option.isSome_none, Bool.false_eq_true, if_false] at hb
      have hne : ¬ cap = l.toNat := by omega
      refine ⟨.slice (some ⟨B, off + l.toNat * inf.size, none⟩) (h.toNat - l.toNat) (cap - l.toNat), ?_, ?_⟩
      · simp only [Instr.sliceAt, Instr.slice, Sem.run_bind, run_underlying hu, Result.andThen_ok, hb]
        simp [sizeOf, typeInfo, hi2, addr_add, hne]
      · simp only [VRel]
        refine ⟨B, cap - l.toNat, hm, rfl, by omega, by omega, ?_⟩
        have : cap * inf.size = l.toNat * inf.size + (cap - l.toNat) * inf.size := by rw [← Nat.add_mul]; congr 1; omega
        omega
    · rename_i hc1
      split at hf
      · rename_i hc
        obtain ⟨c1, c2⟩ := hc
        simp only [Option.some.injEq] at hf
        subst hf
        rw [hmx0 rfl]
        simp only [VRel] at hx
        obtain ⟨B, cap, hm, rfl, hcap, hpos, hbs⟩ := hx
        have hb := run_sliceBounds (P := P) (w := w) (K := K) (isS := true) (len := len) (cap := cap) hlo hlo0 hhi hhi0 (mx := none) (mx' := none) (by simp) (by simp) el eh ⟨by omega, by omega, by omega⟩ hcap (by simp)
        simp only [Option.isSome_none, Bool.false_eq_true, if_false] at hb
        refine ⟨.slice (some (if cap = l.toNat then ⟨B, off, none⟩ else ⟨B, off + l.toNat * inf.size, none⟩)) (h.toNat - l.toNat) (cap - l.toNat), ?_, ?_⟩
        · simp only [Instr.sliceAt, Instr.slice, Sem.run_bind, run_underlying hu, Result.andThen_ok, hb]
          by_cases hcl : cap = l.toNat <;> simp [sizeOf, typeInfo, hi2, addr_add, hcl]
        · have e0 : h.toNat - l.toNat = 0 := by omega
          simp only [VRel]
          right
          by_cases hcl : cap = l.toNat
          · exact ⟨B, off, cap - l.toNat, by rw [if_pos hcl, e0]; rfl, by simp, by simp [RowsAt], by simp [TokOk]⟩
          · exact ⟨B, off + l.toNat * inf.size, cap - l.toNat, by rw [if_neg hcl, e0]; rfl, by simp, by simp [RowsAt], by simp [TokOk]⟩
      · cases hf
  · cases hf

theorem len_sound (h : WRel G w0 ro0 K σ w) {t : Nat} {x v : AV} {x' : Value} (hx : VRel K x x') (ty : Nat) (hf : lenA (Dof P) σ t x = some v) :
    ∃ v', (Builtin.len_ #[t] ty #[x']).run P w = .ok v' w ∧ VRel K v v' := by
  unfold lenA at hf
  split at hf
  · rename_i i hD
    obtain ⟨inf, d, z, hi, hu, _, rfl⟩ := Dof_spec hD
    simp only at hf
    split at hf
    · rename_i s hd
      have := td_str hd; subst this
      simp only [Option.some.injEq] at hf; subst hf
      simp only [VRel] at hx; subst hx
      exact ⟨.int .i64 s.length, by simp [Builtin.len_, run_underlying hu, goInt, str_size], by simp [VRel]⟩
    · rename_i e sz rows tok hd
      have := td_sl hd; subst this
      simp only [Option.some.injEq] at hf; subst hf
      simp only [VRel] at hx
      rcases hx with ⟨⟨a0, rfl, _⟩, rfl, _⟩ | ⟨B, off, cap, rfl, _⟩
      · exact ⟨.int .i64 0, by simp [Builtin.len_, run_underlying hu, goInt], by simp [VRel]⟩
      · exact ⟨.int .i64 rows.length, by simp [Builtin.len_, run_underlying hu, goInt], by simp [VRel]⟩
    · rename_i e b off len sz hd
      have := td_sl hd; subst this
      simp only [Option.some.injEq] at hf; subst hf
      simp only [VRel] at hx
      obtain ⟨B, cap, hm, rfl, _⟩ := hx
      exact ⟨.int .i64 len, by simp [Builtin.len_, run_underlying hu, goInt], by simp [VRel]⟩
    · rename_i n e hd
      have := td_arr hd; subst this
      simp only [Option.some.injEq] at hf; subst hf
      exact ⟨.int .i64 n, by simp [Builtin.len_, run_underlying hu, goInt], by simp [VRel]⟩
    · rename_i k e hd
      have := td_map hd; subst this
      simp only [Option.some.injEq] at hf; subst hf
      simp only [VRel] at hx; subst hx
      exact ⟨.int .i64 0, by simp [Builtin.len_, run_underlying hu, goInt], by simp [VRel]⟩
    · rename_i k e b hd
      have := td_map hd; subst this
      split at hf
      · rename_i es clock hb
        simp only [Option.some.injEq] at hf; subst hf
        simp only [VRel] at hx
        obtain ⟨B, hm, rfl⟩ := hx
        obtain ⟨B', h1, _, _, ⟨es', h4, h5, _⟩, _⟩ := h.blk b _ hb
        rw [hm] at h1; cases h1
        exact ⟨.int .i64 es.length, by simp [Builtin.len_, run_underlying hu, goInt, getObj, Sem.run, h4, h5], by simp [VRel]⟩
      · cases hf
    · cases hf
  · cases hf

theorem min_sound {x y v : AV} {x' y' : Value} (hx : VRel K x x') (hy : VRel K y y') (ts : Array Nat) (ty : Nat) (hf : min2A x y = some v) :
    ∃ v', (Builtin.min_ ts ty #[x', y']).run P w = .ok v' w ∧ VRel K v v' := by
  unfold min2A at hf
  split at hf
  · rename_i k a k' b
    simp only [Option.some.injEq] at hf; subst hf
    simp only [VRel] at hx hy; subst hx; subst hy
    exact ⟨.int k (if b < a then b else a), by simp [Builtin.min_, Builtin.min2], by simp [VRel]⟩
  · cases hf

theorem min3_sound {x y z v : AV} {x' y' z' : Value} (hx : VRel K x x') (hy : VRel K y y') (hz : VRel K z z') (ts : Array Nat) (ty : Nat) (hf : min3A x y z = some v) :
    ∃ v', (Builtin.min_ ts ty #[x', y', z']).run P w = .ok v' w ∧ VRel K v v' := by
  unfold min3A at hf
  split at hf
  · rename_i k a k' b k'' c
    simp only [Option.some.injEq] at hf; subst hf
    simp only [VRel] at hx hy hz; subst hx; subst hy; subst hz
    exact ⟨.int k (if c < (if b < a then b else a) then c else if b < a then b else a), by simp [Builtin.min_, Builtin.min2], by simp [VRel]⟩
  · cases hf

theorem max_sound {x y v : AV} {x' y' : Value} (hx : VRel K x x') (hy : VRel K y y') (ts : Array Nat) (ty : Nat) (hf : max2A x y = some v) :
    ∃ v', (Builtin.max_ ts ty #[x', y']).run P w = .ok v' w ∧ VRel K v v' := by
  unfold max2A at hf
  split at hf
  · rename_i k a k' b
    simp only [Option.some.injEq] at hf; subst hf
    simp only [VRel] at hx hy; subst hx; subst hy
    exact ⟨.int k (if b > a then b else a), by simp [Builtin.max_, Builtin.max2], by simp [VRel]⟩
  · cases hf
end
end
end Go.Abs
end
