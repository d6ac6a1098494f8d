/- A part of the proof. -/
import Derived.Test.YtpjdjolphpfanaaGreatDoorGa03
import Derived.Laws.AppendOwn
set_option linter.unusedVariables false
set_option linter.unusedSimpArgs false
set_option linter.defProp false
section
namespace Go.Abs
open Go Go.RowKit
section

section
variable {P : Program} {G : Nat → AV} {w0 : World} {ro0 : Nat → Nat → Option Value} {K : Kn} {σ : St} {w w' : World}

/-- The kit's 'run_append_room', the row's own type left open. -/
theorem run_append_room' (t ty e el : TypeId) (i : TypeInfo) (ht : P.underlying t = some (.slice e)) (hi : P.info? e = some i)
    (g sLen sCap : Nat) (cur : Array Value) (hg : w.heap[g]? = some (.cells cur el (0, 0)))
    (a : Addr) (m c : Nat) (news : List Value) (hl : news.length = m * i.size) (hnews : ∀ (j : Nat) (u : Value), news[j]? = some u → w.cell? (a.add j) = some u) (h1 : ∀ u ∈ news, u.oneCell' = true)
    (hroom : sLen + m ≤ sCap) (hfit : sLen * i.size + news.length ≤ cur.size) :
    (Builtin.append_ #[t, t] ty #[.slice (some ⟨g, 0, none⟩) sLen sCap, .slice (some a) m c]).run P w =
      .ok (.slice (some ⟨g, 0, none⟩) (sLen + m) sCap) (w.setRow g (cur.toList.take (sLen * i.size) ++ news ++ cur.toList.drop (sLen * i.size + news.length)).toArray) := by
  have hf := run_firstCells_some (P := P) w i.size m a m c news hl hnews
  have hst := run_storeCells_at P g (sLen * i.size) el news 0 cur w hg (by simpa using hfit) h1
  simp only [Nat.add_zero] at hst
  simp [Builtin.append_, run_underlying ht, sizeOf, typeInfo, hi, Builtin.lenOf, hroom, hf, Addr.add_lit, hst]

/-- What is read of rows in memory. -/
theorem rows_read (h : WRel G w0 ro0 K σ w) {B off sz : Nat} {rows : List (List AV)} (hr : RowsAt K B off sz rows) :
    ∃ vs : List Value, VRels K rows.flatten vs ∧ vs.length = rows.length * sz ∧ (∀ (j : Nat) (v : Value), vs[j]? = some v → w.cell? ((⟨B, off, none⟩ : Addr).add j) = some v) ∧
      rows.flatten.all AV.atom = true ∧ ∀ v ∈ vs, v.oneCell' = true := by
  obtain ⟨f1, f2, f3⟩ := RowsAt.flat B sz rows off hr
  obtain ⟨vs, g1, g2⟩ := Lies.of_cellsAt h.ro B _ off f1
  exact ⟨vs, g1, by rw [g1.length, f2], fun j v e => by rw [addr_add]; exact g2 j v e, f3, g1.oneCells f3⟩

theorem rows_len {B off sz : Nat} {rows : List (List AV)} (hr : RowsAt K B off sz rows) : ∀ r ∈ rows, r.length = sz := by
  intro r hx
  obtain ⟨i, hi⟩ := List.getElem?_of_mem hx
  exact (RowsAt.get B sz rows off hr i r hi).1

/-- The value behind growth into a new block. -/
theorem grown_rel {B' sz k t n newCap : Nat} {rows : List (List AV)} {vs : List Value} {K' : Kn} (hv : VRels K rows.flatten vs) (hl : vs.length = rows.length * sz) (hrl : ∀ r ∈ rows, r.length = sz) (hat : rows.flatten.all AV.atom = true)
    (hle : K.le K') (hro : ∀ (j : Nat) (v : Value), vs[j]? = some v → K'.ro B' j = some v) (hcap : rows.length ≤ newCap) (ht : t < K'.nch) (C : Chn) (hC : K'.ch t = some C) (hCk : C.k = k) (hCB : C.B = B') (hCs : C.sz = sz)
    (hCf : C.fin = vs.length) (hCc : C.cap = newCap * sz) : VRel K' (.sl sz rows (.chain t k)) (.slice (some ⟨B', 0, none⟩) rows.length newCap) := by
  simp only [VRel]
  refine .inr ⟨B', 0, newCap, rfl, hcap, rows_of_flat rows 0 hrl hat (CellsAt.intro B' _ 0 fun i a e => ?_), ?_⟩
  · obtain ⟨v, e1, e2⟩ := hv.get i a e
    exact ⟨v, by simpa using hro i v e1, e2.mono hle⟩
  · refine ⟨ht, fun C' hC' => ?_⟩
    rw [hC] at hC'
    cases hC'
    exact ⟨by omega, fun _ => ⟨hCB, hCs, rfl, by rw [hCf, hl], hCc.symm⟩⟩

theorem append_sound (h : WRel G w0 ro0 K σ w) {t : Nat} {s x v : AV} {s' x' : Value} (hs : VRel K s s') (hx : VRel K x x') (ty : Nat) {σ' : St} (hf : appendA (Dof P) σ t s x = some (v, σ')) :
    Ran P G w0 ro0 K w (Builtin.append_ #[t, t] ty #[s', x']) v σ' := by
  unfold appendA at hf
  split at hf
  · rename_i i sz rows tok sz2 rows2 hD hro
    obtain ⟨inf, d, z, hi, hu, _, rfl⟩ := Dof_spec hD
    simp only at hf
    split at hf
    · rename_i e hd
      have hd' := td_sl hd
      subst hd'
      split at hf
      · rename_i j hj
        obtain ⟨inf2, d2, z2, hi2, hu2, hz2, rfl⟩ := Dof_spec hj
        simp only at hf
        split at hf
        · rename_i hc
          obtain ⟨hc1, hc2, hc3, hc4, hc5, hc6⟩ := hc
          have hzs : z2.cells.size = inf2.size := by simpa using hc4
          cases x <;> simp only [rowsOf] at hro <;> try (cases hro; done)
          rename_i szx rowsx tokx
          simp only [Option.some.injEq, Prod.mk.injEq] at hro
          obtain ⟨rfl, rfl⟩ := hro
          split at hf
          · -- nothing is appended
            rename_i hn
            subst hn
            simp only [Option.some.injEq, Prod.mk.injEq] at hf
            obtain ⟨rfl, rfl⟩ := hf
            refine Ran.same h (v' := s') ?_ hs
            have hx0 : ∃ bx cx, x' = .slice bx 0 cx := by
              simp only [VRel] at hx
              rcases hx with ⟨⟨a0, rfl, _⟩, _⟩ | ⟨B2, off2, cap2, rfl, _⟩
              · exact ⟨_, _, rfl⟩
              · exact ⟨_, _, rfl⟩
            obtain ⟨bx, cx, rfl⟩ := hx0
            have hf0 : (Builtin.firstCells inf2.size 0 (.slice bx 0 cx)).run P w = .ok #[] w := by
              cases bx <;> simp [Builtin.firstCells, loadCells, loadCellsFrom]
            simp only [VRel] at hs
            rcases hs with ⟨⟨a0, rfl, _⟩, rfl, _⟩ | ⟨B, off, cap, rfl, hcap, _⟩
            · cases a0 <;> simp [storeCells, Builtin.append_, run_underlying hu, sizeOf, typeInfo, hi2, Builtin.lenOf, hf0]
            · simp [Builtin.append_, run_underlying hu, sizeOf, typeInfo, hi2, Builtin.lenOf, hcap, hf0, storeCells]
          · rename_i hn
            have hnpos : 0 < rowsx.length := List.length_pos_iff.2 hn
            have hszx : szx = inf2.size := hc2.resolve_right hn
            subst hszx
            simp only [VRel] at hx
            rcases hx with ⟨_, rfl, _⟩ | ⟨B2, off2, cap2, rfl, hcap2, hrows2, _⟩
            · exact absurd rfl hn
            obtain ⟨news, n1, n2, n3, n4, n5⟩ := rows_read h hrows2
            have hn48 : rowsx.length * inf2.bytes ≤ 140737488355328 := by
              calc rowsx.length * inf2.bytes ≤ 549755813888 * 256 := Nat.mul_le_mul (by omega) hc5
                _ ≤ 140737488355328 := by omega
            have hb48 : (rows.length + rowsx.length) * inf2.bytes ≤ 140737488355328 := by
              calc (rows.length + rowsx.length) * inf2.bytes ≤ 549755813888 * 256 := Nat.mul_le_mul hc6 hc5
                _ ≤ 140737488355328 := by omega
            have rl2 := rows_len hrows2
            -- growth into a new block, from whatever is there
            have grow : ∀ (olds : List Value) (tt k n : Nat) (T' : List (Option Nat)), VRels K rows.flatten olds → olds.length = rows.length * inf2.size → (∀ r ∈ rows, r.length = inf2.size) → rows.flatten.all AV.atom = true →
                (∀ u k', T'[u]? = some (some k') → (u = tt ∧ k' = k) ∨ (u ≠ tt ∧ σ.T[u]? = some (some k'))) → T'[tt]? = some (some k) → (∀ u C, u ≠ tt → K.ch u = some C → ∃ k', T'[u]? = some (some k')) → n = T'.length → K.nch ≤ n → tt < n →
                (tt < K.nch → ∃ C, K.ch tt = some C ∧ C.k < k) → ∀ old : Nat,
                ∃ K', K.le K' ∧ WRel G w0 ro0 K' { σ with T := T' } (w.drew.alloc (.cells (olds.toArray ++ news.toArray ++ Builtin.zeroCells z2.cells (grownCap w (rows.length + rowsx.length) old e - (rows.length + rowsx.length))) e)) ∧
                  VRel K' (.sl inf2.size (rows ++ rowsx) (.chain tt k)) (.slice (some ⟨w.heap.size, 0, none⟩) (rows.length + rowsx.length) (grownCap w (rows.length + rowsx.length) old e)) := by
              intro olds tt k n T' o1 o2 rl1 oa hT hTt hTk hn' hnch htn hk old
              have hge := grownCap_ge w (rows.length + rowsx.length) old e
              generalize hcapN : grownCap w (rows.length + rowsx.length) old e = newCap at hge
              have hsize : (olds.toArray ++ news.toArray ++ Builtin.zeroCells z2.cells (newCap - (rows.length + rowsx.length))).size = newCap * inf2.size := by
                simp only [Array.size_append, List.size_toArray, size_zeroCells, hzs, o2, n2, ← Nat.add_mul]
                congr 1
                omega
              have hvl : (olds ++ news).length = (rows ++ rowsx).length * inf2.size := by simp [o2, n2, Nat.add_mul]
              obtain ⟨w1, w2⟩ := h.drew.chainNew (olds ++ news) (olds.toArray ++ news.toArray ++ Builtin.zeroCells z2.cells (newCap - (rows.length + rowsx.length))) e
                (fun j v ev => by
                  have hjl := (List.getElem?_eq_some_iff.1 ev).1
                  rw [Array.getElem?_append_left (by simpa using hjl), ← ev]
                  simp) tt k n T' hT hTt hTk hn' hnch hk inf2.size (by
                    rw [hsize, hvl]
                    simp only [List.length_append]
                    exact Nat.mul_le_mul_right _ hge)
              refine ⟨_, w2, w1, ?_⟩
              have := grown_rel (K := K) (B' := w.heap.size) (sz := inf2.size) (k := k) (t := tt) (n := n) (newCap := newCap) (rows := rows ++ rowsx) (vs := olds ++ news)
                (by rw [List.flatten_append]; exact o1.append n1) hvl (fun r hr => by rcases List.mem_append.1 hr with hr | hr; exact rl1 r hr; exact rl2 r hr) (by rw [List.flatten_append, List.all_append, oa, n4]; rfl)
                w2 (fun j v ev => by
                  have hjl := (List.getElem?_eq_some_iff.1 ev).1
                  show (if w.drew.heap.size = w.drew.heap.size ∧ 0 ≤ j ∧ j < 0 + (olds ++ news).length then (olds ++ news)[j - 0]? else K.ro w.heap.size j) = some v
                  rw [if_pos ⟨rfl, by omega, by omega⟩]
                  exact ev) (by simpa using hge) htn ⟨k, w.heap.size, (olds ++ news).length, (olds.toArray ++ news.toArray ++ Builtin.zeroCells z2.cells (newCap - (rows.length + rowsx.length))).size, inf2.size⟩ (if_pos rfl) rfl rfl rfl rfl hsize
              simpa using this
            split at hf
            · cases hf
            · -- the nil slice
              simp only [Option.some.injEq, Prod.mk.injEq] at hf
              obtain ⟨rfl, rfl⟩ := hf
              simp only [VRel] at hs
              rcases hs with ⟨⟨a0, rfl, ha0⟩, rfl, _⟩ | ⟨B, off, cap, rfl, hcap, hrows, htok⟩
              · obtain rfl := ha0.resolve_right (by simp)
                obtain ⟨K', k1, k2, k3⟩ := grow [] σ.T.length rowsx.length (σ.T.length + 1) (σ.T ++ [some rowsx.length]) (by simp [VRels]) (by simp) (by simp) (by simp)
                  (fun u k' eu => by
                    rw [List.getElem?_append] at eu
                    split at eu
                    · rename_i hu'; exact .inr ⟨by omega, eu⟩
                    · rename_i hu'
                      have : u - σ.T.length = 0 := by
                        rcases Nat.eq_zero_or_pos (u - σ.T.length) with h0 | h0
                        · exact h0
                        · rw [List.getElem?_eq_none (by simp; omega)] at eu; cases eu
                      rw [this] at eu
                      simp at eu
                      exact .inl ⟨by omega, eu.symm⟩)
                  (by simp) (fun u C hu' hC => by obtain ⟨k', hk'⟩ := h.chd u C hC; exact ⟨k', by rw [List.getElem?_append_left (List.getElem?_eq_some_iff.1 hk').1]; exact hk'⟩) (by simp) (by rw [h.nch]; omega) (by omega) (fun hlt => by rw [h.nch] at hlt; omega) 0
                have hr := run_append_nil (P := P) w t ty e inf2 z2 hu hi2 hz2 ⟨B2, off2, none⟩ rowsx.length cap2 news n2 n3 hnpos (by omega) (by omega)
                simp only [List.length_nil, Nat.zero_add, List.nil_append, Array.empty_append] at k2 k3
                exact ⟨_, _, K', hr, k1, k2, k3⟩
              · simp only [TokOk] at htok
            · -- no spare room
              simp only [Option.some.injEq, Prod.mk.injEq] at hf
              obtain ⟨rfl, rfl⟩ := hf
              have hT1 : ∀ u k', (σ.T ++ [some rowsx.length])[u]? = some (some k') → (u = σ.T.length ∧ k' = rowsx.length) ∨ (u ≠ σ.T.length ∧ σ.T[u]? = some (some k')) := fun u k' eu => by
                    rw [List.getElem?_append] at eu
                    split at eu
                    · rename_i hu'; exact .inr ⟨by omega, eu⟩
                    · rename_i hu'
                      have : u - σ.T.length = 0 := by
                        rcases Nat.eq_zero_or_pos (u - σ.T.length) with h0 | h0
                        · exact h0
                        · rw [List.getElem?_eq_none (by simp; omega)] at eu; cases eu
                      rw [this] at eu
                      simp at eu
                      exact .inl ⟨by omega, eu.symm⟩
              have hT2 : ∀ u C, u ≠ σ.T.length → K.ch u = some C → ∃ k', (σ.T ++ [some rowsx.length])[u]? = some (some k') := fun u C hu' hC => by
                obtain ⟨k', hk'⟩ := h.chd u C hC; exact ⟨k', by rw [List.getElem?_append_left (List.getElem?_eq_some_iff.1 hk').1]; exact hk'⟩
              simp only [VRel] at hs
              rcases hs with ⟨⟨a0, rfl, ha0⟩, rfl, _⟩ | ⟨B, off, cap, rfl, hcap, hrows, htok⟩
              · obtain rfl := ha0.resolve_right (by simp)
                obtain ⟨K', k1, k2, k3⟩ := grow [] σ.T.length rowsx.length (σ.T.length + 1) (σ.T ++ [some rowsx.length]) (by simp [VRels]) (by simp) (by simp) (by simp) hT1
                  (by simp) hT2 (by simp) (by rw [h.nch]; omega) (by omega) (fun hlt => by rw [h.nch] at hlt; omega) 0
                have hr := run_append_nil (P := P) w t ty e inf2 z2 hu hi2 hz2 ⟨B2, off2, none⟩ rowsx.length cap2 news n2 n3 hnpos (by omega) (by omega)
                simp only [List.length_nil, Nat.zero_add, List.nil_append, Array.empty_append] at k2 k3
                exact ⟨_, _, K', hr, k1, k2, k3⟩
              · simp only [TokOk] at htok
                subst htok
                have hrl1 : ∀ r ∈ rows, r.length = sz := rows_len hrows
                obtain ⟨olds, o1, o2, o3, o4, o5⟩ := rows_read h hrows
                have hszr : sz = inf2.size ∨ rows = [] := hc1
                have o2' : olds.length = rows.length * inf2.size := by
                  rcases hszr with rfl | hr0
                  · exact o2
                  · subst hr0; simpa using o2
                have hrl1' : ∀ r ∈ rows, r.length = inf2.size := by
                  rcases hszr with rfl | hr0
                  · exact hrl1
                  · subst hr0; simp
                obtain ⟨K', k1, k2, k3⟩ := grow olds σ.T.length rowsx.length (σ.T.length + 1) (σ.T ++ [some rowsx.length]) o1 o2' hrl1' o4 hT1
                  (by simp) hT2 (by simp) (by rw [h.nch]; omega) (by omega) (fun hlt => by rw [h.nch] at hlt; omega) rows.length
                have hr := run_append_grow (P := P) w t ty e inf2 z2 hu hi2 hz2 ⟨B, off, none⟩ rows.length rows.length olds o2' o3 ⟨B2, off2, none⟩ rowsx.length cap2 news n2 n3 (by omega) (by omega) (growslice_fits (by omega) hb48)
                exact ⟨_, _, K', hr, k1, k2, k3⟩
            · -- a row with a free end
              rename_i ct ck
              split at hf
              · rename_i hct
                obtain ⟨hszr, hct⟩ := hct
                subst hszr
                simp only [Option.some.injEq, Prod.mk.injEq] at hf
                obtain ⟨rfl, rfl⟩ := hf
                simp only [VRel] at hs
                rcases hs with ⟨_, _, hpl⟩ | ⟨B, off, cap, rfl, hcap, hrows, htok⟩
                · exact hpl.elim
                · obtain ⟨ht1, ht2⟩ := htok
                  obtain ⟨C, c1, c2, c3, c4, ⟨cs, el, c5, c6⟩, c7, c8⟩ := h.ch ct ck hct
                  obtain ⟨_, t2⟩ := ht2 C c1
                  obtain ⟨t3, t4, t5, t6, t7⟩ := t2 c2.symm
                  have hctl : ct < σ.T.length := (List.getElem?_eq_some_iff.1 hct).1
                  subst t5
                  have hrl1 : ∀ r ∈ rows, r.length = inf2.size := rows_len hrows
                  obtain ⟨olds, o1, o2, o3, o4, o5⟩ := rows_read h hrows
                  by_cases hroom : rows.length + rowsx.length ≤ cap
                  · have hB : C.B = B := t3
                    subst hB
                    have hmul : rows.length * inf2.size + rowsx.length * inf2.size ≤ cap * inf2.size := by rw [← Nat.add_mul]; exact Nat.mul_le_mul_right _ hroom
                    have hr := run_append_room' (P := P) (w := w) t ty e el inf2 hu hi2 C.B rows.length cap cs c5 ⟨B2, off2, none⟩ rowsx.length cap2 news n2 n3 n5 hroom (by rw [n2, c6]; omega)
                    have hcsl : cs.toList.length = C.cap := by simpa using c6
                    have hmin : min (rows.length * inf2.size) cs.toList.length = rows.length * inf2.size := by omega
                    obtain ⟨w1, w2⟩ := h.chainIn c1 (by rw [hct]) news (cs.toList.take (rows.length * inf2.size) ++ news ++ cs.toList.drop (rows.length * inf2.size + news.length)).toArray el (ck + rowsx.length) (by omega)
                      (w' := w.setRow C.B (cs.toList.take (rows.length * inf2.size) ++ news ++ cs.toList.drop (rows.length * inf2.size + news.length)).toArray) rfl rfl rfl (by simp [World.setRow]) (fun j hj => setRow_other w C.B j _ hj)
                      (setRow_heap w C.B cs _ el _ c5) (by simp only [List.size_toArray, List.length_append, List.length_take, List.length_drop, hmin, n2]; omega) (by rw [n2]; omega)
                      (fun j v ev => by
                        have hjl := (List.getElem?_eq_some_iff.1 ev).1
                        rw [List.getElem?_toArray, List.append_assoc, List.getElem?_append_right (by simp only [List.length_take, hmin]; omega), List.getElem?_append_left (by simp only [List.length_take, hmin]; omega)]
                        simp only [List.length_take, hmin, ← t6]
                        rw [show rows.length * inf2.size + j - rows.length * inf2.size = j by omega]
                        exact ev)
                      (fun cs2 el2 e2 j hj => by
                        rw [c5] at e2
                        cases e2
                        rw [List.getElem?_toArray, List.append_assoc, List.getElem?_append_left (by simp only [List.length_take, hmin]; omega), List.getElem?_take, if_pos (by omega)]
                        simp)
                    refine ⟨_, _, _, hr, w2, w1, ?_⟩
                    have hro : ∀ (j : Nat) (u : Value), (olds ++ news)[j]? = some u → ((K.addRo C.B C.fin news).setCh ct ⟨ck + rowsx.length, C.B, C.fin + news.length, C.cap, C.sz⟩ K.nch).ro C.B j = some u := by
                      intro j u eu
                      show (if C.B = C.B ∧ C.fin ≤ j ∧ j < C.fin + news.length then news[j - C.fin]? else K.ro C.B j) = some u
                      rw [List.getElem?_append] at eu
                      split at eu
                      · rename_i hjl
                        rw [if_neg (by omega)]
                        have hcol := RowsAt.flat C.B inf2.size rows 0 hrows
                        obtain ⟨a0, ha0⟩ : ∃ a0, rows.flatten[j]? = some a0 := ⟨_, List.getElem?_eq_getElem (by rw [← o1.length]; exact hjl)⟩
                        obtain ⟨v0, e0, _⟩ := CellsAt.get C.B _ 0 hcol.1 j a0 ha0
                        have hc0 := h.ro _ _ _ e0
                        have hu0 := o3 j u eu
                        rw [addr_add] at hu0
                        rw [hu0] at hc0
                        rw [hc0]
                        simpa using e0
                      · rename_i hjl
                        have hjl2 := (List.getElem?_eq_some_iff.1 eu).1
                        rw [if_pos ⟨rfl, by omega, by omega⟩, ← t6, ← o2]
                        exact eu
                    have hvl : (olds ++ news).length = (rows ++ rowsx).length * inf2.size := by simp [o2, n2, Nat.add_mul]
                    have := grown_rel (K := K) (B' := C.B) (sz := inf2.size) (k := ck + rowsx.length) (t := ct) (n := 0) (newCap := cap) (rows := rows ++ rowsx) (vs := olds ++ news)
                      (by rw [List.flatten_append]; exact o1.append n1) hvl (fun r hr => by rcases List.mem_append.1 hr with hr | hr; exact hrl1 r hr; exact rl2 r hr) (by rw [List.flatten_append, List.all_append, o4, n4]; rfl)
                      w2 hro (by simpa using hroom) (by show ct < K.nch; rw [h.nch]; exact hctl) ⟨ck + rowsx.length, C.B, C.fin + news.length, C.cap, C.sz⟩ (if_pos rfl) rfl rfl t4
                      (by simp only [List.length_append, o2, t6]) (by simp only [← t7])
                    simpa using this
                  · obtain ⟨K', k1, k2, k3⟩ := grow olds ct (ck + rowsx.length) σ.T.length (σ.T.set ct (some (ck + rowsx.length))) o1 o2 hrl1 o4
                      (fun u k' eu => by
                        by_cases hu' : u = ct
                        · subst hu'; simp [hctl] at eu; exact .inl ⟨rfl, eu.symm⟩
                        · rw [List.getElem?_set_ne (Ne.symm hu')] at eu; exact .inr ⟨hu', eu⟩)
                      (by simp [hctl]) (fun u C' hu' hC' => by obtain ⟨k', hk'⟩ := h.chd u C' hC'; exact ⟨k', by rw [List.getElem?_set_ne (Ne.symm hu')]; exact hk'⟩) (by simp) (by rw [h.nch]; omega) hctl
                      (fun _ => ⟨C, c1, by omega⟩) cap
                    have hr := run_append_grow (P := P) w t ty e inf2 z2 hu hi2 hz2 ⟨B, 0, none⟩ rows.length cap olds o2 o3 ⟨B2, off2, none⟩ rowsx.length cap2 news n2 n3 (by omega) (by omega) (growslice_fits (by omega) hb48)
                    exact ⟨_, _, K', hr, k1, k2, k3⟩
              · cases hf
        · cases hf
      · cases hf
    · cases hf
  · cases hf
end
end
section

section
variable {P : Program} {G : Nat → AV} {w0 : World} {ro0 : Nat → Nat → Option Value} {K : Kn} {σ : St} {w w' : World}

theorem wrap_small {n : Int} (h0 : 0 ≤ n) (h1 : n ≤ 549755813888) : IntKind.i64.wrap n = n := by
  have : n % 18446744073709551616 = n := Int.emod_eq_of_lt h0 (by omega)
  simp only [IntKind.wrap, IntKind.bits, IntKind.signed, Bool.true_and]
  simp only [show ((2 : Int) ^ (64 : Nat)) = 18446744073709551616 from rfl, show ((2 : Int) ^ ((64 : Nat) - 1)) = 9223372036854775808 from rfl, this]
  rw [if_neg (by simp; omega)]

theorem T_push {T : List (Option Nat)} {n : Nat} (u k' : Nat) (eu : (T ++ [some n])[u]? = some (some k')) : (u = T.length ∧ k' = n) ∨ (u ≠ T.length ∧ T[u]? = some (some k')) := by
  rw [List.getElem?_append] at eu
  split at eu
  · rename_i hu'; exact .inr ⟨by omega, eu⟩
  · rename_i hu'
    have : u - T.length = 0 := by
      rcases Nat.eq_zero_or_pos (u - T.length) with h0 | h0
      · exact h0
      · rw [List.getElem?_eq_none (by simp; omega)] at eu; cases eu
    rw [this] at eu
    simp at eu
    exact .inl ⟨by omega, eu.symm⟩

theorem makeSlice_sound (h : WRel G w0 ro0 K σ w) {t : Nat} {l c v : AV} {l' c' : Value} (hl : VRel K l l') (hc : VRel K c c') {σ' : St} (hf : makeSliceA (Dof P) σ t l c = some (v, σ')) :
    Ran P G w0 ro0 K w (Instr.makeSlice t l' c') v σ' := by
  unfold makeSliceA at hf
  split at hf
  · rename_i i ln cn hD hln hcn
    obtain ⟨inf, d, z, hi, hu, _, rfl⟩ := Dof_spec hD
    obtain ⟨k1, rfl⟩ := asInt_spec hln hl
    obtain ⟨k2, rfl⟩ := asInt_spec hcn hc
    simp only at hf
    split at hf
    · rename_i e hd
      have hd' := td_sl hd
      subst hd'
      split at hf
      · rename_i j hj
        obtain ⟨inf2, d2, z2, hi2, hu2, hz2, rfl⟩ := Dof_spec hj
        simp only at hf
        split at hf
        · rename_i hcond
          obtain ⟨b1, b2, b3, b4, b5, b6, b7⟩ := hcond
          have hzs : z2.cells.size = inf2.size := by simpa using b6
          have hwl : IntKind.i64.wrap ln = ln := wrap_small b1 (by omega)
          have hwc : IntKind.i64.wrap cn = cn := wrap_small (by omega) b3
          have hcb : cn.toNat * inf2.bytes ≤ 140737488355328 := by
            calc cn.toNat * inf2.bytes ≤ 549755813888 * 256 := Nat.mul_le_mul (by omega) b4
              _ ≤ 140737488355328 := by omega
          have hcb' : (inf2.bytes : Int) * cn ≤ 140737488355328 := by
            have : ((cn.toNat * inf2.bytes : Nat) : Int) ≤ ((140737488355328 : Nat) : Int) := Int.ofNat_le.2 hcb
            rw [Int.natCast_mul, Int.toNat_of_nonneg (by omega), Int.mul_comm] at this
            exact this
          have hlarge : ¬ (281474976710656 < (inf2.bytes : Int) * cn) := by omega
          have hn0 : ∀ n : Nat, n * inf2.size = 0 ↔ n = 0 := by
            intro n
            rw [Nat.mul_eq_zero]
            omega
          have hrun : (Instr.makeSlice t (.int k1 ln) (.int k2 cn)).run P w = .ok (.slice (some ⟨w.heap.size, 0, none⟩) ln.toNat cn.toNat)
              (w.alloc (.cells ((Array.range (cn.toNat * inf2.size)).map (fun j => (if cn.toNat * inf2.size = 0 then #[] else z2.cells)[j % (if cn.toNat * inf2.size = 0 then #[] else z2.cells).size]!)) e)) := by
            simp only [Instr.makeSlice, Sem.run_bind, run_underlying hu, Result.andThen_ok]
            have hnot : ¬ (cn < 0) := by omega
            have hnl : ¬ (ln < 0) := by omega
            have hnc : ¬ (ln > cn) := by omega
            have hroom : ¬ (cn.toNat * inf2.bytes > roomBytes) := by simp only [roomBytes]; omega
            by_cases hz : cn.toNat * inf2.size = 0
            · simp [asInt, asIntOf, typeInfo, hi2, hwl, hwc, hlarge, hnot, hnl, hnc, askRoom, sizeOf, zeroValue, hz2, newRow, hz]
            · simp [asInt, asIntOf, typeInfo, hi2, hwl, hwc, hlarge, hnot, hnl, hnc, askRoom, sizeOf, zeroValue, hz2, newRow, hz]
          split at hf
          · rename_i hl0
            subst hl0
            simp only [Option.some.injEq, Prod.mk.injEq] at hf
            obtain ⟨rfl, rfl⟩ := hf
            obtain ⟨w1, w2⟩ := h.chainNew [] ((Array.range (cn.toNat * inf2.size)).map (fun j => (if cn.toNat * inf2.size = 0 then #[] else z2.cells)[j % (if cn.toNat * inf2.size = 0 then #[] else z2.cells).size]!)) e (by simp)
              σ.T.length 0 (σ.T.length + 1) (σ.T ++ [some 0]) T_push (by simp)
              (fun u C hu' hC => by obtain ⟨k', hk'⟩ := h.chd u C hC; exact ⟨k', by rw [List.getElem?_append_left (List.getElem?_eq_some_iff.1 hk').1]; exact hk'⟩) (by simp) (by rw [h.nch]; omega)
              (fun hlt => by rw [h.nch] at hlt; omega) inf2.size (by simp)
            refine ⟨_, _, _, hrun, w2, w1, ?_⟩
            simp only [VRel]
            refine .inr ⟨w.heap.size, 0, cn.toNat, rfl, by simp, by simp [RowsAt], ?_⟩
            refine ⟨by show σ.T.length < σ.T.length + 1; omega, fun C hC => ?_⟩
            have : C = ⟨0, w.heap.size, 0, cn.toNat * inf2.size, inf2.size⟩ := by
              simp [Kn.setCh] at hC
              exact hC.symm
            subst this
            exact ⟨Nat.le_refl _, fun _ => ⟨rfl, rfl, rfl, by simp, rfl⟩⟩
          · rename_i hl0
            simp only [Option.some.injEq, Prod.mk.injEq] at hf
            obtain ⟨rfl, rfl⟩ := hf
            have hcpos : ¬ cn.toNat * inf2.size = 0 := by rw [hn0]; omega
            rw [if_neg hcpos] at hrun
            have hz0 := zeros_rel (K := K) (z := z2) (n := cn.toNat) (by omega)
            rw [hzs] at hz0
            refine ⟨_, _, K.addM σ.H.length w.heap.size (objSize _), hrun, Kn.le_addM h _ _, h.push ?_, ?_⟩
            · refine ⟨_, e, rfl, ?_, ?_, ?_⟩
              · rw [List.all_eq_true]
                intro x hx
                obtain ⟨l, hl1, hl2⟩ := List.mem_flatten.1 hx
                rw [(List.mem_replicate.1 hl1).2] at hl2
                rw [List.all_eq_true] at b7
                exact b7 x hl2
              · have : ln.toNat * inf2.size ≤ cn.toNat * inf2.size := Nat.mul_le_mul_right _ (by omega)
                simp [hzs]; exact this
              · intro j a ea
                have hjl : j < ln.toNat * inf2.size := by
                  have := (List.getElem?_eq_some_iff.1 ea).1
                  simpa [hzs] using this
                have hle : ln.toNat * inf2.size ≤ cn.toNat * inf2.size := Nat.mul_le_mul_right _ (by omega)
                have hzl : (z2.cells.toList.map ofAtom).length = inf2.size := by simp [hzs]
                rw [replicate_flat_get _ _ _ (by rw [hzl]; exact hjl)] at ea
                have e2 : ((List.replicate cn.toNat (z2.cells.toList.map ofAtom)).flatten)[j]? = some a := by
                  rw [replicate_flat_get _ _ _ (by rw [hzl]; omega)]; exact ea
                obtain ⟨v, e3, e4⟩ := hz0.get j a e2
                refine ⟨v, ?_, e4⟩
                rw [← Array.getElem?_toList, hzs]
                exact e3
            · simp only [VRel]
              exact ⟨w.heap.size, cn.toNat, by simp [Kn.addM], rfl, by omega, by omega, by simp [Kn.addM, objSize, hzs]⟩
        · cases hf
      · cases hf
    · cases hf
  · cases hf

theorem makeMap_sound (h : WRel G w0 ro0 K σ w) (t : Nat) : Ran P G w0 ro0 K w (Instr.makeMap t none) (.map σ.H.length) (σ.push (.map [] 0)) := by
  refine ⟨.map (some w.heap.size), w.alloc (.map #[] 0), K.addM σ.H.length w.heap.size (objSize _), ?_, Kn.le_addM h _ _, h.push ?_, ?_⟩
  · simp [Instr.makeMap]
  · exact ⟨#[], rfl, rfl, by simp⟩
  · simp only [VRel]; exact ⟨w.heap.size, by simp [Kn.addM], rfl⟩

theorem mapKeyOk_spec {k : Nat} {v : AV} (h : mapKeyOk (Dof P) k v = true) : (∃ kd kk n, P.underlying k = some (.int kd) ∧ v = .int kk n) ∨ (∃ s, P.underlying k = some .string ∧ v = .str s) ∨ ∃ c tds, v = .agg c ∧ flatT (Dof P) k = some tds ∧ fitsAll tds c = true := by
  unfold mapKeyOk at h
  split at h
  · rename_i i hD
    obtain ⟨inf, d, z, hi, hu, _, rfl⟩ := Dof_spec hD
    simp only at h
    split at h
    · rename_i kd kk n hd; exact .inl ⟨kd, kk, n, by rw [hu, td_int hd], rfl⟩
    · rename_i s hd; exact .inr (.inl ⟨s, by rw [hu, td_str hd], rfl⟩)
    · rename_i c hd
      obtain ⟨tds, h1, h2⟩ := (Option.any_eq_true _ _).1 h
      exact .inr (.inr ⟨c, tds, rfl, h1, h2⟩)
    · cases h
  · cases h

theorem checkFields_run {b : Bool} {m : Nat} {cs : Array Value} {K : Kn} : ∀ (fs : List Field) (k : Nat) (as : List AV), (∀ f ∈ fs, plainT (Dof P) f.type = true ∧ f.name ≠ "_") → fs.map (·.offset) = List.range' k fs.length → as.length = fs.length → VRels K as (cs.toList.drop k) →
    (forIn fs PUnit.unit (fun f (_ : PUnit) =>
      if f.name ≠ "_" then do
        let x ← part f.type cs f.offset
        Instr.checkKey b (m + 1) f.type x
        pure (ForInStep.yield PUnit.unit)
      else pure (ForInStep.yield PUnit.unit)) : Sem PUnit).run P w = .ok PUnit.unit w
  | [], k, as, _, _, _, _ => by simp [Sem.run, pure]
  | f :: fs, k, [], _, _, hl, _ => by simp at hl
  | f :: fs, k, a :: as, hf, ho, hl, hr => by
    simp only [List.map_cons, List.length_cons, List.range'_succ, List.cons.injEq] at ho
    obtain ⟨ho1, ho2⟩ := ho
    simp only [VRels] at hr
    obtain ⟨v, vr, e1, hv, hvr⟩ := hr
    have hx : cs[k]? = some v := by
      have := List.getElem?_drop (xs := cs.toList) (i := k) (j := 0)
      rw [e1] at this
      simpa using this.symm
    have hd : cs.toList.drop (k + 1) = vr := by
      rw [← List.drop_drop, e1]; rfl
    obtain ⟨hp, hnm⟩ := hf f (by simp)
    obtain ⟨inf, hi, hu⟩ := plainT_spec hp
    have hagg : (isAgg f.type).run P w = .ok false w := by
      rcases hu with hu | hu | ⟨k, hu⟩ <;> simp [isAgg, run_underlying hu]
    have ih := checkFields_run (b := b) (m := m) (cs := cs) (K := K) fs (k + 1) as (fun x hx => hf x (by simp [hx])) ho2 (by simpa using hl) (hd ▸ hvr)
    have hck : (Instr.checkKey b (m + 1) f.type v).run P w = .ok () w := by
      rw [Instr.checkKey]
      rcases hu with hu | hu | ⟨k, hu⟩ <;> simp [run_underlying hu]
    have hpt : (part f.type cs k).run P w = .ok v w := by simp [part, hagg, hx]
    rw [List.forIn_cons]
    simp only [ne_eq, hnm, not_false_eq_true, if_true, Sem.run_bind, ho1, hpt, Result.andThen_ok, hck]
    exact ih

theorem checkKey_run {k : Nat} {v : AV} {v' : Value} (h : mapKeyOk (Dof P) k v = true) (hv : VRel K v v') (b : Bool) : (Instr.checkKey b 10000 k v').run P w = .ok () w := by
  have e : Instr.checkKey b 10000 k v' = Instr.checkKey b (9998 + 1 + 1) k v' := rfl
  rw [e, Instr.checkKey]
  generalize 9998 = m
  rcases mapKeyOk_spec h with ⟨kd, kk, n, hu, rfl⟩ | ⟨s, hu, rfl⟩ | ⟨c, tds, rfl, hfl, hfit⟩
  · simp only [VRel] at hv; subst hv; simp [run_underlying hu]
  · simp only [VRel] at hv; subst hv; simp [run_underlying hu]
  · simp only [VRel] at hv
    obtain ⟨cs, rfl, hcs⟩ := hv
    obtain ⟨fields, hu, hst, rfl, hpl, hoff⟩ := flatT_spec hfl
    obtain ⟨hl, hk⟩ := fitsAll_spec _ _ hfit
    have := checkFields_run (P := P) (w := w) (b := b) (m := m) (cs := cs) (K := K) fields.toList 0 c hpl (by rw [hoff, List.range_eq_range']; simp) (by simpa using hl) (by simpa using hcs)
    simp only [Sem.run_bind, run_underlying hu, Result.andThen_ok]
    rw [← Array.forIn_toList]
    rw [this]
    rfl

theorem str_beq (a b : List UInt8) : ((⟨a.toArray⟩ : ByteArray) == ⟨b.toArray⟩) = (a == b) := by
  rw [beq_toListBytes, str_toList, str_toList]

/-- What a key finds. -/
theorem findNow_run {k : Nat} {x : AV} {x' : Value} (hk : (∃ kd kk n, P.underlying k = some (.int kd) ∧ x = .int kk n) ∨ ∃ s, P.underlying k = some .string ∧ x = .str s) (hx : VRel K x x') : ∀ (es : List (AV × AV × Nat)) (es' : List MapEntry) (i : Nat) (r : Option (Nat × AV)), es'.length = es.length →
    (∀ (j : Nat) (k v : AV) (b : Nat), es[j]? = some (k, v, b) → ∃ e : MapEntry, es'[j]? = some e ∧ VRel K k e.key ∧ VRel K v e.val ∧ e.born = b) → findA x es i = some r →
    ∃ d r', P.underlying k = some d ∧ Instr.findNow d x' es' i = some r' ∧ (match r with
      | some (j, v) => ∃ v', r' = some (j, v') ∧ VRel K v v' ∧ i ≤ j ∧ ∃ e : MapEntry, es'[j - i]? = some e ∧ Instr.sameBits 10000 e.key x' = true
      | none => r' = none)
  | [], [], i, r, _, _, hf => by
    simp [findA] at hf
    subst hf
    rcases hk with ⟨kd, kk, n, hu, rfl⟩ | ⟨s, hu, rfl⟩
    · exact ⟨_, none, hu, rfl, rfl⟩
    · exact ⟨_, none, hu, rfl, rfl⟩
  | [], _ :: _, i, r, hl, _, hf => by simp at hl
  | _ :: _, [], i, r, hl, _, hf => by simp at hl
  | (k1, v1, b1) :: es, e1 :: es', i, r, hl, he, hf => by
    obtain ⟨e0, h1, h2, h3, h4⟩ := he 0 k1 v1 b1 (by simp)
    simp at h1
    subst h1
    have ih := findNow_run hk hx es es' (i + 1)
    simp only [findA] at hf
    have same : ∀ p, keyEq x k1 = some p → ∀ d, P.underlying k = some d → Instr.sameNow d x' e1.key = some p ∧ (p = true → Instr.sameBits 10000 e1.key x' = true) := by
      intro p hp d hd
      rcases hk with ⟨kd, kk, n, hu, rfl⟩ | ⟨s, hu, rfl⟩
      · rw [hu] at hd; cases hd
        cases k1 <;> simp only [keyEq] at hp <;> try (cases hp; done)
        split at hp
        · rename_i hkk
          subst hkk
          simp only [Option.some.injEq] at hp
          simp only [VRel] at hx h2
          rw [hx, h2]
          refine ⟨by simp [Instr.sameNow, hp], fun ht => ?_⟩
          rw [ht] at hp
          have : n = _ := eq_of_beq hp
          simp [Instr.sameBits, this]
        · cases hp
      · rw [hu] at hd; cases hd
        cases k1 <;> simp only [keyEq] at hp <;> try (cases hp; done)
        simp only [Option.some.injEq] at hp
        simp only [VRel] at hx h2
        rw [hx, h2]
        refine ⟨by simp [Instr.sameNow, str_beq, hp], fun ht => ?_⟩
        rw [ht] at hp
        have : s = _ := eq_of_beq hp
        simp [Instr.sameBits, str_beq, this]
    split at hf
    · rename_i hke
      simp only [Option.some.injEq] at hf
      subst hf
      rcases hk with ⟨kd, kk, n, hu, _⟩ | ⟨s, hu, _⟩
      all_goals
        obtain ⟨s1, s2⟩ := same true hke _ hu
        refine ⟨_, some (i, e1.val), hu, by simp only [Instr.findNow, s1], e1.val, rfl, h3, Nat.le_refl _, e1, by simp, s2 rfl⟩
    · rename_i hke
      obtain ⟨d, r', g1, g2, g3⟩ := ih r (by simpa using hl) (fun j k v b e => by simpa using he (j + 1) k v b (by simpa using e)) hf
      obtain ⟨s1, _⟩ := same false hke d g1
      refine ⟨d, r', g1, by simp only [Instr.findNow, s1]; exact g2, ?_⟩
      cases r with
      | none => exact g3
      | some jv =>
        obtain ⟨j, v⟩ := jv
        obtain ⟨v', a1, a2, a3, e, a4, a5⟩ := g3
        refine ⟨v', a1, a2, by omega, e, ?_, a5⟩
        rw [show j - i = (j - (i + 1)) + 1 by omega]
        simpa using a4
    · cases hf


theorem cellsEq_true : ∀ {a b : List AV}, cellsEq a b = some true → a = b
  | [], [], _ => rfl
  | [], _ :: _, h => by simp [cellsEq] at h
  | _ :: _, [], h => by simp [cellsEq] at h
  | x :: a, y :: b, h => by
    simp only [cellsEq] at h
    split at h
    · rename_i p q hp hq
      simp only [Option.some.injEq, Bool.and_eq_true] at h
      rw [h.1] at hp; rw [h.2] at hq
      rw [cellsEq_true hq]
      cases x <;> cases y <;> simp only [plainEq] at hp <;> first | (cases hp; done) | skip
      · simp at hp; rw [hp]
      · split at hp
        · rename_i e; subst e; simp at hp; rw [hp]
        · cases hp
      · simp at hp; rw [hp]
    · cases h
theorem sameBits_cells {m : Nat} : ∀ {tds : List TD} {a : List AV} {x y : List Value}, fitsAll tds a = true → VRels K a x → VRels K a y → x.length = y.length ∧ ((x.zip y).all fun (u, v) => Instr.sameBits m u v) = true
  | [], [], _, _, _, hx, hy => by simp only [VRels] at hx hy; subst hx hy; simp
  | [], _ :: _, _, _, h, _, _ => by simp [fitsAll] at h
  | td :: _, [], _, _, h, _, _ => by cases td <;> simp [fitsAll] at h
  | td :: tds, c :: a, x, y, h, hx, hy => by
    simp only [VRels] at hx hy
    obtain ⟨u, x', rfl, hu, hx⟩ := hx
    obtain ⟨v, y', rfl, hv, hy⟩ := hy
    have h2 : fitsAll tds a = true ∧ Instr.sameBits m u v = true := by
      cases td <;> cases c <;> simp [fitsAll] at h <;> simp only [VRel] at hu hv <;> subst hu hv <;> exact ⟨h, by simp [Instr.sameBits, str_beq]⟩
    obtain ⟨i1, i2⟩ := sameBits_cells (m := m) h2.1 hx hy
    exact ⟨by simp [i1], by simp only [List.zip_cons_cons, List.all_cons, h2.2, Bool.true_and]; exact i2⟩
theorem findAsk_run {k : Nat} {c : List AV} {tds : List TD} {x' : Value} (hfl : flatT (Dof P) k = some tds) (hfit : fitsAll tds c = true) (hx : VRel K (.agg c) x') : ∀ (es : List (AV × AV × Nat)) (es' : List MapEntry) (i : Nat) (r : Option (Nat × AV)), es'.length = es.length →
    (∀ (j : Nat) (k v : AV) (b : Nat), es[j]? = some (k, v, b) → ∃ e : MapEntry, es'[j]? = some e ∧ VRel K k e.key ∧ VRel K v e.val ∧ e.born = b) → findA (.agg c) es i = some r →
    ∃ r', (Instr.findAsking k x' es' i).run P w = .ok r' w ∧ (match r with
      | some (j, v) => ∃ v', r' = some (j, v') ∧ VRel K v v' ∧ i ≤ j ∧ ∃ e : MapEntry, es'[j - i]? = some e ∧ Instr.sameBits 10000 e.key x' = true
      | none => r' = none)
  | [], [], i, r, _, _, hf => by
    simp [findA] at hf
    subst hf
    exact ⟨none, rfl, rfl⟩
  | [], _ :: _, i, r, hl, _, hf => by simp at hl
  | _ :: _, [], i, r, hl, _, hf => by simp at hl
  | (k1, v1, b1) :: es, e1 :: es', i, r, hl, he, hf => by
    obtain ⟨e0, h1, h2, h3, h4⟩ := he 0 k1 v1 b1 (by simp)
    simp at h1
    subst h1
    have ih := findAsk_run hfl hfit hx es es' (i + 1)
    simp only [findA] at hf
    have same : ∀ p, keyEq (.agg c) k1 = some p → (Op.equal k x' e1.key).run P w = .ok p w ∧ (p = true → Instr.sameBits 10000 e1.key x' = true) := by
      intro p hp
      cases k1 <;> simp only [keyEq] at hp <;> try (cases hp; done)
      rename_i d
      simp only [VRel] at hx h2
      obtain ⟨xs, rfl, hxs⟩ := hx
      obtain ⟨ys, hy, hys⟩ := h2
      rw [hy]
      refine ⟨?_, fun ht => ?_⟩
      · refine (eqAgg_run (t := k) (a := c) (b := d) ?_ hxs hys).2
        simp only [eqAgg, hfl, if_pos hfit, hp]
      · subst ht
        have := cellsEq_true hp
        subst this
        obtain ⟨g1, g2⟩ := sameBits_cells (m := 9999) hfit hys hxs
        show (ys.size == xs.size && _) = true
        simp only [Array.length_toList] at g1
        rw [g1, beq_self_eq_true, Bool.true_and]
        exact g2
    split at hf
    · rename_i hke
      simp only [Option.some.injEq] at hf
      subst hf
      obtain ⟨s1, s2⟩ := same true hke
      exact ⟨some (i, e1.val), by simp [Instr.findAsking, s1], e1.val, rfl, h3, Nat.le_refl _, e1, by simp, s2 rfl⟩
    · rename_i hke
      obtain ⟨r', g2, g3⟩ := ih r (by simpa using hl) (fun j k v b e => by simpa using he (j + 1) k v b (by simpa using e)) hf
      obtain ⟨s1, _⟩ := same false hke
      refine ⟨r', by simp [Instr.findAsking, s1]; exact g2, ?_⟩
      cases r with
      | none => exact g3
      | some jv =>
        obtain ⟨j, v⟩ := jv
        obtain ⟨v', a1, a2, a3, e, a4, a5⟩ := g3
        refine ⟨v', a1, a2, by omega, e, ?_, a5⟩
        rw [show j - i = (j - (i + 1)) + 1 by omega]
        simpa using a4
    · cases hf
theorem findKey_run {k : Nat} {x : AV} {x' : Value} (hk : mapKeyOk (Dof P) k x = true) (hx : VRel K x x') (es : List (AV × AV × Nat)) (es' : List MapEntry) (r : Option (Nat × AV)) (hl : es'.length = es.length)
    (he : ∀ (j : Nat) (k v : AV) (b : Nat), es[j]? = some (k, v, b) → ∃ e : MapEntry, es'[j]? = some e ∧ VRel K k e.key ∧ VRel K v e.val ∧ e.born = b) (hf : findA x es 0 = some r) :
    ∃ r', (Instr.findKey k x' es').run P w = .ok r' w ∧ (match r with
      | some (j, v) => ∃ v', r' = some (j, v') ∧ VRel K v v' ∧ ∃ e : MapEntry, es'[j]? = some e ∧ Instr.sameBits 10000 e.key x' = true
      | none => r' = none) := by
  rcases mapKeyOk_spec hk with h | h | ⟨c, tds, rfl, hfl, hfit⟩
  · obtain ⟨d, r', g1, g2, g3⟩ := findNow_run (.inl h) hx es es' 0 r hl he hf
    refine ⟨r', by simp only [Instr.findKey, Sem.run_bind, run_underlying g1, Result.andThen_ok, g2]; rfl, ?_⟩
    cases r with
    | none => exact g3
    | some jv => obtain ⟨v', a1, a2, _, e, a4, a5⟩ := g3; exact ⟨v', a1, a2, e, by simpa using a4, a5⟩
  · obtain ⟨d, r', g1, g2, g3⟩ := findNow_run (.inr h) hx es es' 0 r hl he hf
    refine ⟨r', by simp only [Instr.findKey, Sem.run_bind, run_underlying g1, Result.andThen_ok, g2]; rfl, ?_⟩
    cases r with
    | none => exact g3
    | some jv => obtain ⟨v', a1, a2, _, e, a4, a5⟩ := g3; exact ⟨v', a1, a2, e, by simpa using a4, a5⟩
  · obtain ⟨r', g2, g3⟩ := findAsk_run (w := w) hfl hfit hx es es' 0 r hl he hf
    obtain ⟨fields, hu, _⟩ := flatT_spec hfl
    refine ⟨r', ?_, ?_⟩
    · simp only [Instr.findKey, Sem.run_bind, run_underlying hu, Result.andThen_ok]
      cases es' with
      | nil => simpa [Instr.findNow, Instr.findAsking] using g2
      | cons e es' =>
        have : Instr.findNow (.struct fields) x' (e :: es') 0 = none := by
          simp only [VRel] at hx
          obtain ⟨xs, rfl, _⟩ := hx
          simp [Instr.findNow, Instr.sameNow]
        rw [this]
        exact g2
    · cases r with
      | none => exact g3
      | some jv => obtain ⟨v', a1, a2, _, e, a4, a5⟩ := g3; exact ⟨v', a1, a2, e, by simpa using a4, a5⟩

theorem lookup_sound (h : WRel G w0 ro0 K σ w) {t : Nat} {m k v : AV} {m' k' : Value} (hm : VRel K m m') (hk : VRel K k k') {ok : Bool} (hf : lookupA (Dof P) σ t m k ok = some v) :
    ∃ v', (Instr.lookup t m' k' ok).run P w = .ok v' w ∧ VRel K v v' := by
  unfold lookupA at hf
  split at hf
  · rename_i i hD
    obtain ⟨inf, d, z, hi, hu, _, rfl⟩ := Dof_spec hD
    simp only at hf
    split at hf
    · rename_i kt et hd
      have := td_map hd; subst this
      split at hf
      · rename_i hko
        split at hf
        · rename_i es hes
          -- the entries, as they lie
          have hent : ∃ es' : Array MapEntry, ((m' = .map none ∧ es' = #[]) ∨ ∃ B clock, m' = .map (some B) ∧ (getObj B).run P w = .ok (.map es' clock) w) ∧ es'.toList.length = es.length ∧
              ∀ (j : Nat) (k v : AV) (b : Nat), es[j]? = some (k, v, b) → ∃ e : MapEntry, es'.toList[j]? = some e ∧ VRel K k e.key ∧ VRel K v e.val ∧ e.born = b := by
            split at hes
            · simp only [Option.some.injEq] at hes; subst hes
              simp only [VRel] at hm; subst hm
              exact ⟨#[], .inl ⟨rfl, rfl⟩, rfl, by simp⟩
            · rename_i b
              split at hes
              · rename_i es0 clock hb
                simp only [Option.some.injEq] at hes; subst hes
                simp only [VRel] at hm
                obtain ⟨B, hm1, rfl⟩ := hm
                obtain ⟨B', h1, _, _, ⟨es', h4, h5, h6⟩, _⟩ := h.blk b _ hb
                rw [hm1] at h1; cases h1
                exact ⟨es', .inr ⟨B, clock, rfl, by simp [getObj, Sem.run, h4]⟩, by simpa using h5, fun j k v b e => by simpa using h6 j k v b e⟩
              · cases hes
            · cases hes
          obtain ⟨es', e1, e2, e3⟩ := hent
          have hck := fun b => checkKey_run (P := P) (w := w) hko hk b
          split at hf
          · rename_i idx v0 hfa
            simp only [Option.some.injEq] at hf; subst hf
            obtain ⟨r', g2, v', rfl, g4, _⟩ := findKey_run (w := w) hko hk es es'.toList _ e2 e3 hfa
            refine ⟨if ok then .tuple #[v', .bool true] else v', ?_, by split <;> simp [VRel, VRels, g4]⟩
            rcases e1 with ⟨rfl, rfl⟩ | ⟨B, clock, rfl, e1⟩
            · simp only [Instr.lookup, Sem.run_bind, run_underlying hu, Result.andThen_ok]
              simp only [pure, Sem.run, Result.andThen_ok, hck, g2, Sem.run_bind]
            · simp only [Instr.lookup, Sem.run_bind, run_underlying hu, Result.andThen_ok, e1]
              simp only [pure, Sem.run, Result.andThen_ok, hck, g2, Sem.run_bind]
          · rename_i hfa
            obtain ⟨zv, hz, rfl⟩ := Option.map_eq_some_iff.1 hf
            obtain ⟨r', g2, g3⟩ := findKey_run (w := w) hko hk es es'.toList _ e2 e3 hfa
            simp only at g3
            subst g3
            unfold zeroA at hz
            split at hz
            · rename_i j hj
              obtain ⟨inf2, d2, z2, hi2, hu2, hz2, rfl⟩ := Dof_spec hj
              simp only [Option.some.injEq] at hz
              subst hz
              have hzr := VRel.ofV K z2
              refine ⟨if ok then .tuple #[z2, .bool false] else z2, ?_, by split <;> simp [VRel, VRels, hzr]⟩
              rcases e1 with ⟨rfl, rfl⟩ | ⟨B, clock, rfl, e1⟩
              · simp only [Instr.lookup, Sem.run_bind, run_underlying hu, Result.andThen_ok]
                simp only [pure, Sem.run, Result.andThen_ok, hck, g2, Sem.run_bind]
                simp [zeroValue, typeInfo, hi2, hz2]
              · simp only [Instr.lookup, Sem.run_bind, run_underlying hu, Result.andThen_ok, e1]
                simp only [pure, Sem.run, Result.andThen_ok, hck, g2, Sem.run_bind]
                simp [zeroValue, typeInfo, hi2, hz2]
            · cases hz
          · cases hf
        · cases hf
      · cases hf
    · cases hf
  · cases hf

theorem mapUpdate_sound (h : WRel G w0 ro0 K σ w) {t : Nat} {m k v : AV} {m' k' v' : Value} (hm : VRel K m m') (hk : VRel K k k') (hv : VRel K v v') {σ' : St} (hf : mapUpdateA (Dof P) σ t m k v = some σ') :
    ∃ w', (Instr.mapUpdate t m' k' v').run P w = .ok () w' ∧ WRel G w0 ro0 K σ' w' := by
  unfold mapUpdateA at hf
  split at hf
  · rename_i i hD
    obtain ⟨inf, d, z, hi, hu, _, rfl⟩ := Dof_spec hD
    simp only at hf
    split at hf
    · rename_i kt et hd
      have := td_map hd; subst this
      split at hf
      · rename_i hko
        split at hf
        · rename_i b
          split at hf
          · rename_i es clock hb
            simp only [VRel] at hm
            obtain ⟨B, hm1, rfl⟩ := hm
            obtain ⟨B', h1, hB0, hBl, ⟨es', h4, h5, h6⟩, _⟩ := h.blk b _ hb
            rw [hm1] at h1; cases h1
            have hbl : b < σ.H.length := (List.getElem?_eq_some_iff.1 hb).1
            have hck := checkKey_run (P := P) (w := w) hko hk false
            have hset : ∀ (o : Obj), (setObj B o).run P w = .ok () { w with heap := w.heap.setIfInBounds B o } := by
              intro o; simp [setObj, Sem.run, h4]
            have hkeep : ∀ o : Obj, (∀ k, k ≠ B → ({ w with heap := w.heap.setIfInBounds B o } : World).heap[k]? = w.heap[k]?) := by
              intro o k hk; simp [Array.getElem?_setIfInBounds_ne (Ne.symm hk)]
            split at hf
            · rename_i idx v0 hfa
              simp only [Option.some.injEq] at hf; subst hf
              obtain ⟨r', g2, v1, rfl, g4, e0, g5, g6⟩ := findKey_run (w := w) hko hk es es'.toList _ (by simpa using h5) (fun j k v b e => by simpa using h6 j k v b e) hfa
              have ge : es'[idx]? = some e0 := by simpa using g5
              refine ⟨{ w with heap := w.heap.setIfInBounds B (.map (es'.modify idx fun e => { e with key := k', val := v' }) clock) }, ?_, ?_⟩
              · simp only [Instr.mapUpdate, Sem.run_bind, run_underlying hu, Result.andThen_ok]
                simp [getObj, Sem.run, h4, hck, g2, Instr.keyThatStays, ge, g6, hset]
              · refine h.setBlk (B := B) hbl hm1 rfl rfl rfl (by simp) (hkeep _) ?_ (by rw [hb]; simp) (fun cs2 el2 fr2 e2 => by simp [hBl] at e2) (fun cs2 el2 fr2 e2 => by simp [hBl] at e2)
                refine ⟨es'.modify idx fun e => { e with key := k', val := v' }, by simp [hBl], by simp [h5], ?_⟩
                intro j k2 v2 b2 e2
                rw [List.getElem?_modify] at e2
                cases hj : es[j]? with
                | none => simp [hj] at e2
                | some kvb =>
                  obtain ⟨k3, v3, b3⟩ := kvb
                  obtain ⟨e, a1, a2, a3, a4⟩ := h6 j k3 v3 b3 hj
                  rw [hj] at e2
                  rw [Array.getElem?_modify, a1]
                  by_cases hji : idx = j
                  · simp only [if_pos hji, Option.map_eq_map, Option.map_some, Option.some.injEq, Prod.mk.injEq] at e2
                    obtain ⟨rfl, rfl, rfl⟩ := e2
                    rw [if_pos hji]
                    exact ⟨_, rfl, hk, hv, a4⟩
                  · simp only [if_neg hji, Option.map_eq_map, Option.map_some, Option.some.injEq, Prod.mk.injEq] at e2
                    obtain ⟨rfl, rfl, rfl⟩ := e2
                    rw [if_neg hji]
                    exact ⟨e, rfl, a2, a3, a4⟩
            · rename_i hfa
              simp only [Option.some.injEq] at hf; subst hf
              obtain ⟨r', g2, g3⟩ := findKey_run (w := w) hko hk es es'.toList _ (by simpa using h5) (fun j k v b e => by simpa using h6 j k v b e) hfa
              simp only at g3
              subst g3
              refine ⟨{ w with heap := w.heap.setIfInBounds B (.map (es'.push { key := k', val := v', born := clock }) (clock + 1)) }, ?_, ?_⟩
              · simp only [Instr.mapUpdate, Sem.run_bind, run_underlying hu, Result.andThen_ok]
                simp [getObj, Sem.run, h4, hck, g2, hset]
              · refine h.setBlk (B := B) hbl hm1 rfl rfl rfl (by simp) (hkeep _) ?_ (by rw [hb]; simp) (fun cs2 el2 fr2 e2 => by simp [hBl] at e2) (fun cs2 el2 fr2 e2 => by simp [hBl] at e2)
                refine ⟨es'.push { key := k', val := v', born := clock }, by simp [hBl], by simp [h5], ?_⟩
                intro j k2 v2 b2 e2
                rw [List.getElem?_append] at e2
                rw [Array.getElem?_push]
                split at e2
                · rename_i hj
                  rw [if_neg (by omega)]
                  exact h6 j k2 v2 b2 e2
                · rename_i hj
                  have : j - es.length = 0 := by
                    rcases Nat.eq_zero_or_pos (j - es.length) with h0 | h0
                    · exact h0
                    · rw [List.getElem?_eq_none (by simp; omega)] at e2; cases e2
                  rw [this] at e2
                  simp at e2
                  obtain ⟨rfl, rfl, rfl⟩ := e2
                  rw [if_pos (by omega)]
                  exact ⟨_, rfl, hk, hv, rfl⟩
            · cases hf
          · cases hf
        · cases hf
      · cases hf
    · cases hf
  · cases hf
end
end
end Go.Abs
end
