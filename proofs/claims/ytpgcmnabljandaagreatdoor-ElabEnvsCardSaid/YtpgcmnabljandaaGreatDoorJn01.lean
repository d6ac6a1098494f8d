/- A part of the proof: texts Join5 Join5b. -/
import Derived.Test.YtpgcmnabljandaaGreatDoorRd01
import Derived.Test.YtpgcmnabljandaaGreatDoorRows
import Derived.Test.YtpgcmnabljandaaGreatDoorTie
import Derived.Test.YtpgcmnabljandaaGreatDoorCards
import Derived.ProofKit
import Derived.LaidMore
import Derived.OpenShut
import Derived.Stop.Joined
import Derived.SevenTiedAt
import Derived.WideKeyArgs
import Derived.MakeChecks

section
/-
  Valid, Bits and Random: the law's function returns true for every input.
-/
set_option linter.unusedVariables false
set_option linter.unusedSimpArgs false
set_option maxRecDepth 100000
namespace Go.Proofs.YtpgcmnabljandaaGreatDoor
open Go Go.Abs Go.ChangeShapes Go.WideShapes Go.ChangeAt Go.RowKit

theorem ownTryz : ownKnob Tryz.prog.godebug = none := by kernel_rfl
theorem laidOutTryz : laidOutB Tryz.prog = true := by kernel_rfl
theorem gKeyw : Tryz.prog.globalNamed "testbench/lexer.keywords" = some 0 := by kernel_rfl
theorem tKeyw : (Tryz.prog.globals[0]?).map (·.type) = some 23 := by kernel_rfl

/-- A list of texts that reads as a known one. -/
theorem rd_strs {H : Type} {enc : TypeId × Value → H} {w : World} {base : Nat} {held : Bool} {n : Nat} {cs : List Value} {p : List MemPlace} {K : List Str}
    (h : DataW.trod enc Tryz.prog w base (fun _ => true) held n 23 cs = some (.slice (K.map fun k => .lit (.string k)) [], p)) (hK : K ≠ []) :
    ∃ v, cs = [v] ∧ VRel (KW w) (.sl 1 (K.map encStr) .none) v := by
  have hs : ∀ (m : Nat) (cs : List Value) (x : DataW H × List MemPlace), DataW.trod enc Tryz.prog w base (fun _ => true) held m 9 cs = some x → ∃ k : Str, VRels (KW w) (encStr k) cs ∧ x.1 = .lit (.string k) := by
    intro m cs x h
    obtain ⟨s, rfl, rfl, _⟩ := DataW.trod_string Tryz.underlying9 h
    refine ⟨s.data.toList, ?_, rfl⟩
    simp only [encStr, VRels]
    exact ⟨_, [], rfl, str_rel, rfl⟩
  rcases DataW.trod_slice Tryz.underlying23 h with ⟨_, e⟩ | ⟨a, len, cap, elems, rest, m, hm, rfl, e, hb, hl, hc, hlen, hel', hsp, _⟩
  · simp at e
  simp only [Prod.mk.injEq, DataW.slice.injEq] at e
  obtain ⟨⟨e1, e2⟩, _⟩ := e
  have hlK : len = K.length := by rw [← hlen]; have := congrArg List.length e1; simpa using this.symm
  have hK0 : 0 < K.length := List.length_pos_iff.2 hK
  rw [k9] at hel'
  have one : ∀ i (hi : i < K.length), ∃ cs', w.cells? base (a.add (i * 1)) 1 = some cs' ∧ VRels (KW w) (encStr K[i]) cs' := by
    intro i hi
    have hh := hel' i (by omega)
    rw [List.getElem?_eq_getElem (by omega)] at hh
    obtain ⟨cs', h1, h2⟩ := Option.bind_eq_some_iff.1 hh
    obtain ⟨k, h3, h4⟩ := hs m cs' _ h2
    refine ⟨cs', h1, ?_⟩
    have e3 : (elems.map (·.1))[i]? = (K.map fun k => (DataW.lit (.string k) : DataW H))[i]? := by rw [e1]
    rw [List.getElem?_map, List.getElem?_map, List.getElem?_eq_getElem (by omega), List.getElem?_eq_getElem hi] at e3
    simp only [Option.map_some, Option.some.injEq] at e3
    rw [h4] at e3
    have e4 : k = K[i] := by simpa using e3
    rw [← e4]; exact h3
  have spot : a.spot = none := by
    obtain ⟨cs', h1, _⟩ := one 0 hK0
    rw [Nat.zero_mul] at h1
    obtain ⟨_, hlen', hc'⟩ := World.cells?_some h1
    have := hc' 0 (by omega)
    rw [List.getElem?_eq_getElem (by omega)] at this
    cases hs : a.spot with
    | none => rfl
    | some s =>
      simp only [Addr.add, if_true] at this
      unfold World.cell? at this
      rw [hs] at this
      split at this <;> simp at this
  obtain ⟨b, o, s⟩ := a
  simp only at spot
  subst spot
  refine ⟨_, rfl, ?_⟩
  simp only [VRel]
  refine .inr ⟨b, o, cap, by simp [hlK], by simp; omega, RowsAt.intro b 1 _ o fun i r e => ?_, trivial⟩
  rw [List.getElem?_map, Option.map_eq_some_iff] at e
  obtain ⟨k, hk, rfl⟩ := e
  obtain ⟨hi, hk'⟩ := List.getElem?_eq_some_iff.1 hk
  obtain ⟨cs', h1, h2⟩ := one i hi
  rw [hk'] at h2
  obtain ⟨_, hlen', hc'⟩ := World.cells?_some h1
  obtain ⟨g1, g2⟩ := VRels.get h2
  refine ⟨rfl, rfl, CellsAt.intro b _ _ fun j z hz => ?_⟩
  have hj : j = 0 := by
    have := (List.getElem?_eq_some_iff.1 hz).1
    simp at this
    exact this
  subst hj
  obtain ⟨v, hv1, hv2⟩ := g2 0 z hz
  refine ⟨v, ?_, hv2⟩
  have := hc' 0 (by omega)
  rw [hv1] at this
  show w.cell? ⟨b, o + i * 1 + 0, none⟩ = some v
  rw [← this]
  congr 1
  simp only [Addr.add, if_true]
  by_cases hi0 : i * 1 = 0
  · rw [if_pos hi0, hi0]; simp
  · rw [if_neg hi0]; simp

abbrev laid5 : List (String × DataW Unit) := Rows.elabValidsRow.laid
/-- What the condition gives: the keywords. -/
theorem of_laid {W : World} (h : laidMetH Tryz.prog laid5 W) : VRel (KW W) (.rptr [.sl 1 (keyw.map encStr) .none]) (.pointer (some ⟨0, 0, none⟩)) := by
  rw [MakeChecks.laidMetH_plain _ _ _ (by kernel_rfl)] at h
  obtain ⟨ps, ⟨g0, t0, cs0, f0, p0, q0, _, _, _, _, ⟨g1, t1, cs1, f1, p1, q1, _, _, _, _, ⟨g2, t2, cs2, f2, p2, q2, _, _, _, _, ⟨g3, t3, cs3, f3, p3, q3, hg, ht, hv, hd, _, _⟩, _⟩, _⟩, _⟩, _, _⟩ := h
  obtain rfl := Option.some.inj (gKeyw.symm.trans hg)
  obtain rfl := Option.some.inj (tKeyw.symm.trans ht)
  obtain ⟨v, e, hr⟩ := rd_strs (K := keyw) hd (by decide)
  have hcell : W.cell? ⟨0, 0, none⟩ = some v := by
    have := World.var?_cell hg hv 0
    rw [Array.eq_one_of_toList e] at this
    simpa using this
  have hgoal : VRel (KW W) (.rptr [.sl 1 (keyw.map encStr) .none]) (.pointer (some ⟨0, 0, none⟩)) := by
    unfold VRel
    refine ⟨0, 0, rfl, ?_⟩
    unfold CellsAt
    exact ⟨⟨v, hcell, hr⟩, by unfold CellsAt; trivial⟩
  exact hgoal
end Go.Proofs.YtpgcmnabljandaaGreatDoor
end

section
/-
  Valid, Bits and Random return the specified results: the law's function returns true for every input, and each argument reads afterwards as it read before. No condition.
-/
set_option linter.unusedVariables false
set_option linter.unusedSimpArgs false
namespace Go.Proofs.YtpgcmnabljandaaGreatDoor
open Go Go.Abs Go.ChangeShapes Go.WideShapes Go.ChangeAt Go.RowKit

theorem door_met (os : Os) (args : Array Value) : laidMetH Tryz.prog laid5 ((World.doorLaid Tryz.prog 400 os).forCall (fun _ _ => 0) ⟨#[], args, []⟩).memory :=
  laidMetH_of_parts3 (fuel := 8) (laidMet_of_run' 8 (by kernel_rfl) (by kernel_rfl)) (by kernel_rfl) (by kernel_rfl)

/-- A reading of the arguments stays, behind a call that wrote nothing of before. -/
theorem args_stay {H : Type} {enc : TypeId × Value → H} {W W' : World} {v : Value} {d : DataW H} {ps : List MemPlace} {sp : Nat → Bool} (h : DataW.Trod enc Tryz.prog W 0 (fun _ => true) true 36 v d ps) (hb : Below W.heap.size W W') (hlt : ∀ x ∈ ps, x.block < W.heap.size) (hs : ∀ p ∈ ps, sp p.block = true) :
    DataW.Trod enc Tryz.prog W' 0 sp true 36 v d ps :=
  WideElems.Trod_stays laidOutTryz (by kernel_rfl) (of_decide_eq_true (by kernel_rfl)) h (fun x hx => hb.same (hlt x hx)) hs

set_option maxRecDepth 100000 in
theorem lifted5 (os : Os) (started : os.Started) (H : Type) (enc : TypeId × Value → H) :
    ReturnsInHanded {} Tryz.checked os 5 .any (fun w args => (Rows.elabValidsSpec.pre enc Tryz.prog Tryz.f5 [] false w args ∧ laidMetH Tryz.prog laid5 w) ∧ sizedMet enc Tryz.prog Tryz.f5 (OpenSpec.ofChange Rows.elabValidsSpec) false w args)
      (Rows.elabValidsSpec.post enc Tryz.prog Tryz.f5 false true false false) := by
  refine returnsInHanded_of_change_and (C := Tryz.checked) (X := fun w _ => laidMetH Tryz.prog laid5 w) (fun _ _ _ hh h => h.of_heap hh) ownTryz started (by kernel_rfl) Tryz.func5
    (ChangeSpec.witness_shaped (enc := enc) (C := Tryz.checked) (os := os) (X := fun w _ => laidMetH Tryz.prog laid5 w) false (World.doorLaid Tryz.prog 400 os) #[.agg #[.slice none 0 0, .slice none 0 0, .slice none 0 0, .slice none 0 0, .slice none 0 0]] 8 rfl (World.shaped_of_RefB (by kernel_rfl) (by kernel_rfl)) (by kernel_rfl) (by kernel_rfl) (by kernel_rfl) (door_met os _)) ?_
  intro W base args ds gs before hval0 hW _ _ hL _
  have hval : ∀ (j : Nat) t v, Tryz.f5.params[j]? = some t → args[j]? = some v → Value.okWide Tryz.prog W .any base t v := hval0
  have hW' := hW
  obtain ⟨p, q, hA0, hV, rfl, hfz, hnd⟩ := hW
  have hA : DataW.TrodAll enc Tryz.prog W 0 (fun _ => true) true Tryz.f5.params.toList args.toList ds p := hA0
  rw [Tryz.params5] at hA hval
  obtain ⟨v0, d0, rfl, rfl, h0⟩ := trodAll_one hA
  obtain ⟨rfl, rfl⟩ := trodVars_none hV
  have hv0 := hval 0 36 v0 rfl rfl
  unfold Value.okWide at hv0
  rw [Tryz.underlying36] at hv0
  obtain ⟨cs, rfl, _, _⟩ := hv0
  have h0' := h0
  obtain ⟨fuel, hf⟩ := h0
  obtain ⟨pr, hrel, hvh⟩ := rdP hf
  have hpure := valids5 pr hvh
  have hglob : ∀ g, VRel (KW W) (GG g) (.pointer (some ⟨g, 0, none⟩)) := by
    intro g
    cases g with
    | zero => exact of_laid hL
    | succ g => simp only [GG, VRel]
  have hargs : VRels (KW W) [.agg (encP pr)] (#[Value.agg cs] : Array Value).toList := by
    unfold VRels
    refine ⟨.agg cs, [], rfl, ?_, by unfold VRels; rfl⟩
    unfold VRel
    exact ⟨cs, rfl, hrel⟩
  refine (hpure.2 W (roAll W) #[.agg cs] hglob (fun _ _ _ e => e) hargs).mono ?_
  rintro e W' ⟨v, ro', rfl, hb, _, _, _, hv⟩
  have hv1 : v = .bool true := by simpa only [VRel] using hv
  subst hv1
  have hW2 := hW'
  simp only [List.append_nil] at hW2
  have hlt : ∀ x ∈ p, x.block < W.heap.size := fun x hx => hW2.lt x hx
  refine ⟨_, rfl, [d0], [], p, [], p, [], hW2, ?_, ?_, ?_, hb.frame _, fun h => by cases h⟩
  · exact trodAll_mk1 (shut_bool Tryz.underlying4 true)
  · exact trodAll_mk1 (args_stay h0' hb hlt (fun x hx => by simpa using hlt x hx))
  · rfl

end Go.Proofs.YtpgcmnabljandaaGreatDoor
end
