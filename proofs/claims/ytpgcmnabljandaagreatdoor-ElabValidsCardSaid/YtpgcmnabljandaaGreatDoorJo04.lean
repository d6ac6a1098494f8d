/- A part of the proof: texts Join5b. -/
import Derived.Test.YtpgcmnabljandaaGreatDoorJo01

/-
  Valid, Bits and Random return the specified results: the law's function returns true for every input, and each argument reads afterwards as it read before. No condition.
-/
set_option linter.unusedVariables false
set_option linter.unusedSimpArgs false
namespace Go.Proofs.YtpgcmnabljandaaGreatDoor
open Go Go.Abs Go.ChangeShapes Go.WideShapes Go.ChangeAt Go.RowKit

theorem door_met (os : Os) (args : Array Value) : laidMetH Tryz.prog laid5 ((World.doorLaid Tryz.prog 400 os).forCall (fun _ _ => 0) ⟨#[], args, []⟩).memory :=
  laidMetH_of_parts3 (fuel := 8) (laidMet_of_run' 8 (by kernel_rfl) (by kernel_rfl)) (by kernel_rfl) (by kernel_rfl)

/-- A reading of the arguments stays, behind a call that wrote nothing of before. -/
theorem args_stay {H : Type} {enc : TypeId × Value → H} {W W' : World} {v : Value} {d : DataW H} {ps : List MemPlace} {sp : Nat → Bool} (h : DataW.Trod enc Tryz.prog W 0 (fun _ => true) true 36 v d ps) (hb : Below W.heap.size W W') (hlt : ∀ x ∈ ps, x.block < W.heap.size) (hs : ∀ p ∈ ps, sp p.block = true) :
    DataW.Trod enc Tryz.prog W' 0 sp true 36 v d ps :=
  WideElems.Trod_stays laidOutTryz (by kernel_rfl) (of_decide_eq_true (by kernel_rfl)) h (fun x hx => hb.same (hlt x hx)) hs

set_option maxRecDepth 100000 in
theorem lifted5 (os : Os) (started : os.Started) (H : Type) (enc : TypeId × Value → H) :
    ReturnsInHanded {} Tryz.checked os 5 .any (fun w args => (Rows.elabValidsSpec.pre enc Tryz.prog Tryz.f5 [] false w args ∧ laidMetH Tryz.prog laid5 w) ∧ sizedMet enc Tryz.prog Tryz.f5 (OpenSpec.ofChange Rows.elabValidsSpec) false w args)
      (Rows.elabValidsSpec.post enc Tryz.prog Tryz.f5 false true false false) := by
  refine returnsInHanded_of_change_and (C := Tryz.checked) (X := fun w _ => laidMetH Tryz.prog laid5 w) (fun _ _ _ hh h => h.of_heap hh) ownTryz started (by kernel_rfl) Tryz.func5
    (ChangeSpec.witness_shaped (enc := enc) (C := Tryz.checked) (os := os) (X := fun w _ => laidMetH Tryz.prog laid5 w) false (World.doorLaid Tryz.prog 400 os) #[.agg #[.slice none 0 0, .slice none 0 0, .slice none 0 0, .slice none 0 0, .slice none 0 0]] 8 rfl (World.shaped_of_RefB (by kernel_rfl) (by kernel_rfl)) (by kernel_rfl) (by kernel_rfl) (by kernel_rfl) (door_met os _)) ?_
  intro W base args ds gs before hval0 hW _ _ hL _
  have hval : ∀ (j : Nat) t v, Tryz.f5.params[j]? = some t → args[j]? = some v → Value.okWide Tryz.prog W .any base t v := hval0
  have hW' := hW
  obtain ⟨p, q, hA0, hV, rfl, hfz, hnd⟩ := hW
  have hA : DataW.TrodAll enc Tryz.prog W 0 (fun _ => true) true Tryz.f5.params.toList args.toList ds p := hA0
  rw [Tryz.params5] at hA hval
  obtain ⟨v0, d0, rfl, rfl, h0⟩ := trodAll_one hA
  obtain ⟨rfl, rfl⟩ := trodVars_none hV
  have hv0 := hval 0 36 v0 rfl rfl
  unfold Value.okWide at hv0
  rw [Tryz.underlying36] at hv0
  obtain ⟨cs, rfl, _, _⟩ := hv0
  have h0' := h0
  obtain ⟨fuel, hf⟩ := h0
  obtain ⟨pr, hrel, hvh⟩ := rdP hf
  have hpure := valids5 pr hvh
  have hglob : ∀ g, VRel (KW W) (GG g) (.pointer (some ⟨g, 0, none⟩)) := by
    intro g
    cases g with
    | zero => exact of_laid hL
    | succ g => simp only [GG, VRel]
  have hargs : VRels (KW W) [.agg (encP pr)] (#[Value.agg cs] : Array Value).toList := by
    unfold VRels
    refine ⟨.agg cs, [], rfl, ?_, by unfold VRels; rfl⟩
    unfold VRel
    exact ⟨cs, rfl, hrel⟩
  refine (hpure.2 W (roAll W) #[.agg cs] hglob (fun _ _ _ e => e) hargs).mono ?_
  rintro e W' ⟨v, ro', rfl, hb, _, _, _, hv⟩
  have hv1 : v = .bool true := by simpa only [VRel] using hv
  subst hv1
  have hW2 := hW'
  simp only [List.append_nil] at hW2
  have hlt : ∀ x ∈ p, x.block < W.heap.size := fun x hx => hW2.lt x hx
  refine ⟨_, rfl, [d0], [], p, [], p, [], hW2, ?_, ?_, ?_, hb.frame _, fun h => by cases h⟩
  · exact trodAll_mk1 (shut_bool Tryz.underlying4 true)
  · exact trodAll_mk1 (args_stay h0' hb hlt (fun x hx => by simpa using hlt x hx))
  · rfl

end Go.Proofs.YtpgcmnabljandaaGreatDoor
