/- A part of the proof: texts Join8b Join8c Card8. -/
import Derived.Test.YtpgcmnabljandaaGreatDoorFx01
import Derived.Test.YtpgcmnabljandaaGreatDoorSd01
import Derived.Test.YtpgcmnabljandaaGreatDoorKc01
import Derived.Test.YtpgcmnabljandaaGreatDoorKc02
import Derived.Test.YtpgcmnabljandaaGreatDoorTie
import Derived.Test.YtpgcmnabljandaaGreatDoorCards

section
/-
  Scalar returns the specified expression or error: the law's function returns true for every input, and each argument reads afterwards as it read before. No condition.
-/
set_option linter.unusedVariables false
set_option linter.unusedSimpArgs false
set_option maxRecDepth 100000
namespace Go.Proofs.YtpgcmnabljandaaGreatDoor
open Go Go.Abs Go.ChangeShapes Go.WideShapes Go.ChangeAt Go.RowKit

theorem args_stay55_8 {H : Type} {enc : TypeId × Value → H} {W W' : World} {v : Value} {d : DataW H} {ps : List MemPlace} {sp : Nat → Bool} (h : DataW.Trod enc Tryz.prog W 0 (fun _ => true) true 55 v d ps) (hb : Below W.heap.size W W') (hlt : ∀ x ∈ ps, x.block < W.heap.size) (hs : ∀ p ∈ ps, sp p.block = true) :
    DataW.Trod enc Tryz.prog W' 0 sp true 55 v d ps :=
  WideElems.Trod_stays laidOutTryz (by kernel_rfl) (of_decide_eq_true (by kernel_rfl)) h (fun x hx => hb.same (hlt x hx)) hs

theorem lifted8 (os : Os) (started : os.Started) (H : Type) (enc : TypeId × Value → H) :
    ReturnsInHanded {} Tryz.checked os 8 .any (fun w args => (Rows.elabScalarsSpec.pre enc Tryz.prog Tryz.f8 [] false w args ∧ laidMetH Tryz.prog laid5 w) ∧ sizedMet enc Tryz.prog Tryz.f8 (OpenSpec.ofChange Rows.elabScalarsSpec) false w args)
      (Rows.elabScalarsSpec.post enc Tryz.prog Tryz.f8 false true false false) := by
  refine returnsInHanded_of_change_and (C := Tryz.checked) (X := fun w _ => laidMetH Tryz.prog laid5 w) (fun _ _ _ hh h => h.of_heap hh) ownTryz started (by kernel_rfl) Tryz.func8
    (ChangeSpec.witness_shaped (enc := enc) (C := Tryz.checked) (os := os) (X := fun w _ => laidMetH Tryz.prog laid5 w) false (World.doorLaid Tryz.prog 400 os) #[.agg #[.slice none 0 0, .slice none 0 0, .slice none 0 0, .slice none 0 0, .slice none 0 0], .agg #[.int .i64 0, .int .i64 0, .string ⟨#[]⟩, .slice none 0 0]] 8 rfl (World.shaped_of_RefB (by kernel_rfl) (by kernel_rfl)) (by kernel_rfl) (by kernel_rfl) (by kernel_rfl) (door_met os _)) ?_
  intro W base args ds gs before hval0 hW _ _ hL _
  have hval : ∀ (j : Nat) t v, Tryz.f8.params[j]? = some t → args[j]? = some v → Value.okWide Tryz.prog W .any base t v := hval0
  have hW' := hW
  obtain ⟨p, q, hA0, hV, rfl, hfz, hnd⟩ := hW
  have hA : DataW.TrodAll enc Tryz.prog W 0 (fun _ => true) true Tryz.f8.params.toList args.toList ds p := hA0
  rw [Tryz.params8] at hA hval
  obtain ⟨v0, v1, d0, d1, p0, p1, rfl, rfl, rfl, h0, h1⟩ := trodAll_two hA
  obtain ⟨rfl, rfl⟩ := trodVars_none hV
  have hv0 := hval 0 36 v0 rfl rfl
  unfold Value.okWide at hv0
  rw [Tryz.underlying36] at hv0
  obtain ⟨cs0, rfl, _, _⟩ := hv0
  have h0' := h0
  obtain ⟨fuel0, hf0⟩ := h0
  obtain ⟨x0, hrel0, hg0⟩ := rdP hf0
  have hv1 := hval 1 55 v1 rfl rfl
  unfold Value.okWide at hv1
  rw [Tryz.underlying55] at hv1
  obtain ⟨cs1, rfl, _, _⟩ := hv1
  have h1' := h1
  obtain ⟨fuel1, hf1⟩ := h1
  obtain ⟨x1, hrel1, hg1⟩ := rdE fuel1 fuel1 (Nat.le_refl _) hf1
  have hpure := scalars8 x0 x1 hg0 hg1
  have hglob : ∀ g, VRel (KW W) (GG g) (.pointer (some ⟨g, 0, none⟩)) := by
    intro g
    cases g with
    | zero => exact of_laid hL
    | succ g => simp only [GG, VRel]
  have hargs : VRels (KW W) [.agg (encP x0), .agg (encE x1)] (#[Value.agg cs0, Value.agg cs1] : Array Value).toList := by
    simp only [VRels]
    have g0 : VRel (KW W) (.agg (encP x0)) (Value.agg cs0) := by
      unfold VRel; exact ⟨cs0, rfl, hrel0⟩
    have g1 : VRel (KW W) (.agg (encE x1)) (Value.agg cs1) := by
      unfold VRel; exact ⟨cs1, rfl, hrel1⟩
    exact ⟨_, _, rfl, g0, _, _, rfl, g1, rfl⟩
  refine (hpure.2 W (roAll W) #[Value.agg cs0, Value.agg cs1] hglob (fun _ _ _ e => e) hargs).mono ?_
  rintro e W' ⟨v, ro', rfl, hb, _, _, _, hv⟩
  have hv1 : v = .bool true := by simpa only [VRel] using hv
  subst hv1
  have hW2 := hW'
  simp only [List.append_nil] at hW2
  have hlt := fun x hx => hW2.lt x hx
  refine ⟨_, rfl, [d0, d1], [], p0 ++ p1, [], p0 ++ p1, [], hW2, ?_, ?_, ?_, hb.frame _, fun h => by cases h⟩
  · exact trodAll_mk1 (shut_bool Tryz.underlying4 true)
  · exact trodAll_mk2 (args_stay h0' hb (fun x hx => hlt x (List.mem_append_left _ hx)) (fun x hx => by simpa using hlt x (List.mem_append_left _ hx))) (args_stay55_8 h1' hb (fun x hx => hlt x (List.mem_append_right _ hx)) (fun x hx => by simpa using hlt x (List.mem_append_right _ hx)))
  · rfl
end Go.Proofs.YtpgcmnabljandaaGreatDoor
end

section
set_option linter.unusedVariables false
set_option linter.unusedSimpArgs false
set_option maxRecDepth 100000
namespace Go.Proofs.YtpgcmnabljandaaGreatDoor
open Go

theorem elabScalars_row : Rows.ElabScalarsSaid :=
  OpenClaim.holds_of_wide 8 Tryz.f8 rfl rfl rfl rfl rfl rfl rfl ⟨rfl, rfl, rfl, rfl, rfl⟩ rfl rfl rfl rfl rfl fn8 Tryz.func8 facts8 inst8 wrap8
    (fun os started H enc _ => lifted8 os started H enc)
#print axioms elabScalars_row
end Go.Proofs.YtpgcmnabljandaaGreatDoor
end

section
set_option linter.unusedVariables false
set_option linter.unusedSimpArgs false
set_option maxRecDepth 100000
namespace Go.Proofs.YtpgcmnabljandaaGreatDoor
open Go

theorem card8_text : Rows.elabScalarsRow.wfByText (OpenSpec.ofChange Rows.elabScalarsSpec) = true := by kernel_rfl
theorem card8_main : Tryz.prog.mainIs = some (true, "438c544592da4d0fde47ce508cfbd717d9eaee5c99ea4794d263a81d85aa15ca".toList) := by kernel_rfl
theorem card8_looks : false = Tryz.prog.looks [] := by kernel_rfl
theorem card8_params : ([36, 55].all fun u => !Tryz.prog.wantsStandIn u) = true := by kernel_rfl
end Go.Proofs.YtpgcmnabljandaaGreatDoor
end
