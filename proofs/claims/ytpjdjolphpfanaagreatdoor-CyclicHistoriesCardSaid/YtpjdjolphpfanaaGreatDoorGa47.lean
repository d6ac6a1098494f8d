/- A part of the proof. -/
import Derived.Test.YtpjdjolphpfanaaGreatDoorGa46
set_option linter.unusedVariables false
set_option linter.unusedSimpArgs false
set_option maxRecDepth 100000
set_option linter.defProp false
section
namespace Go.Proofs.YtpjdjolphpfanaaGreatDoor
open Go Go.Abs Go.ChangeShapes Go.WideShapes Go.ChangeAt Go.RowKit

theorem stay3_3 {H : Type} {enc : TypeId × Value → H} {W W' : World} {v : Value} {d : DataW H} {ps : List MemPlace} {sp : Nat → Bool} (h : DataW.Trod enc Tryz.prog W 0 (fun _ => true) true 3 v d ps) (hb : Go.RowKit.Below W.heap.size W W') (hlt : ∀ x ∈ ps, x.block < W.heap.size) (hs : ∀ p ∈ ps, sp p.block = true) :
    DataW.Trod enc Tryz.prog W' 0 sp true 3 v d ps :=
  WideElems.Trod_stays laidOutTryz (by kernel_rfl) (of_decide_eq_true (by kernel_rfl)) h (fun x hx => hb.same (hlt x hx)) hs

theorem stay27_3 {H : Type} {enc : TypeId × Value → H} {W W' : World} {v : Value} {d : DataW H} {ps : List MemPlace} {sp : Nat → Bool} (h : DataW.Trod enc Tryz.prog W 0 (fun _ => true) true 27 v d ps) (hb : Go.RowKit.Below W.heap.size W W') (hlt : ∀ x ∈ ps, x.block < W.heap.size) (hs : ∀ p ∈ ps, sp p.block = true) :
    DataW.Trod enc Tryz.prog W' 0 sp true 27 v d ps :=
  WideElems.Trod_stays laidOutTryz (by kernel_rfl) (of_decide_eq_true (by kernel_rfl)) h (fun x hx => hb.same (hlt x hx)) hs

theorem stay29_3 {H : Type} {enc : TypeId × Value → H} {W W' : World} {v : Value} {d : DataW H} {ps : List MemPlace} {sp : Nat → Bool} (h : DataW.Trod enc Tryz.prog W 0 (fun _ => true) true 29 v d ps) (hb : Go.RowKit.Below W.heap.size W W') (hlt : ∀ x ∈ ps, x.block < W.heap.size) (hs : ∀ p ∈ ps, sp p.block = true) :
    DataW.Trod enc Tryz.prog W' 0 sp true 29 v d ps :=
  WideElems.Trod_stays laidOutTryz (by kernel_rfl) (of_decide_eq_true (by kernel_rfl)) h (fun x hx => hb.same (hlt x hx)) hs

theorem lifted3 (os : Os) (started : os.Started) (H : Type) (enc : TypeId × Value → H) :
    ReturnsInHanded {} Tryz.checked os 3 .any (fun w args => (Rows.cyclicHistoriesSpec.pre enc Tryz.prog Tryz.f3 [] false w args ∧ laidMetH Tryz.prog laidL w) ∧ sizedMet enc Tryz.prog Tryz.f3 (OpenSpec.ofChange Rows.cyclicHistoriesSpec) false w args)
      (Rows.cyclicHistoriesSpec.post enc Tryz.prog Tryz.f3 false true false false) := by
  refine returnsInHanded_of_change_and (C := Tryz.checked) (X := fun w _ => laidMetH Tryz.prog laidL w) (fun _ _ _ hh h => h.of_heap hh) ownTryz started (by kernel_rfl) Tryz.func3
    (ChangeSpec.witness_shaped (enc := enc) (C := Tryz.checked) (os := os) (X := fun w _ => laidMetH Tryz.prog laidL w) false (World.doorLaid Tryz.prog 400 os) #[.agg #[.slice none 0 0, .slice none 0 0, .slice none 0 0, .slice none 0 0, .slice none 0 0], .agg #[.slice none 0 0], .int .i64 0] 8 rfl (World.shaped_of_RefB (by kernel_rfl) (by kernel_rfl)) (by kernel_rfl) (by kernel_rfl) (by kernel_rfl) (door_met os _)) ?_
  intro W base args ds gs before hval0 hW _ hWt hL _
  have hval : ∀ (j : Nat) t v, Tryz.f3.params[j]? = some t → args[j]? = some v → Value.okWide Tryz.prog W .any base t v := hval0
  have hwt : (DataW.weightsEach Tryz.prog (Tryz.f3.params.toList ++ Rows.cyclicHistoriesSpec.plain.varTypes Tryz.prog) (ds ++ gs)).all (· ≤ reachBytes) = true := hWt
  have hW' := hW
  obtain ⟨p, q, hA0, hV, rfl, hfz, hnd⟩ := hW
  have hA : DataW.TrodAll enc Tryz.prog W 0 (fun _ => true) true Tryz.f3.params.toList args.toList ds p := hA0
  rw [Tryz.params3] at hA hval hwt
  obtain ⟨v0, v1, v2, d0, d1, d2, p0, p1, p2, rfl, rfl, rfl, h0, h1, h2⟩ := trodAll_three hA
  obtain ⟨rfl, rfl⟩ := trodVars_none hV
  have hv0 := hval 0 27 v0 rfl rfl
  unfold Value.okWide at hv0
  rw [Tryz.underlying27] at hv0
  obtain ⟨cs0, rfl, _, _⟩ := hv0
  have h0' := h0
  obtain ⟨fuel0, hf0⟩ := h0
  have hw0 : ∀ k ∈ d0.weights Tryz.prog 27, k ≤ reachBytes := fun k hk => of_decide_eq_true (List.all_eq_true.1 hwt k (DataW.weights_mem_each (j := 0) (t := 27) rfl rfl k hk))
  obtain ⟨x0, hrel0, hg0⟩ := rdP hf0 hw0
  have hv1 := hval 1 29 v1 rfl rfl
  unfold Value.okWide at hv1
  rw [Tryz.underlying29] at hv1
  obtain ⟨cs1, rfl, _, _⟩ := hv1
  have h1' := h1
  obtain ⟨fuel1, hf1⟩ := h1
  obtain ⟨x1, hrel1, hg1⟩ := rdC (p := x0) hf1
  have hv2 := hval 2 3 v2 rfl rfl
  obtain ⟨x2, rfl⟩ := okWide_int Tryz.underlying3 hv2
  have h2' := h2
  obtain ⟨fuel2, hf2⟩ := h2
  have hpure := histories3 x0 x1 x2 hg0 hg1
  have hargs : VRels (KMw W) [.agg (encP x0), .agg (encCyc x1), .int .i64 x2] (#[Value.agg cs0, Value.agg cs1, Value.int .i64 x2] : Array Value).toList := by
    simp only [VRels]
    have g0 : VRel (KMw W) (.agg (encP x0)) (Value.agg cs0) := by
      unfold VRel; exact ⟨cs0, rfl, hrel0⟩
    have g1 : VRel (KMw W) (.agg (encCyc x1)) (Value.agg cs1) := by
      unfold VRel; exact ⟨cs1, rfl, hrel1⟩
    have g2 : VRel (KMw W) (.int .i64 x2) (Value.int .i64 x2) := by
      unfold VRel; rfl
    exact ⟨_, _, rfl, g0, _, _, rfl, g1, _, _, rfl, g2, rfl⟩
  refine (hpure.2 W (roAll W) #[Value.agg cs0, Value.agg cs1, Value.int .i64 x2] (glob_laid hL) (fun _ _ _ e => e) hargs).mono ?_
  rintro e W' ⟨v, ro', rfl, hb, _, _, _, hv⟩
  have hv1 : v = .bool true := by simpa only [VRel] using hv
  subst hv1
  have hW2 := hW'
  simp only [List.append_nil] at hW2
  have hlt := fun x hx => hW2.lt x hx
  refine ⟨_, rfl, [d0, d1, d2], [], p0 ++ (p1 ++ p2), [], p0 ++ (p1 ++ p2), [], (by simpa only [List.append_assoc] using hW2), ?_, ?_, ?_, hb.frame _, fun h => by cases h⟩
  · exact trodAll_mk1 (shut_bool Tryz.underlying4 true)
  · exact trodAll_mk3 (stay27_3 h0' hb (fun x hx => hlt x (List.mem_append_left _ (List.mem_append_left _ hx))) (fun x hx => by simpa using hlt x (List.mem_append_left _ (List.mem_append_left _ hx)))) (stay29_3 h1' hb (fun x hx => hlt x (List.mem_append_left _ (List.mem_append_right _ hx))) (fun x hx => by simpa using hlt x (List.mem_append_left _ (List.mem_append_right _ hx)))) (stay3_3 h2' hb (fun x hx => hlt x (List.mem_append_right _ hx)) (fun x hx => by simpa using hlt x (List.mem_append_right _ hx)))
  · rfl
end Go.Proofs.YtpjdjolphpfanaaGreatDoor
end
