/- A part of the proof. -/
import Derived.Test.YtpjdjolphpfanaaGreatDoorGa17
import Derived.RangeFuncBox
import Derived.RangeFuncLeaves
import Derived.Shelf.Abstract
import Derived.WalkKit
import Derived.OwnWalkIn
import Derived.TacticsInMore
import Derived.LoopNIn
import Derived.LoopIn
import Derived.RegionIn
import Derived.OrdersIn
set_option linter.unusedVariables false
set_option linter.unusedSimpArgs false
set_option maxRecDepth 100000
set_option maxHeartbeats 2000000
set_option linter.defProp false
section
namespace Go.Proofs.YtpjdjolphpfanaaGreatDoor
open Go Go.Abs Go.RowKit Go.Shelf
section
attribute [local go_sem] Oper.semAt_some

theorem sl_view {K : Kn} {l : List Int} {tok : Tok} {v : Value} (h : VRel K (.sl 1 (l.map fun n => [.int .i64 n]) tok) v) :
    ∃ a cap, v = .slice a l.length cap ∧ ∀ j n, l[j]? = some n → ∃ B off, a = some ⟨B, off, none⟩ ∧ K.ro B (off + j) = some (.int .i64 n) := by
  simp only [VRel] at h
  rcases h with ⟨⟨a, rfl, _⟩, h0, _⟩ | ⟨B, off, cap, rfl, hcap, hrows, _⟩
  · have : l = [] := by simpa using h0
    subst this
    exact ⟨a, 0, rfl, fun j n e => by simp at e⟩
  · refine ⟨some ⟨B, off, none⟩, cap, by simp, fun j n e => ⟨B, off, rfl, ?_⟩⟩
    obtain ⟨_, _, h3⟩ := RowsAt.get B 1 _ off hrows j [.int .i64 n] (by simp [e])
    simp only [CellsAt, VRel] at h3
    obtain ⟨⟨v, hv, rfl⟩, _⟩ := h3
    simpa using hv

theorem fw214 (G : Glo) (l : List Int) (tok : Tok) (hlen : l.length < 2 ^ 62) : FwOk Tryz.prog G 135 [.rptr [.sl 1 (l.map fun n => [.int .i64 n]) tok]] (fun _ => True) (l.map fun n => .int .i64 n) := by
  refine ⟨by kernel_rfl, ?_⟩
  intro w0 ro0 L K σ w vcap S hw hcap _ hS hround
  simp only [VRels] at hcap
  obtain ⟨v0, vr, e0, hp, rfl⟩ := hcap
  have evs : vcap = #[v0] := by apply Array.ext'; simpa using e0
  subst evs
  simp only [VRel, CellsAt] at hp
  obtain ⟨Bs, os, rfl, ⟨v, hro, hv⟩, _⟩ := hp
  obtain ⟨a0, cap, rfl, hcell⟩ := sl_view hv
  have hread : ∀ K' σ' w', K.le K' → WRel G w0 ro0 K' σ' w' → w'.cell? ⟨Bs, os, none⟩ = some (.slice a0 l.length cap) := fun K' σ' w' h1 h2 => h2.ro _ _ _ (h1.ro _ _ _ hro)
  have hBs := hread K σ w (Kn.le_refl K) hw
  refine callsIn_of_wp Tryz.func135 rfl trivial ?_ rfl
  simp only [Tryz.ntmps135, List.size_toArray, List.length_cons, List.length_nil, Nat.reduceAdd, Nat.reduceSub, Array.replicate_succ, Array.replicate_zero, List.push_toArray, List.append_toArray, List.nil_append, List.cons_append]
  gi_wp2
  gi_loopw [7] (fun i wr => ∃ k : Nat, k ≤ l.length ∧ i = .int .i64 k ∧ ∃ K' σ', K.le K' ∧ WRel G w0 ro0 K' σ' wr ∧ S k σ')
    (fun i _ => l.length - (intOf i).toNat)
  case atStart => exact ⟨0, Nat.zero_le _, rfl, K, σ, Kn.le_refl K, hw, hS⟩
  case round =>
    obtain ⟨k, hk, rfl, K1, σ1, hle1, hw1, hS1⟩ := hrel
    by_cases hlt : k < l.length
    · obtain ⟨B, off, rfl, hro1⟩ := hcell k l[k] (by simp [hlt])
      have hcx : wr.cell? ⟨B, off + k, none⟩ = some (.int .i64 l[k]) := hw1.ro _ _ _ (hle1.ro _ _ _ hro1)
      obtain ⟨fn, tmps, assign, body, hy, hR⟩ := hround k (.int .i64 l[k]) σ1 K1 wr (by simp [hlt]) hS1 hle1 hw1 _ rfl
      gi_wp2
      refine ⟨rfl, hR.mono ?_⟩
      rintro e W3 ⟨rfl, K2, σ2, hle2, hw2, hS2⟩
      gi_wp2
      go_roundw
      case rel => exact ⟨k + 1, by omega, by simp, K2, σ2, Kn.le_trans hle1 hle2, hw2, hS2⟩
      case measure => simp [intOf]; omega
    · obtain rfl : k = l.length := by omega
      gi_wp2
      refine bodyPost_end (results_none rfl _ _ _) rfl ?_
      exact ⟨⟨_, rfl⟩, K1, σ1, hle1, hw1, by simpa using hS1⟩
end
section
attribute [local go_sem] Oper.semAt_some

/-- The k-th part. -/
def partK {α : Type} (l : List α) (k : Nat) : List α := (l.drop (32 * k)).take 32
def partsN (n : Nat) : Nat := (n + 31) / 32

theorem sl4_view {K : Kn} {sz : Nat} {rows : List (List AV)} {tok : Tok} {v : Value} (h : VRel K (.sl sz rows tok) v) :
    ∃ a cap, v = .slice a rows.length cap ∧ rows.length ≤ cap ∧ (rows ≠ [] → ∃ B off, a = some ⟨B, off, none⟩ ∧ RowsAt K B off sz rows) := by
  simp only [VRel] at h
  rcases h with ⟨⟨a, rfl, _⟩, h0, _⟩ | ⟨B, off, cap, rfl, hcap, hrows, _⟩
  · subst h0
    exact ⟨a, 0, rfl, by simp, fun h => absurd rfl h⟩
  · exact ⟨_, cap, rfl, hcap, fun _ => ⟨B, off, rfl, hrows⟩⟩

theorem fw190 (G : Glo) (rows : List (List AV)) (tok : Tok) (hlen : rows.length < 2 ^ 60) : FwOk Tryz.prog G 87 [.rptr [.sl 4 rows tok], .rptr [.int .i64 32]] (fun _ => True) ((List.range (partsN rows.length)).map fun k => .sl 4 (partK rows k) .none) := by
  refine ⟨by kernel_rfl, ?_⟩
  intro w0 ro0 L K σ w vcap S hw hcap _ hS hround
  simp only [VRels] at hcap
  obtain ⟨v0, vr, e0, hp, v1, vr1, rfl, hp1, rfl⟩ := hcap
  have evs : vcap = #[v0, v1] := by apply Array.ext'; simpa using e0
  subst evs
  simp only [VRel, CellsAt] at hp hp1
  obtain ⟨Bs, os, rfl, ⟨v, hro, hv⟩, _⟩ := hp
  obtain ⟨Bn, on, rfl, ⟨vn, hron, rfl⟩, _⟩ := hp1
  obtain ⟨a0, cap, rfl, hcap, hrows⟩ := sl4_view hv
  have hread : ∀ K' σ' w', K.le K' → WRel G w0 ro0 K' σ' w' → w'.cell? ⟨Bs, os, none⟩ = some (.slice a0 rows.length cap) := fun K' σ' w' h1 h2 => h2.ro _ _ _ (h1.ro _ _ _ hro)
  have hreadn : ∀ K' σ' w', K.le K' → WRel G w0 ro0 K' σ' w' → w'.cell? ⟨Bn, on, none⟩ = some (.int .i64 32) := fun K' σ' w' h1 h2 => h2.ro _ _ _ (h1.ro _ _ _ hron)
  refine callsIn_of_wp Tryz.func87 rfl trivial ?_ rfl
  simp only [Tryz.ntmps87, List.size_toArray, List.length_cons, List.length_nil, Nat.reduceAdd, Nat.reduceSub, Array.replicate_succ, Array.replicate_zero, List.push_toArray, List.append_toArray, List.nil_append, List.cons_append]
  gi_wp2
  gi_loopw [4] (fun i wr => ∃ k : Nat, k ≤ partsN rows.length ∧ i = .int .i64 (32 * k : Nat) ∧ ∃ K' σ', K.le K' ∧ WRel G w0 ro0 K' σ' wr ∧ S k σ')
    (fun i _ => rows.length + 64 - (intOf i).toNat)
  case atStart => exact ⟨0, Nat.zero_le _, rfl, K, σ, Kn.le_refl K, hw, hS⟩
  case round =>
    obtain ⟨k, hk, rfl, K1, σ1, hle1, hw1, hS1⟩ := hrel
    have c1 := hread K1 σ1 wr hle1 hw1
    have c2 := hreadn K1 σ1 wr hle1 hw1
    by_cases hlt : 32 * k < rows.length
    · have hne : rows ≠ [] := by intro e; rw [e] at hlt; simp at hlt
      obtain ⟨B, off, rfl, hrow⟩ := hrows hne
      gi_wp2
      gi_region
      obtain ⟨e, he⟩ : ∃ e : Nat, e = min 32 (rows.length - 32 * k) := ⟨_, rfl⟩
      have hif : (if ((rows.length - 32 * k : Nat) : Int) < 32 then ((rows.length - 32 * k : Nat) : Int) else 32) = (e : Int) := by
        split <;> omega
      have hif2 : min (32 : Int) ((rows.length - 32 * k : Nat) : Int) = (e : Int) := by omega
      first | rw [hif] | rw [hif2]
      have hw2 := hw1.drew
      have hkn : k < partsN rows.length := by unfold partsN; omega
      have he0 : 0 < e := by omega
      have hel : 32 * k + e ≤ rows.length := by omega
      have hw32 : wrap64 ((32 * k : Nat) + (e : Int)) = ((32 * k + e : Nat) : Int) := by
        rw [Int.natCast_add]; unfold wrap64; omega
      have hpl : (partK rows k).length = e := by simp [partK]; omega
      have hpk : (rows.take (32 * k + e)).drop (32 * k) = partK rows k := by
        unfold partK
        rw [List.take_add, List.drop_append_of_le_length (by simp; omega), List.drop_of_length_le (by simp; omega), List.nil_append]
        apply List.ext_getElem?
        intro j
        simp only [List.getElem?_take]
        split <;> split <;> first | rfl | omega | (symm; simp; omega) | (simp; omega)
      have hvr : VRel K1 (.sl 4 (partK rows k) .none) (.slice (some ⟨B, off + 32 * k * 4, none⟩) e e) := by
        simp only [VRel]
        right
        refine ⟨B, off + 32 * k * 4, e, by rw [hpl], by rw [hpl]; exact Nat.le_refl _, ?_, by simp [TokOk]⟩
        have := (RowsAt.mono hle1 rows B off 4 hrow).sub (32 * k) (32 * k + e)
        rwa [hpk] at this
      obtain ⟨fn, tmps, assign, body, hy, hR⟩ := hround k (.sl 4 (partK rows k) .none) σ1 K1 _ (by simp [hkn]) hS1 hle1 hw2 _ hvr
      clear he hpl
      gi_wp2
      refine ⟨rfl, hR.mono ?_⟩
      rintro e' W3 ⟨rfl, K2, σ2, hle2, hw3, hS2⟩
      have c3 := hreadn K2 σ2 W3 (Kn.le_trans hle1 hle2) hw3
      gi_wp2
      go_roundw
      case rel => exact ⟨k + 1, by omega, by simp; omega, K2, σ2, Kn.le_trans hle1 hle2, hw3, hS2⟩
      case measure => simp [intOf]; omega
    · obtain rfl : k = partsN rows.length := by unfold partsN at *; omega
      gi_wp2
      refine bodyPost_end (results_none rfl _ _ _) rfl ?_
      exact ⟨⟨_, rfl⟩, K1, σ1, hle1, hw1, by simpa using hS1⟩
end
end Go.Proofs.YtpjdjolphpfanaaGreatDoor
end
