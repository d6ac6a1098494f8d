/- A part of the proof: Walk42 Walk43. -/
import Derived.Test.YtpgcmnabljandaaGreatDoorGa17
import Derived.Test.YtpgcmnabljandaaGreatDoorGa32
import Derived.Test.YtpgcmnabljandaaGreatDoorGa33
set_option linter.unusedVariables false
set_option linter.unusedSimpArgs false
set_option maxRecDepth 100000
section
namespace Go.Proofs.YtpgcmnabljandaaGreatDoor
open Go Go.Abs
section
attribute [local simp high] acells_encE
attribute [local simp] acells_int acells_str acells_bool acells_sl acells_agg encE_atoms encE_len putAt_encE putAt_encE2 take_encE
set_option maxHeartbeats 1000000 in
theorem copied117:∀ e,Slim e→Pure Tryz.prog GG 117 [.agg (encE e)] (.agg (encE e)):=by
 refine Ex.ind fun e ih hs=>?_
 refine Pure.vc mixed Tryz.func117 rfl (by kernel_rfl) ?_
 have hfa:=hs.self
 simp [-acells]
 simp [-acells,encE_eq e]
 refine vcLoop.intro (fun n ev σ=>∃ i tl,i≤e.args.length∧n=e.args.length-i∧ev 1=.ptr 0 0∧ev 2=.ptr 1 0∧ev 3=outK 4 encE (e.args.take i)∧ev 7=.sl 4 (e.args.map encE) .none∧ev 8=.int .i64 e.args.length∧ev 9=.int .i64 i∧σ=⟨.cells (encE e)::.cells [.int .i64 0,.int .i64 0,.str [],.sl 0 [] .nil]::tl,outTK (e.args.take i)⟩) e.args.length ⟨0,[],by simp,by simp,by simp,by simp,by simp,by simp,by simp,by simp,by simp [encE_eq e]⟩ ?_
 rintro n ev σ ⟨i,tl,hi,rfl,h1,h2,h3,h7,h8,h9,rfl⟩
 cases hv:e.args[i]? with
 | some a=>
  obtain⟨hc,hv'⟩:=List.getElem?_eq_some_iff.1 hv
  have hm:=List.mem_of_getElem? hv
  have ih:=ih a hm (hs.arg hm)
  have ht:e.args.take (i+1)=e.args.take i++[a]:=by rw [List.take_add_one,hv];rfl
  have hRl:(e.args.take i).length≤1000:=by simp;omega
  generalize hR:e.args.take i=R at h3 ht hRl ⊢
  cases R with
  | nil=>
   simp only [outK] at h3
   simp [-acells,h1,h2,h3,h7,h8,h9,hc,hv',List.set_append]
   refine vcCall.call ih (by simp) ?_
   simp [-acells,h1,h2,h3,h7,h8,h9,appendA,buildSliceA,rowsFill,rowsOf]
   exact⟨_,by omega,i+1,by omega,rfl,by rw [ht];simp [outK],wr (by omega) (by omega),by rw [ht];simp [outTK]⟩
  | cons b r=>
   have hb:r.length≤1073741822:=by simp at hRl;omega
   simp only [outK] at h3
   simp [-acells,h1,h2,h3,h7,h8,h9,hc,hv',List.set_append]
   refine vcCall.call ih (by simp) ?_
   simp [-acells,h1,h2,h3,h7,h8,h9,appendA,buildSliceA,rowsFill,rowsOf,outTK,hb]
   exact⟨_,by omega,i+1,by omega,rfl,by rw [ht];simp [outK],wr (by omega) (by omega),by rw [ht];simp⟩
 | none=>
  have hc:¬ i<e.args.length:=by simp at hv;omega
  rw [List.take_of_length_le (by omega)] at h3 ⊢
  have q:=fun H=>outK_fin (sz:=4) (en:=encE) e.args H nrE'
  simp [-acells,h1,h2,h3,h7,h8,h9,hc,encE_eq e,outK_atom,acells_ex]
  exact q _
end
section
attribute [local simp high] acells_encE
attribute [local simp] acells_int acells_str acells_bool acells_sl acells_agg encE_atoms encE_len putAt_encE putAt_encE2 take_encE
end
end Go.Proofs.YtpgcmnabljandaaGreatDoor
end
