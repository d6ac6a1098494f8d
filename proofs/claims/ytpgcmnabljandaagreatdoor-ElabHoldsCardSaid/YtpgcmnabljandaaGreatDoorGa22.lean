/- A part of the proof: Walk24 Walk25. -/
import Derived.Test.YtpgcmnabljandaaGreatDoorGa21
import Derived.Test.YtpgcmnabljandaaGreatDoorGa20
set_option linter.unusedVariables false
set_option linter.unusedSimpArgs false
set_option maxRecDepth 100000
section
namespace Go.Proofs.YtpgcmnabljandaaGreatDoor
open Go Go.Abs
structure VQ (p:Problem):Prop where
 vars:p.vars.length≤1000
 names:∀ v∈p.vars,Fits v.name
 hard:p.hard.length≤10000
 soft:p.soft.length≤10000
 exprs:∀ e∈p.hard++p.soft,Wen e∧hgt e≤1000∧(pre e).length≤100000
 dists:Fits p.dists
 weights:∀ d∈p.dists,Fits d.weights
 groups:Fits p.groups
 group:∀ g∈p.groups,Fits g
theorem checks50 (fs:List (FuncId×Int)) (c:AV) (hc:noRef c=true) (hl:Fits fs) (h:∀ q∈fs,Pure Tryz.prog GG q.1 [c] (.int .i64 q.2)):Pure Tryz.prog GG 50 [.sl 1 (fs.map fun q=>[.fn q.1 [] [c]]) .none] (.int .i64 (firstE (fun q=>q.2) fs)):=by
 refine Pure.vc mixed Tryz.func50 rfl (by kernel_rfl) ?_
 simp
 refine vcLoop.intro (fun n env σ=>∃ i,i≤fs.length∧n=fs.length-i∧env 6=.sl 1 (fs.map fun q=>[.fn q.1 [] [c]]) .none∧env 7=.int .i64 fs.length∧env 8=.int .i64 i∧σ=⟨[],[]⟩∧∀ q∈fs.take i,q.2=0) fs.length ⟨0,by simp⟩ ?_
 rintro n env σ ⟨i,hi,rfl,h6,h7,h8,rfl,hz⟩
 cases hv:fs[i]? with
 | some q=>
  obtain⟨hc1,hv'⟩:=List.getElem?_eq_some_iff.1 hv
  have hm:=List.mem_of_getElem? hv
  simp [h6,h7,h8,hc1,hv']
  refine vcCall.call (h q hm) (by simp [hc]) ?_
  by_cases h0:q.2=0
  · simp [h0,h6,h7,h8]
    exact⟨_,by omega,i+1,by omega,rfl,wr (by omega) (by omega),by simpa using take_succ_all (p:=fun q:FuncId×Int=>q.2=0) hv hz h0⟩
  · rw [firstE_of hv hz h0]
    simp [h0]
 | none=>
  have hc1:¬ i<fs.length:=by simp at hv;omega
  have ht:fs.take i=fs:=List.take_of_length_le (by omega)
  rw [ht] at hz
  rw [firstE_zero.2 hz]
  simp [h6,h7,h8,hc1]
theorem c61 (p:Problem) (h:VQ p):Pure Tryz.prog GG 61 [.rptr (encP p)] (.int .i64 (varsS p.vars)):=by
 refine Pure.vc mixed Tryz.func61 rfl (by kernel_rfl) ?_
 simp
 refine vcCall.call (vars62 p.vars (by have:=h.vars;omega) h.names) (by simp) ?_
 simp
theorem c63 (p:Problem) (h:VQ p):Pure Tryz.prog GG 63 [.rptr (encP p)] (.int .i64 (firstE (exprE p.vars) (p.hard++p.soft))):=by
 refine Pure.vc mixed Tryz.func63 rfl (by kernel_rfl) ?_
 have:=exprs64 p (by have:=h.vars;omega) h.hard h.soft h.exprs
 simp only [encP] at this
 simp
 refine vcCall.call this (by simp) ?_
 simp
theorem c65 (p:Problem) (h:VQ p):Pure Tryz.prog GG 65 [.rptr (encP p)] (.int .i64 (distsS p.vars p.dists)):=by
 refine Pure.vc mixed Tryz.func65 rfl (by kernel_rfl) ?_
 have:=dists66 p h.dists h.weights
 simp only [encP] at this
 simp
 refine vcCall.call this (by simp) ?_
 simp
theorem c67 (p:Problem) (h:VQ p):Pure Tryz.prog GG 67 [.rptr (encP p)] (.int .i64 (groupsS p.vars p.groups)):=by
 refine Pure.vc mixed Tryz.func67 rfl (by kernel_rfl) ?_
 have:=groups68 p h.vars h.groups h.group
 simp only [encP] at this
 simp
 refine vcCall.call this (by simp) ?_
 simp
theorem validP_first (p:Problem):firstE (fun q:FuncId×Int=>q.2) [(61,varsS p.vars),(63,firstE (exprE p.vars) (p.hard++p.soft)),(65,distsS p.vars p.dists),(67,groupsS p.vars p.groups)]=validP p:=by
 simp only [firstE,validP]
 by_cases h1:varsS p.vars=0
 · by_cases h2:firstE (exprE p.vars) (p.hard++p.soft)=0
   · by_cases h3:distsS p.vars p.dists=0
     · by_cases h4:groupsS p.vars p.groups=0<;>simp [h1,h2,h3,h4]
     · simp [h1,h2,h3]
   · simp [h1,h2]
 · simp [h1]
theorem valid14q (p:Problem) (h:VQ p):Pure Tryz.prog GG 14 [.agg (encP p)] (.int .i64 (validP p)):=by
 refine Pure.vc mixed Tryz.func14 rfl (by kernel_rfl) ?_
 have hk:=checks50 [(61,varsS p.vars),(63,firstE (exprE p.vars) (p.hard++p.soft)),(65,distsS p.vars p.dists),(67,groupsS p.vars p.groups)] (.rptr (encP p)) (by simp) (by simp) (by
  intro q hq
  simp only [List.mem_cons,List.not_mem_nil,or_false] at hq
  rcases hq with rfl|rfl|rfl|rfl
  · exact c61 p h
  · exact c63 p h
  · exact c65 p h
  · exact c67 p h)
 rw [validP_first] at hk
 simp [buildSliceA,rowsFill]
 refine vcCall.lent hk rfl ?_ ?_
 · simp [frz]
 · simp
end Go.Proofs.YtpgcmnabljandaaGreatDoor
end
