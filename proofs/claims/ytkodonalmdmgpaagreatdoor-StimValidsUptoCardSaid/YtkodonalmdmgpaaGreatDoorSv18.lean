import Derived.Test.YtkodonalmdmgpaaGreatDoorSv14
import Derived.Test.YtkodonalmdmgpaaGreatDoorSv17
import Derived.Test.YtkodonalmdmgpaaGreatDoorSv13
set_option maxRecDepth 100000
set_option linter.all false
set_option linter.defProp false
section
namespace Go.Proofs.YtkodonalmdmgpaaGreatDoor
open Go Go.Abs
theorem firstE_at {α:Type} {f:α→Int} {d r:List α} {v:α} (hz:∀ x∈d,f x=0) (hv:f v≠0):firstE f (d++v::r)=f v:=by
 rw [firstE_append,if_pos (firstE_zero.2 hz),firstE,if_neg hv]
theorem hz_snoc {α:Type} {q:α→Prop} {d:List α} {v:α} (hz:∀ x∈d,q x) (hv:q v):∀ x∈d++[v],q x:=fun x hx=>by
 rcases List.mem_append.1 hx with h|h
 · exact hz x h
 · simp at h;rw [h];exact hv
theorem hz_or {α:Type} {q:α→Prop} {d:List α} {v:α} (hz:∀ x∈d,q x) (hv:q v):∀ x,x∈d∨x=v→q x:=fun x hx=>by
 rcases hx with h|rfl
 · exact hz x h
 · exact hv
end Go.Proofs.YtkodonalmdmgpaaGreatDoor
end
