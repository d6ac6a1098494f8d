import Derived.Test.YtkodonalmdmgpaaGreatDoorSv32
import Derived.Test.YtkodonalmdmgpaaGreatDoorSv34
set_option maxRecDepth 100000
set_option linter.all false
set_option linter.defProp false
section
namespace Go.Proofs.YtkodonalmdmgpaaGreatDoor
open Go Go.Abs
theorem valids3w (hw:Pure Tryz.prog GG 6 [] (.bool true)) (s:Sti) (h:HoldT s) (hn:(preT s).length≤2000000):Pure Tryz.prog GG 3 [.agg (encT s)] (.bool true):=by
 refine Pure.k mixed Tryz.func3 rfl (by kernel_rfl) ?_
 have h4:=nodes4 s h 0 (by omega)
 have h5:=brief5 s h 0 (by omega)
 have h7:=valid7 s h
 have h8:=valid8 s h
 have h9:=size9 s h hn
 have h10:=size10 s h
 have h11:=length11 s h
 have h12:=length12 s h
 generalize ndT s 0=n at *
 generalize brT s 0=b at *
 generalize (if validT s=0 then ((preT s).length:Int) else 0)=z at *
 generalize (if validT s=0 then lenT s else 0)=l at *
 generalize validT s=v at *
 simp only [encT_eq s] at *
 simp [-getElem?_pos]
 refine kCall.call h4 (by simp) ?_
 by_cases c1:55<n
 · simp [-getElem?_pos,c1]
   refine kCall.call hw (by simp) ?_
   simp [-getElem?_pos]
 simp [-getElem?_pos,c1]
 refine kCall.call h5 (by simp) ?_
 cases b
 · simp [-getElem?_pos]
   refine kCall.call hw (by simp) ?_
   simp [-getElem?_pos]
 simp [-getElem?_pos]
 refine kCall.call h7 (by simp) ?_
 simp [-getElem?_pos]
 refine kCall.call h8 (by simp) ?_
 simp [-getElem?_pos]
 refine kCall.call h9 (by simp) ?_
 simp [-getElem?_pos]
 refine kCall.call h10 (by simp) ?_
 simp [-getElem?_pos]
 refine kCall.call h11 (by simp) ?_
 simp [-getElem?_pos]
 refine kCall.call h12 (by simp) ?_
 simp [-getElem?_pos]
 refine kCall.call hw (by simp) ?_
 simp [-getElem?_pos]
end Go.Proofs.YtkodonalmdmgpaaGreatDoor
end
