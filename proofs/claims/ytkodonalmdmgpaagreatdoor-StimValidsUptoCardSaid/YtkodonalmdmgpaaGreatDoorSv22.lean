import Derived.Test.YtkodonalmdmgpaaGreatDoorSv19
import Derived.Test.YtkodonalmdmgpaaGreatDoorSv20
import Derived.Test.YtkodonalmdmgpaaGreatDoorSv21
set_option maxRecDepth 100000
set_option linter.all false
set_option linter.defProp false
section
namespace Go.Proofs.YtkodonalmdmgpaaGreatDoor
open Go Go.Abs
theorem validE_var (s:Str):decide (validE (.mk 2 0 s [])=0)=varS s:=by
 have hp:pre (Ex.mk 2 0 s [])=[.mk 2 0 s []]:=by simp [pre_eq]
 have hh:hgt (Ex.mk 2 0 s [])=1:=by simp [hgt_eq]
 unfold validE sizeS
 rw [hp,hh]
 simp [firstE,nodeE,operandsS,arityS,IntKind.wrap,IntKind.bits,IntKind.signed]
theorem isVar314 (s:Str) (hs:Fits s):Pure Tryz.prog GG 90 [.str s] (.bool (varS s)):=by
 refine Pure.k mixed Tryz.func90 rfl (by kernel_rfl) ?_
 have hp:pre (Ex.mk 2 0 s [])=[.mk 2 0 s []]:=by simp [pre_eq]
 simp [-getElem?_pos]
 refine kCall.less (valid88 (.mk 2 0 s []) (fun x hx=>by rw [hp] at hx;simp at hx;subst hx;exact⟨by simp [Fits],hs⟩) (by simp [hgt_eq])) (by simp) (by simp [encE]) ?_
 simp [-getElem?_pos]
 rw [← validE_var]
 rfl
/-- What the kinds use, as the program's table has it. -/
def usesOf (k:Int):Option (List AV) :=
 if k=1 then some [.bool true,.bool false,.bool false,.bool false,.bool false,.bool false,.bool false]
 else if k=2 then some [.bool true,.bool false,.bool false,.bool false,.bool false,.bool false,.bool false]
 else if k=3 then some [.bool false,.bool true,.bool false,.bool true,.bool false,.bool false,.bool false]
 else if k=4 then some [.bool true,.bool false,.bool false,.bool false,.bool true,.bool true,.bool false]
 else if k=5 then some [.bool false,.bool true,.bool true,.bool false,.bool true,.bool false,.bool false]
 else if k=6 then some [.bool false,.bool false,.bool false,.bool false,.bool false,.bool false,.bool true]
 else none
def kindsM:List (AV×AV×Nat):=[(I_ 1,.agg [.bool true,.bool false,.bool false,.bool false,.bool false,.bool false,.bool false],0),
 (I_ 2,.agg [.bool true,.bool false,.bool false,.bool false,.bool false,.bool false,.bool false],1),
 (I_ 3,.agg [.bool false,.bool true,.bool false,.bool true,.bool false,.bool false,.bool false],2),
 (I_ 4,.agg [.bool true,.bool false,.bool false,.bool false,.bool true,.bool true,.bool false],3),
 (I_ 5,.agg [.bool false,.bool true,.bool true,.bool false,.bool true,.bool false,.bool false],4),
 (I_ 6,.agg [.bool false,.bool false,.bool false,.bool false,.bool false,.bool false,.bool true],5)]
theorem kinds311 (σ:St):ACall Tryz.prog GG 87 [] σ (fun r σ'=>r=.map σ.H.length∧σ'=σ.push (.map kindsM 6)):=by
 refine ACall.k mixed Tryz.func87 rfl (by kernel_rfl) ?_
 simp [-getElem?_pos,mapUpdateA,mapKeyOk,findA,keyEq]
 rfl
theorem len_zero {α:Type} {l:List α}:(((l.length:Int)==0):Bool)=decide (l=[]):=by
 cases l with
 | nil=>rfl
 | cons a r=>simp;omega
set_option maxHeartbeats 8000000 in
theorem plain312 (x:It) (us:List AV) (h:usesOf x.kind=some us) (hb:x.before.length≤2000000) (ha:x.after.length≤2000000):Pure Tryz.prog GG 88 [.agg (encI x),.agg us] (.bool (plainI x)):=by
 refine Pure.k mixed Tryz.func88 rfl (by kernel_rfl) ?_
 have hr:plainI x=((exprK x.kind||blankE x.expr)&&(nameK x.kind||decide (x.name=[]))&&(decide (x.kind=5)||decide (x.index=[]))&&(decide (x.kind=3)||decide (x.ws=[])) &&
  (decide (x.kind=4∨x.kind=5)||decide (x.items=[]))&&(decide (x.kind=4)||decide (x.els=[]))&&(decide (x.kind=6)||(decide (x.before=[])&&decide (x.after=[])))):=rfl
 generalize plainI x=r at hr
 have hbl:=blank363 x.expr
 have hw:IntKind.i64.wrap ((x.before.length:Int)+x.after.length)=x.before.length+x.after.length:=wr (by omega) (by omega)
 have hz:((x.before.length:Int)+x.after.length==0)=(decide (x.before=[])&&decide (x.after=[])):=by
  cases x.before<;>cases x.after<;>simp<;>omega
 rw [encE_eq] at hbl
 have hk:x.kind=1∨x.kind=2∨x.kind=3∨x.kind=4∨x.kind=5∨x.kind=6:=by
  unfold usesOf at h
  grind
 simp only [encI_eq,encE_eq]
 rcases hk with hk|hk|hk|hk|hk|hk
 · rw [hk] at h
   simp [usesOf] at h
   subst h
   simp [hk,exprK,nameK] at hr
   simp [len_zero,hw,hz]
   grind
 · rw [hk] at h
   simp [usesOf] at h
   subst h
   simp [hk,exprK,nameK] at hr
   simp [len_zero,hw,hz]
   grind
 · rw [hk] at h
   simp [usesOf] at h
   subst h
   simp [hk,exprK,nameK] at hr
   simp
   refine kCall.call hbl (by simp) ?_
   cases hB:blankE x.expr
   · rw [hB] at hr
     simp
     simp at hr
     first | exact hr | exact hr.symm
   · rw [hB] at hr
     simp [len_zero,hw,hz]
     grind
 · rw [hk] at h
   simp [usesOf] at h
   subst h
   simp [hk,exprK,nameK] at hr
   simp [len_zero,hw,hz]
   grind
 · rw [hk] at h
   simp [usesOf] at h
   subst h
   simp [hk,exprK,nameK] at hr
   simp
   refine kCall.call hbl (by simp) ?_
   cases hB:blankE x.expr
   · rw [hB] at hr
     simp
     simp at hr
     first | exact hr | exact hr.symm
   · rw [hB] at hr
     simp [len_zero,hw,hz]
     grind
 · rw [hk] at h
   simp [usesOf] at h
   subst h
   simp [hk,exprK,nameK] at hr
   simp
   refine kCall.call hbl (by simp) ?_
   cases hB:blankE x.expr
   · rw [hB] at hr
     simp
     simp at hr
     first | exact hr | exact hr.symm
   · rw [hB] at hr
     simp [len_zero]
     grind
end Go.Proofs.YtkodonalmdmgpaaGreatDoor
end
