import Derived.Test.YtkodonalmdmgpaaGreatDoorSv18
import Derived.Test.YtkodonalmdmgpaaGreatDoorSv15
set_option maxRecDepth 100000
set_option linter.all false
set_option linter.defProp false
section
namespace Go.Proofs.YtkodonalmdmgpaaGreatDoor
open Go Go.Abs
/-- A constraint whose lists are short. -/
structure Low1 (x:It):Prop where
 slim:Slim x.expr
 wen:Wen x.expr
 ws:x.ws.length≤2000000
 items:x.items.length≤2000000
 els:x.els.length≤2000000
 before:x.before.length≤2000000
 after:x.after.length≤2000000
def LowI (x:It):Prop:=∀ y∈preI x,Low1 y
theorem LowI.self {x:It} (h:LowI x):Low1 x:=h x (by rw [preI_eq];simp)
theorem LowI.item {x y:It} (h:LowI x) (hy:y∈x.items):LowI y:=fun z hz=>h z (by rw [preI_eq];exact List.mem_cons_of_mem _ (List.mem_append_left _ (mem_preIL.2 ⟨y,hy,hz⟩)))
theorem LowI.els {x y:It} (h:LowI x) (hy:y∈x.els):LowI y:=fun z hz=>h z (by rw [preI_eq];exact List.mem_cons_of_mem _ (List.mem_append_right _ (mem_preIL.2 ⟨y,hy,hz⟩)))
theorem blank363 (e:Ex):Pure Tryz.prog GG 134 [.agg (encE e)] (.bool (blankE e)):=by
 refine Pure.k mixed Tryz.func134 rfl (by kernel_rfl) ?_
 have hr:blankE e=(decide (e.op=0)&&decide (e.n=0)&&decide (e.name=[])&&decide (e.args=[])):=rfl
 simp only [encE_eq]
 simp [-getElem?_pos]
 rw [hr]
 have hlen:(((e.args.length:Int)==0):Bool)=decide (e.args=[]):=by
  cases e.args with
  | nil=>rfl
  | cons a r=>simp;omega
 rw [hlen]
 repeat' first | (refine And.intro ?_ ?_) | (intro _)
 all_goals simp_all
theorem weights313 (l:List Weight) (hl:Fits l):Pure Tryz.prog GG 89 [sW l] (I_ (weightsE l)):=by
 refine Pure.k mixed Tryz.func89 rfl (by kernel_rfl) ?_
 have hr:weightsE l=if 16<l.length then 2 else if l=[] then 1 else if l.any weightB=true then 1 else 0:=rfl
 generalize weightsE l=r at hr
 by_cases h1:(16:Int)<l.length
 · rw [if_pos (by omega)] at hr
   subst hr
   simp [-getElem?_pos,h1]
 · by_cases h2:l=[]
   · subst h2
     simp at hr
     subst hr
     simp [-getElem?_pos]
   rw [if_neg (by omega),if_neg h2] at hr
   simp [-getElem?_pos,h1,h2]
   refine kLoop.list l (fun d ev σ=>ev 13=sW l∧ev 14=I_ l.length∧ev 15=I_ d.length∧(∃ H,σ=⟨H,[]⟩)∧∀ x∈d,weightB x=false) (by simp) ?_ ?_
   · rintro d v r' ev σ hd hv hlt ⟨h13,h14,h15,⟨H,rfl⟩,hz⟩
     have hbad:weightB v=true→r=1:=fun h=>by rw [hr,if_pos (List.any_eq_true.2 ⟨v,List.mem_of_getElem? hv,h⟩)]
     have hw:weightB v=(decide (v.lo<0)||decide (v.hi<v.lo)||decide (65535<v.hi)||decide (v.weight<0)||decide (1000<v.weight)):=rfl
     have hwr:IntKind.i64.wrap ((d.length:Int)+1)=d.length+1:=wr (by omega) (by omega)
     have hsn:weightB v=false→∀ x,x∈d∨x=v→weightB x=false:=hz_or hz
     simp [-getElem?_pos,h13,h14,h15,hlt,hv,hwr]
     rw [hw] at hbad hsn
     repeat' first | (refine And.intro ?_ ?_) | (intro _)
     all_goals first | (exact (hbad (by simp;omega)).symm) | (apply hsn<;>first | assumption | (simp;omega))
   · rintro ev σ ⟨h13,h14,h15,⟨H,rfl⟩,hz⟩
     rw [if_neg (by rw [List.any_eq_true];rintro⟨x,hx,h⟩;rw [hz x hx] at h;cases h)] at hr
     subst hr
     simp [-getElem?_pos,h14,h15]
theorem preIL_append:∀ {l m:List It},preIL (l++m)=preIL l++preIL m
 | [],m=>by simp [preIL]
 | x::r,m=>by simp [preIL,preIL_append (l:=r),List.append_assoc]
theorem wrap_size (n a b:Int):IntKind.i64.wrap (IntKind.i64.wrap n+IntKind.i64.wrap (IntKind.i64.wrap (1+IntKind.i64.wrap a)+IntKind.i64.wrap b))=IntKind.i64.wrap (n+(1+a+b)):=by
 simp [IntKind.wrap,IntKind.bits,IntKind.signed]
 omega
theorem size243L (l:List It) (hl:Fits l) (h:∀ x∈l,Pure Tryz.prog GG 54 [sI x.items] (I_ (sizeIS x.items))∧Pure Tryz.prog GG 54 [sI x.els] (I_ (sizeIS x.els))) :
 Pure Tryz.prog GG 54 [sI l] (I_ (sizeIS l)):=by
 refine Pure.k mixed Tryz.func54 rfl (by kernel_rfl) ?_
 simp [-getElem?_pos]
 refine kLoop.list l (fun d ev σ=>ev 3=I_ (sizeIS d)∧ev 6=sI l∧ev 7=I_ l.length∧ev 8=I_ d.length∧∃ H,σ=⟨H,[]⟩) (by simp [sizeIS,preIL,IntKind.wrap,IntKind.bits,IntKind.signed]) ?_ ?_
 · rintro d v r ev σ hd hv hlt ⟨h3,h6,h7,h8,⟨H,rfl⟩⟩
   obtain⟨p1,p2⟩:=h v (List.mem_of_getElem? hv)
   have hw:IntKind.i64.wrap (sizeIS d+IntKind.i64.wrap (IntKind.i64.wrap (1+sizeIS v.items)+sizeIS v.els))=sizeIS (d++[v]):=by
    unfold sizeIS
    rw [wrap_size]
    congr 1
    rw [preIL_append]
    simp [preIL,preI_eq v]
    omega
   simp [-getElem?_pos,h3,h6,h7,h8,hlt,hv,encI_eq,encE_eq]
   refine kCall.call p1 (by simp) ?_
   simp [-getElem?_pos]
   refine kCall.call p2 (by simp) ?_
   simp [-getElem?_pos,h6,h7,h8,hw]
   exact wr (by omega) (by omega)
 · rintro ev σ ⟨h3,h6,h7,h8,⟨H,rfl⟩⟩
   simp [-getElem?_pos,h3,h7,h8]
theorem HoldI.itemB {x y:It} (h:HoldI x) (hy:y∈x.items):HoldI y:=fun z hz=>h z (by rw [preI_eq];exact List.mem_cons_of_mem _ (List.mem_append_left _ (mem_preIL.2 ⟨y,hy,hz⟩)))
theorem HoldI.elsB {x y:It} (h:HoldI x) (hy:y∈x.els):HoldI y:=fun z hz=>h z (by rw [preI_eq];exact List.mem_cons_of_mem _ (List.mem_append_right _ (mem_preIL.2 ⟨y,hy,hz⟩)))
theorem size243x:∀ x,HoldI x→Pure Tryz.prog GG 54 [sI x.items] (I_ (sizeIS x.items))∧Pure Tryz.prog GG 54 [sI x.els] (I_ (sizeIS x.els)) :=
 It.ind fun x h1 h2 hl=>⟨size243L x.items (hl x (by rw [preI_eq];simp)).items fun y hy=>h1 y hy (hl.itemB hy),size243L x.els (hl x (by rw [preI_eq];simp)).els fun y hy=>h2 y hy (hl.elsB hy)⟩
theorem size243 (l:List It) (hl:Fits l) (h:∀ x∈l,HoldI x):Pure Tryz.prog GG 54 [sI l] (I_ (sizeIS l)):=size243L l hl fun x hx=>size243x x (h x hx)
end Go.Proofs.YtkodonalmdmgpaaGreatDoor
end
