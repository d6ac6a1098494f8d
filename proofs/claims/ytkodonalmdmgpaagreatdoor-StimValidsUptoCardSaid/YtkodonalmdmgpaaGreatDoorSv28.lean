import Derived.Test.YtkodonalmdmgpaaGreatDoorSv26
set_option maxRecDepth 100000
set_option linter.all false
set_option linter.defProp false
section
namespace Go.Proofs.YtkodonalmdmgpaaGreatDoor
open Go Go.Abs
/-- Short lists, small expressions. -/
structure Wee1 (x:It):Prop where
 low:Low1 x
 size:(pre x.expr).length≤1999999
def WeeI (x:It):Prop:=∀ y∈preI x,Wee1 y
theorem WeeI.self {x:It} (h:WeeI x):Wee1 x:=h x (by rw [preI_eq];simp)
theorem WeeI.item {x y:It} (h:WeeI x) (hy:y∈x.items):WeeI y:=fun z hz=>h z (by rw [preI_eq];exact List.mem_cons_of_mem _ (List.mem_append_left _ (mem_preIL.2 ⟨y,hy,hz⟩)))
theorem WeeI.els {x y:It} (h:WeeI x) (hy:y∈x.els):WeeI y:=fun z hz=>h z (by rw [preI_eq];exact List.mem_cons_of_mem _ (List.mem_append_right _ (mem_preIL.2 ⟨y,hy,hz⟩)))
theorem WeeI.lowI {x:It} (h:WeeI x):LowI x:=fun y hy=>(h y hy).low
/-! ### How deep constraints are nested -/
mutual
def nestI:It→Nat
 | .mk _ _ _ _ _ l m _ _=>1+max (nestL l) (nestL m)
def nestL:List It→Nat
 | []=>0
 | x::r=>max (nestI x) (nestL r)
end
theorem nestI_eq (x:It):nestI x=1+max (nestL x.items) (nestL x.els):=by cases x;simp [nestI,It.items,It.els]
theorem nestL_mem {l:List It} {x:It} (h:x∈l):nestI x≤nestL l:=by
 induction l with
 | nil=>cases h
 | cons a r ih=>
  simp only [nestL]
  rcases List.mem_cons.1 h with rfl|h
  · omega
  · have:=ih h;omega
theorem nestL_le {l:List It} {n:Nat} (h:∀ x∈l,nestI x≤n):nestL l≤n:=by
 induction l with
 | nil=>simp [nestL]
 | cons a r ih=>
  have h1:=h a (by simp)
  have h2:=ih fun x hx=>h x (by simp [hx])
  simp only [nestL];omega
theorem nestI_item {x y:It} (h:y∈x.items):nestI y<nestI x:=by
 have:=nestL_mem h
 rw [nestI_eq x];omega
theorem nestI_els {x y:It} (h:y∈x.els):nestI y<nestI x:=by
 have:=nestL_mem h
 rw [nestI_eq x];omega
/-- What a constraint is whose shape is right. -/
structure Shape1 (x:It):Prop where
 kind:1≤x.kind∧x.kind≤6
 plain:plainI x=true
 dist:x.kind=3→varS x.name=true∧weightsE x.ws=0
 solve:x.kind=6→x.before≠[]∧x.after≠[]∧∀ s∈x.before++x.after,varS s=true
 each:x.kind=5→nameS x.name=true∧nameS x.index=true
 expr:x.kind≠3→x.kind≠5→x.kind≠6→validE x.expr=0
theorem shapeE_zero {x:It} {d:Nat} (h:shapeE x d=0):Shape1 x:=by
 unfold shapeE at h
 split at h
 · cases h
 rename_i h1
 have hk:knownK x.kind=true:=by
  cases e:knownK x.kind with
  | true=>rfl
  | false=>exact absurd (.inl e) h1
 have hp:plainI x=true:=by
  cases e:plainI x with
  | true=>rfl
  | false=>exact absurd (.inr (.inl e)) h1
 have hk':1≤x.kind∧x.kind≤6:=by simpa [knownK] using hk
 split at h
 · rename_i k3
   split at h
   · rename_i hw;exact absurd h hw
   rename_i hw
   split at h
   · cases h
   rename_i hv
   exact⟨hk',hp,fun _=>⟨by simpa using hv,Classical.not_not.1 hw⟩,by omega,by omega,by omega⟩
 rename_i k3
 split at h
 · rename_i k6
   split at h
   · cases h
   rename_i hb
   split at h
   · cases h
   rename_i hv
   refine⟨hk',hp,by omega,fun _=>⟨fun e=>hb (.inl e),fun e=>hb (.inr e),fun s hs=>?_⟩,by omega,by omega⟩
   cases e:varS s with
   | true=>rfl
   | false=>exact absurd (List.any_eq_true.2 ⟨s,hs,by simp [e]⟩) hv
 rename_i k6
 split at h
 · rename_i k5
   split at h
   · cases h
   rename_i hn
   refine⟨hk',hp,by omega,by omega,fun _=>⟨?_,?_⟩,by omega⟩
   · cases e:nameS x.name with
     | true=>rfl
     | false=>exact absurd (.inl e) hn
   · cases e:nameS x.index with
     | true=>rfl
     | false=>exact absurd (.inr e) hn
 rename_i k5
 exact⟨hk',hp,by omega,by omega,by omega,fun _ _ _=>h⟩
theorem plain_leaf {x:It} (h:Shape1 x) (h4:x.kind≠4):x.els=[]∧(x.kind≠5→x.items=[]):=by
 have hp:=h.plain
 simp only [plainI,Bool.and_eq_true,Bool.or_eq_true,decide_eq_true_eq] at hp
 obtain⟨⟨⟨⟨⟨⟨a1,a2⟩,a3⟩,a4⟩,a5⟩,a6⟩,a7⟩:=hp
 refine⟨a6.resolve_left h4,fun h5=>a5.resolve_left (by omega)⟩
theorem Few.wee {l:List It} (h:Few l):∀ x∈l,WeeI x:=fun x hx y hy=>⟨h.low y (mem_preIL.2 ⟨x,hx,hy⟩),h.size y (mem_preIL.2 ⟨x,hx,hy⟩)⟩
theorem preIL_le {l:List It} {x:It} (h:x∈l):(preI x).length≤(preIL l).length:=by
 induction l with
 | nil=>cases h
 | cons a r ih=>
  simp only [preIL,List.length_append]
  rcases List.mem_cons.1 h with rfl|h
  · omega
  · have:=ih h;omega
theorem nest_pre:∀ x:It,nestI x≤(preI x).length:=by
 refine It.ind fun x h1 h2=>?_
 rw [nestI_eq,preI_eq]
 have a:nestL x.items≤(preIL x.items).length:=nestL_le fun y hy=>Nat.le_trans (h1 y hy) (preIL_le hy)
 have b:nestL x.els≤(preIL x.els).length:=nestL_le fun y hy=>Nat.le_trans (h2 y hy) (preIL_le hy)
 simp only [List.length_cons,List.length_append]
 omega
theorem Few.nest {l:List It} (h:Few l):∀ x∈l,nestI x≤2000000:=fun x hx=>by
 have:=nest_pre x
 have:=preIL_le hx
 have:=h.all
 omega
theorem all_bad {α:Type} {p:α→Bool} {l:List α} {a:α} (h:a∈l) (hp:p a=false):l.all p=false:=by
 rw [Bool.eq_false_iff]
 intro e
 rw [List.all_eq_true.1 e a h] at hp;cases hp
theorem asks209 (k:Int):Pure Tryz.prog GG 196 [I_ k] (.bool (exprK k)):=by
 refine Pure.k mixed Tryz.func196 rfl (by kernel_rfl) ?_
 have hr:exprK k=decide (k=1∨k=2∨k=4):=rfl
 generalize exprK k=r at hr
 by_cases h1:k=1
 · subst h1;simp [-getElem?_pos,hr]
 by_cases h2:k=2
 · subst h2;simp [-getElem?_pos,hr]
 by_cases h4:k=4
 · subst h4;simp [-getElem?_pos,hr]
 simp [-getElem?_pos,hr,h1,h2,h4]
theorem vars374 (l:List Str) (hl:Fits l) (hs:∀ s∈l,Fits s):Pure Tryz.prog GG 143 [.sl 1 (l.map encStr) .none] (.bool (l.all varS)):=by
 refine Pure.k mixed Tryz.func143 rfl (by kernel_rfl) ?_
 generalize hr:l.all varS=r
 simp [-getElem?_pos]
 refine kLoop.listR l (fun d ev σ=>ev 0=.sl 1 (l.map encStr) .none∧ev 3=I_ d.length∧(∃ H,σ=⟨H,[]⟩)∧∀ x∈d,varS x=true) ?_ ?_ ?_
 · exact⟨by simp,by simp,⟨_,rfl⟩,by simp⟩
 · rintro d x rest ev σ R hR hd hx hlt ⟨h0,h3,⟨H,rfl⟩,hz⟩
   have hdw:IntKind.i64.wrap ((d.length:Int)+1)=(d.length+1:Nat):=by rw [wr (by omega) (by omega)];omega
   have hv:=isVar347 x (hs x (List.mem_of_getElem? hx))
   simp [-getElem?_pos,h0,h3,hlt,hx]
   refine kCall.call hv (by simp) ?_
   cases hs:varS x with
   | false=>
    have:r=false:=by rw [← hr];exact all_bad (List.mem_of_getElem? hx) hs
    subst this
    simp [-getElem?_pos]
   | true=>
    simp [-getElem?_pos,h3,hdw]
    exact hR _ _ ⟨h0,by simp,⟨_,rfl⟩,hz_snoc hz hs⟩
 · rintro ev σ ⟨h0,h3,⟨H,rfl⟩,hz⟩
   have:r=true:=by rw [← hr];exact List.all_eq_true.2 hz
   subst this
   simp [-getElem?_pos,h0,h3]
theorem rsize_sum (l:List It):((preIL l).length:Int)=l.length+((l.map fun x=>(preIL x.items).length+(preIL x.els).length).sum:Nat):=by
 induction l with
 | nil=>simp [preIL]
 | cons x r ih=>
  simp only [preIL,List.length_append,preI_eq,List.length_cons,List.map_cons,List.sum_cons]
  omega
theorem rsize267L (l:List It) (hl:Fits l) (h:∀ x∈l,Pure Tryz.prog GG 60 [.sl 12 (x.items.map encI) .none] (I_ (sizeIS x.items))∧Pure Tryz.prog GG 60 [.sl 12 (x.els.map encI) .none] (I_ (sizeIS x.els))) :
 Pure Tryz.prog GG 60 [.sl 12 (l.map encI) .none] (I_ (sizeIS l)):=by
 refine Pure.k mixed Tryz.func60 rfl (by kernel_rfl) ?_
 have hr:sizeIS l=IntKind.i64.wrap ((l.length:Int)+((l.map fun x=>(preIL x.items).length+(preIL x.els).length).sum:Nat)):=by unfold sizeIS;rw [rsize_sum]
 generalize sizeIS l=r at hr
 simp [-getElem?_pos]
 refine kLoop.listR l (fun d ev σ=>ev 0=.sl 12 (l.map encI) .none∧ev 3=I_ (IntKind.i64.wrap ((l.length:Int)+((d.map fun x=>(preIL x.items).length+(preIL x.els).length).sum:Nat)))∧ev 4=I_ d.length∧∃ H,σ=⟨H,[]⟩) ?_ ?_ ?_
 · exact⟨by simp,by simp;exact (wr (by omega) (by omega)).symm,by simp,⟨_,rfl⟩⟩
 · rintro d x rest ev σ R hR hd hx hlt ⟨h0,h3,h4,⟨H,rfl⟩⟩
   have hdw:IntKind.i64.wrap ((d.length:Int)+1)=(d.length+1:Nat):=by rw [wr (by omega) (by omega)];omega
   obtain⟨p1,p2⟩:=h x (List.mem_of_getElem? hx)
   have hw:IntKind.i64.wrap (IntKind.i64.wrap (IntKind.i64.wrap ((l.length:Int)+((d.map fun x=>(preIL x.items).length+(preIL x.els).length).sum:Nat))+sizeIS x.items)+sizeIS x.els)=IntKind.i64.wrap ((l.length:Int)+(((d++[x]).map fun x=>(preIL x.items).length+(preIL x.els).length).sum:Nat)):=by
    unfold sizeIS
    simp only [List.map_append,List.sum_append,List.map_cons,List.map_nil,List.sum_cons,List.sum_nil]
    simp [IntKind.wrap,IntKind.bits,IntKind.signed]
    omega
   simp [-getElem?_pos,h0,h3,h4,hlt,hx,encI_eq x,encE_eq x.expr]
   refine kCall.call p1 (by simp) ?_
   simp [-getElem?_pos,h0,h4,hx,encI_eq x,encE_eq x.expr]
   refine kCall.call p2 (by simp) ?_
   simp [-getElem?_pos,h4,hdw]
   exact hR _ _ ⟨h0,by simp [hw],by simp,⟨_,rfl⟩⟩
 · rintro ev σ ⟨h0,h3,h4,⟨H,rfl⟩⟩
   rw [← hr] at h3
   simp [-getElem?_pos,h0,h3,h4]
theorem rsize267x:∀ x,HoldI x→Pure Tryz.prog GG 60 [.sl 12 (x.items.map encI) .none] (I_ (sizeIS x.items))∧Pure Tryz.prog GG 60 [.sl 12 (x.els.map encI) .none] (I_ (sizeIS x.els)) :=
 It.ind fun x h1 h2 hl=>⟨rsize267L x.items (hl x (by rw [preI_eq];simp)).items fun y hy=>h1 y hy (hl.itemB hy),rsize267L x.els (hl x (by rw [preI_eq];simp)).els fun y hy=>h2 y hy (hl.elsB hy)⟩
theorem rsize267 (l:List It) (hl:Fits l) (h:∀ x∈l,HoldI x):Pure Tryz.prog GG 60 [.sl 12 (l.map encI) .none] (I_ (sizeIS l)):=rsize267L l hl fun x hx=>rsize267x x (h x hx)
end Go.Proofs.YtkodonalmdmgpaaGreatDoor
end
