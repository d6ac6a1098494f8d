import Derived.Test.YtkodonalmdmgpaaGreatDoorSv24
import Derived.Test.YtkodonalmdmgpaaGreatDoorSv25
import Derived.Test.YtkodonalmdmgpaaGreatDoorRows
set_option maxRecDepth 100000
set_option linter.all false
set_option linter.defProp false
section
namespace Go.Proofs.YtkodonalmdmgpaaGreatDoor
open Go Go.Abs
section
/-- A copy in the state: its free end is known. -/
theorem clone245A (l:List Str) (hl:l.length≤5000000) (σ:St):ACall Tryz.prog GG 86 [.sl 1 (l.map encStr) .none] σ (fun r σ'=>(l=[]∧σ'=σ∧(r=.sl 0 [] .nil∨r=.sl 1 [] .tight))∨(l≠[]∧r=.sl 1 (l.map encStr) (.chain σ.T.length l.length)∧σ'=⟨σ.H,σ.T++[some l.length]⟩)):=by
 refine ACall.k mixed Tryz.func86 rfl (by kernel_rfl) ?_
 cases l with
 | nil=>simp [appendA]
 | cons a r=>
  have hb:r.length+1≤549755813888:=by simp at hl;omega
  simp [appendA,hb]
def plans178:List (Nat×Sch×List Nat):=[(12,.step 0 [8,7,6,2,1] (.step 1 [8,7,6,2] (.step 3 [8,7,6,5,4] (.fork (.cons 2 (.step 4 [8,7,6,5] (.step 5 [8,7,6] (.step 6 [8,7] (.step 7 [8] (.step 8 [] (.done)))))) (.cons 4 (.step 5 [8,7,6] (.step 2 [8,7,6] (.step 6 [8,7] (.step 7 [8] (.step 8 [] (.done)))))) (.nil)))))),[2])]
section
variable {f:It→Place→Int} {vf:FuncId} {first cap:List AV} {S:St→Prop} {good:It→Prop}
/-- What a visit does. -/
def VisitOk (f:It→Place→Int) (vf:FuncId) (first cap:List AV) (S:St→Prop) (good:It→Prop):Prop :=
 ∀ x p σ,good x→p.depth≤1000000000→p.bound.length≤5000000→S σ→ACall Tryz.prog GG vf (first++[.agg (encI x),.agg (encPl p)]++cap) σ (fun r σ'=>r=.int .i64 (f x p)∧Ext σ σ')
/-- What a walk does. -/
def WalkOk (f:It→Place→Int) (vf:FuncId) (first cap:List AV) (S:St→Prop) (l:List It):Prop :=
 ∀ p σ,p.depth+(preIL l).length≤1000000000→p.bound.length+(preIL l).length≤5000000→S σ→ACall Tryz.prog GG 55 [.sl 12 (l.map encI) .none,.agg (encPl p),.fn vf first cap] σ (fun r σ'=>r=.int .i64 (firstE (fun y=>f y.1 y.2) (visIs p l))∧Ext σ σ')
theorem first_vis {g:It×Place→Int} {p:Place} {l d r:List It} {x:It} (hl:l=d++x::r) (hz:firstE g (visIs p d)=0) :
 firstE g (visIs p l)=if g (x,p)≠0 then g (x,p) else if firstE g (visIs (innerP x p) x.items)≠0 then firstE g (visIs (innerP x p) x.items) else if firstE g (visIs (innerD x p) x.els)≠0 then firstE g (visIs (innerD x p) x.els) else firstE g (visIs p r):=by
 rw [hl,visIs_append,firstE_append,if_pos hz,visIs_cons,visI_eq,List.cons_append,firstE]
 by_cases h0:g (x,p)=0
 · by_cases h1:firstE g (visIs (innerP x p) x.items)=0
   · by_cases h2:firstE g (visIs (innerD x p) x.els)=0
     · simp [firstE_append,h0,h1,h2]
     · simp [firstE_append,h0,h1,h2]
   · simp [firstE_append,h0,h1]
 · rw [if_neg h0,if_pos h0]
theorem first_vis_next {g:It×Place→Int} {p:Place} {d:List It} {x:It} (hz:firstE g (visIs p d)=0) (h0:g (x,p)=0) (h1:firstE g (visIs (innerP x p) x.items)=0) (h2:firstE g (visIs (innerD x p) x.els)=0):firstE g (visIs p (d++[x]))=0:=by
 rw [first_vis (r:=[]) rfl hz,if_neg (by simp [h0]),if_neg (by simp [h1]),if_neg (by simp [h2])]
 rfl
theorem innerP_bound (x:It) (p:Place):(innerP x p).bound=if x.kind=5 then p.bound++[x.index] else p.bound:=by
 unfold innerP innerD
 split
 · rfl
 · split<;>rfl
theorem innerD_bound (x:It) (p:Place):(innerD x p).bound=p.bound:=by
 unfold innerD
 split<;>rfl
theorem innerD_depth (x:It) (p:Place):(innerD x p).depth=if x.kind=4∨x.kind=5 then p.depth+1 else p.depth:=by
 unfold innerD
 split<;>rfl
theorem innerP_depth (x:It) (p:Place):(innerP x p).depth=(innerD x p).depth:=by
 unfold innerP innerD
 by_cases h5:x.kind=5
 · simp [h5]
 · simp [h5]
set_option maxHeartbeats 8000000 in
theorem walk178L (hS:∀ σ σ',S σ→Ext σ σ'→S σ') (hv:VisitOk f vf first cap S good) (l:List It) (hl:Fits l) (h:∀ x∈l,good x∧WalkOk f vf first cap S x.items∧WalkOk f vf first cap S x.els):WalkOk f vf first cap S l:=by
 intro p σ hd hb hs
 refine ACall.kO ⟨false,plans178,[],[]⟩ mixed Tryz.func55 rfl (by kernel_rfl) ?_
 obtain⟨H,T⟩:=σ
 simp [-getElem?_pos,encPl]
 refine kLoop.listR l (fun d ev σ=>ev 2=.fn vf first cap∧ev 4=.ptr H.length 0∧ev 14=.sl 12 (l.map encI) .none∧ev 15=.int .i64 l.length∧ev 16=.int .i64 d.length∧Ext ⟨H++[.cells (encPl p)],T⟩ σ∧firstE (fun y=>f y.1 y.2) (visIs p d)=0) ?_ ?_ ?_
 · exact⟨by simp,by simp,by simp,by simp,by simp,Ext.refl,by simp [firstE]⟩
 · rintro d x r ev ⟨H1,T1⟩ R hR hdl hx hlt ⟨h2,h4,h14,h15,h16,he,hz⟩
   obtain⟨gx,w1,w2⟩:=h x (List.mem_of_getElem? hx)
   have hfst:=first_vis (g:=fun y=>f y.1 y.2) hdl hz
   have hE0:Ext ⟨H,T⟩ ⟨H1,T1⟩:=Ext.push.trans he
   have e4:H1[H.length]?=some (.cells [.int .i64 p.depth,.sl 1 (p.bound.map encStr) .none]):=he.at (by simp [encPl])
   have hsub:(preI x).length≤(preIL l).length:=by
    rw [hdl,preIL_append];simp [preIL];omega
   have hsz:(preI x).length=1+(preIL x.items).length+(preIL x.els).length:=by rw [preI_eq];simp;omega
   simp [-getElem?_pos,h2,h4,h14,h15,h16,hx,hlt,encI_eq,encE_eq,look_app e4]
   have hvis:=hv x p ⟨H1++[.cells (encI x)],T1⟩ gx (by omega) (by omega) (hS _ _ hs (hE0.trans Ext.push))
   simp only [encI_eq,encE_eq,encPl,List.cons_append,List.nil_append,List.append_assoc] at hvis
   refine kCall.acall (by simpa using hvis) ?_
   rintro v ⟨H2,T2⟩ ⟨rfl,he2⟩
   have hE2:Ext ⟨H,T⟩ ⟨H2,T2⟩:=hE0.trans (Ext.push.trans he2)
   have e42:H2[H.length]?=some (.cells [.int .i64 p.depth,.sl 1 (p.bound.map encStr) .none]):=he2.at (look_app e4 _)
   have e82:H2[H1.length]?=some (.cells (encI x)):=by
    have:=he2.at (k:=H1.length) (x:=.cells (encI x)) (by simp [encI_eq,encE_eq])
    exact this
   simp only [encI_eq,encE_eq,List.cons_append,List.nil_append] at e82
   by_cases hf:f x p=0
   · simp [-getElem?_pos,-kT_guard,hf,h4,e42,look_app e82]
     refine kT_cut (fun ev σ=>ev 2=.fn vf first cap∧ev 4=.ptr H.length 0∧ev 8=.ptr H1.length 0∧ev 10=.ptr H2.length 0∧ev 14=.sl 12 (l.map encI) .none∧ev 15=.int .i64 l.length∧ev 16=.int .i64 d.length ∧
      ev 39=.bool (decide (x.kind=4∨x.kind=5))∧σ=⟨H2++[.cells [.int .i64 p.depth,.sl 1 (p.bound.map encStr) .none]],T2⟩) ?_ ?_
     · by_cases k4:x.kind=4
       · simp [-getElem?_pos,h2,h4,h14,h15,h16,k4]
       · simp [-getElem?_pos,h2,h4,h14,h15,h16,k4,look_app e82]
         rfl
     clear h2 h4 h14 h15 h16
     rintro ev σ ⟨h2,h4,h8,h10,h14,h15,h16,h39,rfl⟩
     simp [-getElem?_pos,-kCd_bool,h39]
     refine kCd_cut (fun ev σ=>ev 2=.fn vf first cap∧ev 4=.ptr H.length 0∧ev 8=.ptr H1.length 0∧ev 10=.ptr H2.length 0∧ev 14=.sl 12 (l.map encI) .none∧ev 15=.int .i64 l.length∧ev 16=.int .i64 d.length ∧
      σ=⟨H2++[.cells [.int .i64 (innerD x p).depth,.sl 1 (p.bound.map encStr) .none]],T2⟩) ?_ ?_
     · rw [innerD_depth]
       by_cases k45:x.kind=4∨x.kind=5
       · have hw:IntKind.i64.wrap ((p.depth:Int)+1)=p.depth+1:=wr (by omega) (by omega)
         simp [-getElem?_pos,h2,h4,h8,h10,h14,h15,h16,k45,hw]
         omega
       · simp [-getElem?_pos,h2,h4,h8,h10,h14,h15,h16,k45]
     clear h2 h4 h8 h10 h14 h15 h16 h39
     rintro ev σ ⟨h2,h4,h8,h10,h14,h15,h16,rfl⟩
     simp [-getElem?_pos,-kCd_bool,h8,h10,look_app e82]
     refine kCd_cut (fun ev σ=>ev 2=.fn vf first cap∧ev 4=.ptr H.length 0∧ev 8=.ptr H1.length 0∧ev 10=.ptr H2.length 0∧ev 11=.ptr (H2.length+1) 0∧ev 14=.sl 12 (l.map encI) .none∧ev 15=.int .i64 l.length∧ev 16=.int .i64 d.length ∧
      ∃ bv T3,σ=⟨H2++[.cells [.int .i64 (innerP x p).depth,bv],.cells [.int .i64 (innerD x p).depth,.sl 1 (p.bound.map encStr) .none]],T3⟩∧T2 <+: T3∧Leq bv (.sl 1 ((innerP x p).bound.map encStr) .none)) ?_ ?_
     · rw [innerP_bound,innerP_depth]
       by_cases k5:x.kind=5
       · simp [-getElem?_pos,k5]
         rw [kC_plan rfl]
         simp [-getElem?_pos,clsB,clsA,h4,h8,k5,look_app e82,look_app e42]
         repeat' with_reducible refine And.intro ?_ ?_
         all_goals
          refine kCall.acall (clone245A p.bound (by omega) _) ?_
          rintro v ⟨H3,T3⟩ (⟨hb0,hσ,rfl|rfl⟩|⟨hb0,rfl,hσ⟩)<;>cases hσ
          · simp [-getElem?_pos,clsB,clsA,h2,h4,h8,h10,h14,h15,h16,k5,look_app e82,appendA,hb0]
            exact⟨_,_,⟨rfl,rfl⟩,List.prefix_append _ _,Leq.sl rfl⟩
          · simp [-getElem?_pos,clsB,clsA,h2,h4,h8,h10,h14,h15,h16,k5,look_app e82,appendA,hb0]
            exact⟨_,_,⟨rfl,rfl⟩,List.prefix_append _ _,Leq.sl rfl⟩
          · have hbl:p.bound.length+1≤549755813888:=by omega
            have htk:(T2++[some p.bound.length])[T2.length]?=some (some p.bound.length):=by simp
            simp [-getElem?_pos,clsB,clsA,h2,h4,h8,h10,h14,h15,h16,k5,look_app e82,appendA,hb0,hbl,htk]
            exact⟨_,_,⟨rfl,rfl⟩,List.prefix_append _ _,Leq.sl (by simp)⟩
       · simp [-getElem?_pos,h2,h4,h8,h10,h14,h15,h16,k5]
         exact⟨_,_,⟨rfl,rfl⟩,List.prefix_rfl,Leq.refl _⟩
     clear h2 h4 h8 h10 h14 h15 h16
     rintro ev σ ⟨h2,h4,h8,h10,h11,h14,h15,h16,bv,T3,rfl,hT3,hbv⟩
     have hE3:Ext ⟨H,T⟩ ⟨H2++[.cells [.int .i64 (innerP x p).depth,bv],.cells [.int .i64 (innerD x p).depth,.sl 1 (p.bound.map encStr) .none]],T3⟩:=hE2.trans (Ext.pushT hT3)
     simp [-getElem?_pos,h2,h8,h10,look_app e82]
     have hpd:(innerP x p).depth+(preIL x.items).length≤1000000000∧(innerD x p).depth+(preIL x.els).length≤1000000000:=by
      rw [innerP_depth,innerD_depth]
      split<;>omega
     have hpb:(innerP x p).bound.length+(preIL x.items).length≤5000000∧(innerD x p).bound.length+(preIL x.els).length≤5000000:=by
      rw [innerP_bound,innerD_bound]
      split
      · rw [List.length_append,List.length_singleton];omega
      · omega
     refine kCall.acall ((w1 (innerP x p) _ hpd.1 hpb.1 (hS _ _ hs hE3)).leq (by simp [encPl,LeqL,Leq,hbv])) ?_
     rintro v ⟨H4,T4⟩ ⟨rfl,he4⟩
     have hE4:=hE3.trans he4
     by_cases hf1:firstE (fun y=>f y.1 y.2) (visIs (innerP x p) x.items)=0
     · have e84:=he4.at (look_app e82 _)
       have e11:H4[H2.length+1]?=some (.cells [.int .i64 (innerD x p).depth,.sl 1 (p.bound.map encStr) .none]):=he4.at (by simp)
       simp [-getElem?_pos,hf1,h2,h8,h11,e84,e11]
       refine kCall.acall ((w2 (innerD x p) _ hpd.2 hpb.2 (hS _ _ hs hE4)).leq (by simp [encPl,innerD_bound])) ?_
       rintro v ⟨H5,T5⟩ ⟨rfl,he5⟩
       by_cases hf2:firstE (fun y=>f y.1 y.2) (visIs (innerD x p) x.els)=0
       · simp [-getElem?_pos,hf2,h16]
         refine hR _ _ ⟨h2,h4,h14,h15,by simp;exact wr (by omega) (by omega),?_,first_vis_next hz hf hf1 hf2⟩
         exact he.trans (Ext.push.trans (he2.trans ((Ext.pushT hT3).trans (he4.trans he5))))
       · rw [hfst,if_neg (by simp [hf]),if_neg (by simp [hf1]),if_pos hf2]
         simp [-getElem?_pos,hf2]
         exact hE4.trans he5
     · rw [hfst,if_neg (by simp [hf]),if_pos hf1]
       simp [-getElem?_pos,hf1]
       exact hE4
   · rw [hfst,if_pos hf]
     simp [-getElem?_pos,hf]
     exact hE2
 · rintro ev σ ⟨h2,h4,h14,h15,h16,he,hz⟩
   simp [-getElem?_pos,h15,h16,hz]
   exact Ext.push.trans he
end
theorem walk178 {f:It→Place→Int} {vf:FuncId} {first cap:List AV} {S:St→Prop} {good:It→Prop} (hS:∀ σ σ',S σ→Ext σ σ'→S σ') (hv:VisitOk f vf first cap S good) (l:List It) (hg:∀ y∈preIL l,good y) (hfit:∀ y∈preIL l,Fits y.items∧Fits y.els) (hl:Fits l):WalkOk f vf first cap S l:=by
 have one:∀ x:It,(∀ y∈preI x,good y∧Fits y.items∧Fits y.els)→WalkOk f vf first cap S x.items∧WalkOk f vf first cap S x.els:=by
  refine It.ind fun x ih1 ih2 hx=>?_
  have hi:∀ a∈x.items,∀ y∈preI a,y∈preI x:=fun a ha y hy=>by
   rw [preI_eq];exact List.mem_cons_of_mem _ (List.mem_append.2 (.inl (mem_preIL.2 ⟨a,ha,hy⟩)))
  have he:∀ a∈x.els,∀ y∈preI a,y∈preI x:=fun a ha y hy=>by
   rw [preI_eq];exact List.mem_cons_of_mem _ (List.mem_append.2 (.inr (mem_preIL.2 ⟨a,ha,hy⟩)))
  have hself:∀ a:It,a∈preI a:=fun a=>by rw [preI_eq];simp
  exact⟨walk178L hS hv x.items (hx x (hself x)).2.1 fun a ha=>⟨(hx a (hi a ha a (hself a))).1,ih1 a ha fun y hy=>hx y (hi a ha y hy)⟩,
   walk178L hS hv x.els (hx x (hself x)).2.2 fun a ha=>⟨(hx a (he a ha a (hself a))).1,ih2 a ha fun y hy=>hx y (he a ha y hy)⟩⟩
 exact walk178L hS hv l hl fun x hx=>⟨hg x (mem_preIL.2 ⟨x,hx,by rw [preI_eq];simp⟩),one x fun y hy=>⟨hg y (mem_preIL.2 ⟨x,hx,hy⟩),hfit y (mem_preIL.2 ⟨x,hx,hy⟩)⟩⟩
end
theorem hgt_pre:∀ e,hgt e≤(pre e).length:=by
 refine Ex.ind fun e ih=>?_
 rw [hgt_eq,pre_eq,List.length_cons]
 have:∀ (m:List Ex),(∀ a∈m,hgt a≤(pre a).length)→hgtL m≤(preL m).length:=by
  intro m
  induction m with
  | nil=>simp
  | cons a r ihr=>
   intro h
   have h1:=h a (by simp)
   have h2:=ihr fun x hx=>h x (by simp [hx])
   simp only [hgtL_cons,preL_cons,List.length_append]
   omega
 have:=this e.args ih
 omega
/-- Lists of constraints as the law has them: small. -/
structure Few (l:List It):Prop where
 hold:∀ y∈preIL l,Hold1 y
 low:∀ y∈preIL l,Low1 y
 len:l.length≤2000000
 all:(preIL l).length≤2000000
 size:∀ y∈preIL l,(pre y.expr).length≤1999999
theorem Few.holdI {l:List It} (h:Few l):∀ x∈l,HoldI x:=fun x hx y hy=>h.hold y (mem_preIL.2 ⟨x,hx,hy⟩)
theorem Few.hgt {l:List It} (h:Few l) {y:It} (hy:y∈preIL l):Go.Proofs.YtkodonalmdmgpaaGreatDoor.hgt y.expr≤2000000:=by
 have:=hgt_pre y.expr
 have:=h.size y hy
 omega
theorem visitP {good:It→Prop} {f:It→Place→Int} {vf:FuncId} (h:∀ x p,p.depth≤1000000000→good x→Pure Tryz.prog GG vf [.agg (encI x),.agg (encPl p)] (.int .i64 (f x p))) {S:St→Prop}:VisitOk f vf [] [] S good:=by
 intro x p σ hg hd _ _
 exact ACall.call (h x p hd hg) (by simp [encPl]) ⟨rfl,Ext.refl⟩
theorem valid177 (l:List It) (h:Few l):Pure Tryz.prog GG 37 [.sl 12 (l.map encI) .none] (.int .i64 (validI l)):=by
 refine Pure.k mixed Tryz.func37 rfl (by kernel_rfl) ?_
 have hr:validI l=if 64<sizeIS l then 2 else firstE (fun y=>shapeE y.1 y.2.depth) (visIs ⟨0,[]⟩ l):=rfl
 generalize validI l=r at hr
 have hfit:Fits l:=by have:=h.len;unfold Fits;omega
 simp [-acells,-fin,-fin1,-fin2,-pl1,-pl2,-plain,-AV.atom,-getElem?_pos]
 refine kCall.call (size243 l hfit h.holdI) (by simp) ?_
 by_cases h64:64<sizeIS l
 · rw [if_pos h64] at hr
   subst hr
   simp [-acells,-fin,-fin1,-fin2,-pl1,-pl2,-plain,-AV.atom,-getElem?_pos,h64]
 · rw [if_neg h64] at hr
   subst hr
   simp [-acells,-fin,-fin1,-fin2,-pl1,-pl2,-plain,-AV.atom,-getElem?_pos,h64]
   have hw:=walk178 (f:=fun x p=>shapeE x p.depth) (vf:=56) (first:=[]) (cap:=[]) (S:=fun _=>True) (good:=fun x=>Hold1 x∧Low1 x∧(pre x.expr).length≤1999999) (fun _ _ _ _=>trivial)
    (visitP fun x p hd hg=>shape244 x p hg.1 hg.2.1 hd (by have:=hgt_pre x.expr;have:=hg.2.2;omega)) l (fun y hy=>⟨h.hold y hy,h.low y hy,h.size y hy⟩) (fun y hy=>⟨(h.hold y hy).items,(h.hold y hy).els⟩) hfit
   refine kCall.acall ((hw ⟨0,[]⟩ _ (by have:=h.all;simp;omega) (by have:=h.all;simp;omega) trivial).leq (by simp [encPl,LeqL,Leq])) ?_
   rintro v ⟨H,T⟩ ⟨rfl,_⟩
   simp [-acells,-fin,-fin1,-fin2,-pl1,-pl2,-plain,-AV.atom,-getElem?_pos]
/-! ### Maps of fields -/
end Go.Proofs.YtkodonalmdmgpaaGreatDoor
end
section
namespace Go.Proofs.YtkodonalmdmgpaaGreatDoor
open Go Go.Abs
inductive Sti where
 | mk (op n:Int) (cls:Str) (items:List It) (subs:List Sti)
def Sti.op:Sti→Int | .mk o _ _ _ _=>o
def Sti.n:Sti→Int | .mk _ n _ _ _=>n
def Sti.cls:Sti→Str | .mk _ _ c _ _=>c
def Sti.items:Sti→List It | .mk _ _ _ i _=>i
def Sti.subs:Sti→List Sti | .mk _ _ _ _ l=>l
mutual
def encT:Sti→List AV
 | .mk o n c i l=>[.int .i64 o,.int .i64 n,.str c,.sl 12 (i.map encI) .none,.sl 5 (encTs l) .none]
def encTs:List Sti→List (List AV)
 | []=>[]
 | a::r=>encT a::encTs r
end
@[simp] theorem encTs_eq:∀ l,encTs l=l.map encT
 | []=>rfl
 | a::r=>by simp [encTs,encTs_eq r]
theorem encT_eq (x:Sti):encT x=[.int .i64 x.op,.int .i64 x.n,.str x.cls,.sl 12 (x.items.map encI) .none,.sl 5 (x.subs.map encT) .none]:=by
 cases x
 simp only [encT,encTs_eq]
 rfl
mutual
theorem nrT':∀ x,noRefs (encT x)=true
 | .mk o n c i l=>by
  have h:=nrTs' l
  simp only [encT,noRefs,Bool.and_eq_true]
  rw [encTs_eq] at h ⊢
  simp [h]
theorem nrTs':∀ l,noRefss (encTs l)=true
 | []=>rfl
 | a::r=>by simp only [encTs,noRefss,nrT' a,nrTs' r,Bool.and_self]
end
@[simp] theorem nrT (x:Sti):noRefs (encT x)=true:=nrT' x
@[simp] theorem nrTs (l:List Sti):noRefss (l.map encT)=true:=noRefss_map (fun x=>nrT' x) l
theorem encT_len (x:Sti):(encT x).length=5:=by rw [encT_eq];rfl
theorem encT_atoms (x:Sti):(encT x).all AV.atom=true:=by rw [encT_eq];rfl
mutual
theorem Sti.ind {p:Sti→Prop} (h:∀ x,(∀ a∈x.subs,p a)→p x):∀ x,p x
 | .mk o n c i l=>h _ (Sti.indL h l)
theorem Sti.indL {p:Sti→Prop} (h:∀ x,(∀ a∈x.subs,p a)→p x):∀ (l:List Sti),∀ a∈l,p a
 | [],_,hm=>by cases hm
 | e::r,a,hm=>by
  rcases List.mem_cons.1 hm with hm|hm
  · rw [hm];exact Sti.ind h e
  · exact Sti.indL h r a hm
end
mutual
def preT:Sti→List Sti
 | .mk o n c i l=>.mk o n c i l::preTL l
def preTL:List Sti→List Sti
 | []=>[]
 | x::r=>preT x++preTL r
end
theorem preT_eq (x:Sti):preT x=x::preTL x.subs:=by cases x;simp [preT,Sti.subs]
theorem mem_preTL {l:List Sti} {x:Sti}:x∈preTL l↔∃ a∈l,x∈preT a:=by
 induction l with
 | nil=>simp [preTL]
 | cons e r ih=>simp [preTL,ih]
theorem preTL_app:∀ {l m:List Sti},preTL (l++m)=preTL l++preTL m
 | [],m=>by simp [preTL]
 | x::r,m=>by simp [preTL,preTL_app (l:=r),List.append_assoc]
/-- What is wrong with the fields of a node. -/
def BadT (s:Sti):Prop:=s.op<1∨6<s.op∨s.n<0∨64<s.n∨(s.op≠3∧s.op≠6∧s.n≠0)∨(s.op≠1∧(s.cls≠[]∨s.items≠[]))∨((s.op=1∨s.op=6)∧s.subs≠[])∨((s.op=3∨s.op=4∨s.op=5)∧s.subs=[])
open Classical in
noncomputable def nodeT (s:Sti):Int:=if BadT s then 1 else if s.op≠1 then 0 else if nameS s.cls=false then 7 else validI s.items
mutual
noncomputable def chkT:Sti→Nat→Int→Int×Int
 | .mk o n c i l,lev,k=>if nodeT (.mk o n c i l)≠0 then (k+1,nodeT (.mk o n c i l)) else if 8<lev∨200<k+1 then (k+1,2) else chkL l (lev+1) (k+1)
noncomputable def chkL:List Sti→Nat→Int→Int×Int
 | [],_,k=>(k,0)
 | x::r,lev,k=>if (chkT x lev k).2=0 then chkL r lev (chkT x lev k).1 else chkT x lev k
end
theorem chkT_eq (s:Sti) (lev:Nat) (k:Int):chkT s lev k=if nodeT s≠0 then (k+1,nodeT s) else if 8<lev∨200<k+1 then (k+1,2) else chkL s.subs (lev+1) (k+1):=by
 cases s;simp only [chkT];rfl
theorem chkL_nil (lev:Nat) (k:Int):chkL [] lev k=(k,0):=by simp [chkL]
theorem chkL_cons (x:Sti) (r:List Sti) (lev:Nat) (k:Int):chkL (x::r) lev k=if (chkT x lev k).2=0 then chkL r lev (chkT x lev k).1 else chkT x lev k:=by simp only [chkL]
mutual
def lenT:Sti→Int
 | .mk o n _ _ l=>if o=1 then 1 else if o=6 then n else if o=3 then min (n*sumT l) 1025 else if o=4 then mostT l else sumT l
def sumT:List Sti→Int
 | []=>0
 | x::r=>min (lenT x+sumT r) 1025
def mostT:List Sti→Int
 | []=>0
 | x::r=>max (lenT x) (mostT r)
end
theorem lenT_eq (s:Sti):lenT s=if s.op=1 then 1 else if s.op=6 then s.n else if s.op=3 then min (s.n*sumT s.subs) 1025 else if s.op=4 then mostT s.subs else sumT s.subs:=by
 cases s;simp only [lenT];rfl
/-- All numbers are small. -/
def SmT (s:Sti):Prop:=∀ y∈preT s,0≤y.n∧y.n≤64
theorem SmT.sub {s x:Sti} (h:SmT s) (hx:x∈s.subs):SmT x:=fun y hy=>h y (by rw [preT_eq];exact List.mem_cons_of_mem _ (mem_preTL.2 ⟨x,hx,hy⟩))
theorem lenT_bd:∀ s,SmT s→0≤lenT s∧lenT s≤1025:=by
 refine Sti.ind fun s ih hs=>?_
 have hn:=hs s (by rw [preT_eq];simp)
 have hl:∀ l:List Sti,(∀ a∈l,0≤lenT a∧lenT a≤1025)→(0≤sumT l∧sumT l≤1025)∧(0≤mostT l∧mostT l≤1025):=by
  intro l
  induction l with
  | nil=>intro _;simp [sumT,mostT]
  | cons x r ih2=>
   intro h
   obtain⟨h1,h2⟩:=ih2 fun a ha=>h a (List.mem_cons_of_mem _ ha)
   have:=h x List.mem_cons_self
   simp only [sumT,mostT]
   omega
 obtain⟨h1,h2⟩:=hl s.subs fun a ha=>ih a ha (hs.sub ha)
 have hm:0≤s.n*sumT s.subs:=Int.mul_nonneg hn.1 h1.1
 rw [lenT_eq]
 split
 · omega
 · split
   · omega
   · split
     · omega
     · split<;>omega
noncomputable def validT (s:Sti):Int:=if (chkT s 1 0).2≠0 then (chkT s 1 0).2 else if 1024<lenT s then 2 else 0
/-- What a check without error says. -/
theorem chk_ok:∀ s (lev:Nat) (k:Int),(chkT s lev k).2=0→(chkT s lev k).1=k+(preT s).length∧∀ y∈preT s,nodeT y=0:=by
 refine Sti.ind fun s ih lev k h=>?_
 rw [chkT_eq] at h ⊢
 by_cases h1:nodeT s=0
 · rw [if_neg (fun h=>h h1)] at h ⊢
   by_cases h2:8<lev∨200<k+1
   · rw [if_pos h2] at h;simp at h
   · rw [if_neg h2] at h ⊢
     have hl:∀ (l:List Sti) (k:Int),(∀ a∈l,∀ (lev:Nat) (k:Int),(chkT a lev k).2=0→(chkT a lev k).1=k+(preT a).length∧∀ y∈preT a,nodeT y=0)→(chkL l (lev+1) k).2=0→(chkL l (lev+1) k).1=k+(preTL l).length∧∀ y∈preTL l,nodeT y=0:=by
      intro l
      induction l with
      | nil=>intro k _ _;simp [chkL_nil,preTL]
      | cons x r ih2=>
       intro k hx h
       rw [chkL_cons] at h ⊢
       by_cases h0:(chkT x (lev+1) k).2=0
       · rw [if_pos h0] at h ⊢
         obtain⟨e1,e2⟩:=hx x List.mem_cons_self _ _ h0
         obtain⟨e3,e4⟩:=ih2 _ (fun a ha=>hx a (List.mem_cons_of_mem _ ha)) h
         refine⟨by rw [e3,e1];simp [preTL];omega,fun y hy=>?_⟩
         simp only [preTL,List.mem_append] at hy
         rcases hy with hy|hy
         · exact e2 y hy
         · exact e4 y hy
       · rw [if_neg h0] at h
         exact absurd h h0
     obtain⟨e1,e2⟩:=hl s.subs (k+1) ih h
     refine⟨by rw [e1,preT_eq];simp;omega,fun y hy=>?_⟩
     rw [preT_eq] at hy
     rcases List.mem_cons.1 hy with rfl|hy
     · exact h1
     · exact e2 y hy
 · rw [if_pos h1] at h
   exact absurd h h1
theorem chk_sm {s:Sti} {lev:Nat} {k:Int} (h:(chkT s lev k).2=0):SmT s:=fun y hy=>by
 have h0:=(chk_ok s lev k h).2 y hy
 unfold nodeT at h0
 split at h0
 · cases h0
 · rename_i hb
   unfold BadT at hb
   constructor<;>(by_cases hn:y.n<0<;>by_cases hm:64<y.n<;>simp_all<;>omega)
/-- How many were seen is at most 201 more. -/
theorem chk_bd:∀ s (lev:Nat) (k:Int),0≤k→k≤200→0≤(chkT s lev k).1∧(chkT s lev k).1≤201∧((chkT s lev k).2=0→(chkT s lev k).1≤200):=by
 refine Sti.ind fun s ih lev k h0 hk=>?_
 rw [chkT_eq]
 split
 · refine⟨by simp;omega,by simp;omega,fun h=>?_⟩
   rename_i h1;exact absurd h h1
 · split
   · exact⟨by simp;omega,by simp;omega,fun h=>by simp at h⟩
   · rename_i h1 h2
     have hl:∀ (l:List Sti) (k:Int),(∀ a∈l,∀ (lev:Nat) (k:Int),0≤k→k≤200→0≤(chkT a lev k).1∧(chkT a lev k).1≤201∧((chkT a lev k).2=0→(chkT a lev k).1≤200))→0≤k→k≤200→0≤(chkL l (lev+1) k).1∧(chkL l (lev+1) k).1≤201∧((chkL l (lev+1) k).2=0→(chkL l (lev+1) k).1≤200):=by
      intro l
      induction l with
      | nil=>intro k _ h0 hk;rw [chkL_nil];exact⟨h0,by simp;omega,fun _=>hk⟩
      | cons x r ih2=>
       intro k hx h0 hk
       obtain⟨a1,a2,a3⟩:=hx x List.mem_cons_self (lev+1) k h0 hk
       rw [chkL_cons]
       split
       · rename_i e;exact ih2 _ (fun a ha=>hx a (List.mem_cons_of_mem _ ha)) a1 (a3 e)
       · exact⟨a1,a2,a3⟩
     exact hl s.subs (k+1) ih (by omega) (by omega)
theorem chkL_app {lev:Nat} {r:List Sti}:∀ (d:List Sti) (k:Int),(chkL d lev k).2=0→chkL (d++r) lev k=chkL r lev (chkL d lev k).1
 | [],k,_=>by simp [chkL_nil]
 | x::d,k,h=>by
  rw [List.cons_append,chkL_cons,chkL_cons x d]
  rw [chkL_cons] at h
  by_cases h0:(chkT x lev k).2=0
  · rw [if_pos h0] at h
    rw [if_pos h0,if_pos h0]
    exact chkL_app d _ h
  · rw [if_neg h0] at h
    exact absurd h h0
theorem chkL_one {x:Sti} {lev:Nat} {k:Int}:chkL [x] lev k=chkT x lev k:=by
 rw [chkL_cons]
 split
 · rename_i h;rw [chkL_nil,← h]
 · rfl
end Go.Proofs.YtkodonalmdmgpaaGreatDoor
end
section
namespace Go.Proofs.YtkodonalmdmgpaaGreatDoor
open Go Go.Abs
/-- What memory holds of a node, and bounds. -/
structure Hold28 (s:Sti):Prop where
 cls:Fits s.cls
 items:Few s.items
 subs:Fits s.subs
theorem nodeT_bad {s:Sti} (h:BadT s):nodeT s=1:=by unfold nodeT;rw [if_pos h]
set_option maxHeartbeats 8000000 in
theorem node25 (s:Sti) (h:Hold28 s):Pure Tryz.prog GG 25 [.agg (encT s)] (I_ (nodeT s)):=by
 refine Pure.k mixed Tryz.func25 rfl (by kernel_rfl) ?_
 have hv:=valid177 s.items h.items
 have hn:=isName168 s.cls
 have hb:∀ p:BadT s,nodeT s=1:=nodeT_bad
 have hg:¬ BadT s→nodeT s=if s.op≠1 then 0 else if nameS s.cls=false then 7 else validI s.items:=fun p=>by unfold nodeT;rw [if_neg p]
 obtain⟨o,n,c,i,l⟩:=s
 generalize nodeT (.mk o n c i l)=r at *
 unfold BadT at hb hg
 simp only [Sti.op,Sti.n,Sti.cls,Sti.items,Sti.subs] at hv hn hb hg
 simp only [encT_eq,Sti.op,Sti.n,Sti.cls,Sti.items,Sti.subs]
 generalize validI i=q at *
 by_cases o1:o<1
 · have:=hb (.inl o1);subst this;simp [-getElem?_pos,o1]
   done
 by_cases o6:6<o
 · have:=hb (.inr (.inl o6));subst this;simp [-getElem?_pos,o1,o6]
 by_cases n0:n<0
 · have:=hb (.inr (.inr (.inl n0)));subst this;simp [-getElem?_pos,o1,o6,n0]
 by_cases n6:64<n
 · have:=hb (.inr (.inr (.inr (.inl n6))));subst this;simp [-getElem?_pos,o1,o6,n0,n6]
 have ho:o=1∨o=2∨o=3∨o=4∨o=5∨o=6:=by omega
 rcases ho with rfl|rfl|rfl|rfl|rfl|rfl
 · simp at hb hg
   by_cases h0:n=0
   · subst h0
     by_cases hl:l=[]
     · subst hl
       simp at hg
       simp [-getElem?_pos]
       refine kCall.call hn (by simp) ?_
       clear hn
       cases hnm:nameS c
       · simp [hnm] at hg
         subst hg
         simp [-getElem?_pos]
       · simp [hnm] at hg
         subst hg
         simp [-getElem?_pos]
         refine kCall.call hv (by simp) ?_
         simp [-getElem?_pos]
     · have:=hb (.inr (.inr (.inr hl)))
       subst this
       have hl0:0<l.length:=List.length_pos_iff.2 hl
       simp [-getElem?_pos,hl,hl0]
   · have:=hb (.inr (.inr (.inl h0)))
     subst this
     simp [-getElem?_pos,n0,n6,h0]
 all_goals
  simp at hb hg
  simp [-getElem?_pos,n0,n6]
  repeat' first | (refine And.intro ?_ ?_) | (intro _)
  all_goals first | omega | grind
/-- What memory holds of all nodes. -/
def HoldT (s:Sti):Prop:=∀ y∈preT s,Hold28 y
theorem HoldT.self {s:Sti} (h:HoldT s):Hold28 s:=h s (by rw [preT_eq];simp)
theorem HoldT.sub {s x:Sti} (h:HoldT s) (hx:x∈s.subs):HoldT x:=fun y hy=>h y (by rw [preT_eq];exact List.mem_cons_of_mem _ (mem_preTL.2 ⟨x,hx,hy⟩))
/-- The block of what was seen. -/
def seenH (c:List AV) (k:Int):List Blk:=[.cells c,.cells [I_ k],.cells [.fn 24 [] [.ptr 1 0,.ptr 2 0]]]
def SeenQ (c:List AV) (s:Sti) (lev:Nat) (k:Int) (tail:List Blk) (r:AV) (σ':St):Prop:=r=I_ (chkT s lev k).2∧∃ k' t,σ'=⟨seenH c k'++(tail++t),[]⟩∧((chkT s lev k).2=0→k'=(chkT s lev k).1)
theorem exam24 (c:List AV):∀ (s:Sti),HoldT s→∀ (lev:Nat) (k:Int) (tail:List Blk),lev≤9→0≤k→k≤200 →
 ACall Tryz.prog GG 24 [.agg (encT s),I_ lev,.ptr 1 0,.ptr 2 0] ⟨seenH c k++tail,[]⟩ (SeenQ c s lev k tail):=by
 refine Sti.ind fun s ih hh lev k tail hlev hk0 hk=>?_
 refine ACall.k mixed Tryz.func24 rfl (by kernel_rfl) ?_
 have hn:=node25 s hh.self
 have hl:=hh.self.subs
 have hr:=chkT_eq s lev k
 have hkw:IntKind.i64.wrap (k+1)=k+1:=wr (by omega) (by omega)
 have hlw:IntKind.i64.wrap ((lev:Int)+1)=(lev+1:Nat):=by rw [wr (by omega) (by omega)];omega
 simp only [encT_eq s] at hn ⊢
 simp [-getElem?_pos,seenH]
 refine kCall.call hn (by simp) ?_
 by_cases h0:nodeT s=0
 · rw [if_neg (fun h=>h h0)] at hr
   by_cases h8:8<lev
   · have h8':(8:Int)<lev:=by omega
     rw [if_pos (.inl h8)] at hr
     simp [-getElem?_pos,h0,hkw,h8']
     exact⟨by rw [hr],k+1,[_],rfl,fun _=>by rw [hr]⟩
   have h8':¬ (8:Int)<lev:=by omega
   by_cases h2:200<k+1
   · rw [if_pos (.inr h2)] at hr
     simp [-getElem?_pos,h0,hkw,h8',h2]
     exact⟨by rw [hr],k+1,[_],rfl,fun _=>by rw [hr]⟩
   rw [if_neg (fun h=>by omega)] at hr
   simp [-getElem?_pos,h0,hkw,h8',h2]
   refine kLoop.listR s.subs (fun d ev σ=>ev 1=I_ lev∧ev 2=.ptr 1 0∧ev 3=.ptr 2 0∧ev 25=.sl 5 (s.subs.map encT) .none∧ev 26=I_ s.subs.length∧ev 27=I_ d.length∧∃ k' t,σ=⟨seenH c k'++(tail++t),[]⟩∧chkL d (lev+1) (k+1)=(k',0)∧0≤k'∧k'≤200) ?_ ?_ ?_
   · exact⟨by simp,by simp,by simp,by simp,by simp,by simp,k+1,[_],rfl,chkL_nil _ _,by omega,by omega⟩
   · rintro d v r ev σ R hR hd hv hlt ⟨h1,h2',h3,h25,h26,h27,k',t,rfl,hck,hk1,hk2⟩
     have hm:=List.mem_of_getElem? hv
     have hdw:IntKind.i64.wrap ((d.length:Int)+1)=(d.length+1:Nat):=by rw [wr (by omega) (by omega)];omega
     simp [-getElem?_pos,seenH,h1,h2',h3,h25,h26,h27,hlt,hv,hlw,encT_eq v]
     have hi:=ih v hm (hh.sub hm) (lev+1) k' (tail++(t++[.cells (encT v)])) (by omega) hk1 hk2
     simp only [seenH,encT_eq v,List.cons_append,List.nil_append] at hi
     refine kCall.acall hi ?_
     rintro w σ2 ⟨rfl,k2,t2,rfl,hk3⟩
     have hb:=chk_bd v (lev+1) k' hk1 hk2
     have hck0:(chkL d (lev+1) (k+1)).2=0:=by rw [hck]
     have happ:=chkL_app (lev:=lev+1) (r:=v::r) d (k+1) hck0
     rw [← hd,hck,chkL_cons] at happ
     by_cases hx:(chkT v (lev+1) k').2=0
     · simp [-getElem?_pos,hx,h25,h26,h27,hdw]
       refine hR _ _ ⟨by simp [h1],by simp [h2'],by simp [h3],by simp [h25],by simp [h26],by simp,k2,t++.cells (encT v)::t2,by simp [seenH,encT_eq v],?_,?_,?_⟩
       · rw [chkL_app (lev:=lev+1) (r:=[v]) d (k+1) hck0,hck,chkL_one,hk3 hx,← hx]
       · rw [hk3 hx];exact hb.1
       · rw [hk3 hx];exact hb.2.2 hx
     · simp [-getElem?_pos,hx]
       refine⟨by rw [hr,happ,if_neg hx],k2,t++.cells (encT v)::t2,by simp [seenH,encT_eq v],fun h=>?_⟩
       rw [hr,happ,if_neg hx] at h
       exact absurd h hx
   · rintro ev σ ⟨h1,h2',h3,h25,h26,h27,k',t,rfl,hck,hk1,hk2⟩
     simp [-getElem?_pos,h26,h27]
     exact⟨by rw [hr,hck],k',t,rfl,fun _=>by rw [hr,hck]⟩
 · rw [if_pos h0] at hr
   simp [-getElem?_pos,h0]
   exact⟨by rw [hr],k,[_],rfl,fun h=>by rw [hr] at h;exact absurd h h0⟩
section
theorem k3:Tryz.prog.cellsOf 3=1:=by kernel_rfl
theorem k4:Tryz.prog.cellsOf 4=1:=by kernel_rfl
theorem k9:Tryz.prog.cellsOf 9=1:=by kernel_rfl
theorem k22:Tryz.prog.cellsOf 22=1:=by kernel_rfl
theorem k23:Tryz.prog.cellsOf 23=1:=by kernel_rfl
theorem k25:Tryz.prog.cellsOf 25=5:=by kernel_rfl
theorem k33:Tryz.prog.cellsOf 33=1:=by kernel_rfl
theorem k35:Tryz.prog.cellsOf 35=4:=by kernel_rfl
theorem k36:Tryz.prog.cellsOf 36=1:=by kernel_rfl
theorem k37:Tryz.prog.cellsOf 37=1:=by kernel_rfl
theorem k39:Tryz.prog.cellsOf 39=12:=by kernel_rfl
theorem k202:Tryz.prog.cellsOf 202=4:=by kernel_rfl
theorem uB_one {H:Type} (d:DataW H):1≤Rows.uptoBulk d:=by
 cases d with
 | lit l=>cases l<;>simp [Rows.uptoBulk]
 | nil=>simp [Rows.uptoBulk]
 | ptr d=>simp [Rows.uptoBulk]
 | slice elems spare=>simp [Rows.uptoBulk]
 | agg parts=>simp [Rows.uptoBulk]
 | iface t d=>simp [Rows.uptoBulk]
 | map entries=>simp [Rows.uptoBulk]
 | held h=>simp [Rows.uptoBulk]
/-- A sum, part by part. -/
theorem uB_sum {H:Type} {α:Type} {f:α→Nat}:∀ (l:List α) (E:List (DataW H)),l.length=E.length→(∀ (i:Nat) y d,l[i]?=some y→E[i]?=some d→f y≤Rows.uptoBulk d)→(l.map f).sum≤Rows.uptoBulkAll E∧l.length≤Rows.uptoBulkAll E
 | [],E,_,_=>by simp
 | y::l,[],h,_=>by simp at h
 | y::l,d::E,h,hp=>by
  have h0:=hp 0 y d rfl rfl
  obtain⟨h1,h2⟩:=uB_sum l E (by simpa using h) fun i y d h1 h2=>hp (i+1) y d (by simpa using h1) (by simpa using h2)
  have:=uB_one d
  simp only [List.map_cons,List.sum_cons,List.length_cons,Rows.uptoBulkAll]
  exact⟨by omega,by omega⟩
theorem uB_mem {H:Type} {d:DataW H} {E:List (DataW H)} {i:Nat} (h:E[i]?=some d):Rows.uptoBulk d≤Rows.uptoBulkAll E:=by
 induction E generalizing i with
 | nil=>simp at h
 | cons x r ih=>
  simp only [Rows.uptoBulkAll]
  cases i with
  | zero=>simp at h;subst h;exact Nat.le_add_right _ _
  | succ i=>have:=ih (i:=i) (by simpa using h);omega
section
variable {H:Type} {enc:TypeId×Value→H} {w:World} {base:Nat} {held:Bool}
theorem rd_sliceB {α:Type} {t e sz:Nat} {en:α→List AV} {good:α→Prop} {f:α→Nat} {q:α→Nat→Prop} {n:Nat} (hq:∀ y b b',q y b→b≤b'→q y b') (ht:Tryz.prog.underlying t=some (.slice e)) (hsz:Tryz.prog.cellsOf e=sz) (hpos:0<sz)
 (hat:∀ y,(en y).all AV.atom=true∧(en y).length=sz)
 (hel:∀ cs x,DataW.trod enc Tryz.prog w base (fun _=>true) held n e cs=some x→∃ y,VRels (KW w) (en y) cs∧good y∧f y≤Rows.uptoBulk x.1∧q y (Rows.uptoBulk x.1))
 {cs:List Value} {x:DataW H×List MemPlace} (h:DataW.trod enc Tryz.prog w base (fun _=>true) held (n+1) t cs=some x) :
 ∃ (l:List α) (v:Value),cs=[v]∧VRel (KW w) (.sl sz (l.map en) .none) v∧Fits l∧(∀ y∈l,good y)∧(l.map f).sum+1≤Rows.uptoBulk x.1∧l.length+1≤Rows.uptoBulk x.1∧∀ y∈l,q y (Rows.uptoBulk x.1):=by
 rcases DataW.trod_slice ht h with ⟨rfl,rfl⟩|⟨a,len,cap,elems,rest,m,hm,rfl,rfl,hb,hl,hc,hlen,hel',hsp,_⟩
 · exact⟨[],_,rfl,by simp only [VRel];exact .inl ⟨⟨none,rfl,.inl rfl⟩,rfl,trivial⟩,by simp,by simp,by simp [Rows.uptoBulk],by simp [Rows.uptoBulk],by simp⟩
 · have hnm:n=m:=by omega
   subst hnm
   rw [hsz] at hel' hsp
   have one:∀ i,i<len→∃ y,∃ cs',w.cells? base (a.add (i*sz)) sz=some cs'∧VRels (KW w) (en y) cs'∧good y∧∀ d,(elems.map (·.1))[i]?=some d→f y≤Rows.uptoBulk d∧q y (Rows.uptoBulk d):=by
    intro i hi
    have:=hel' i hi
    rw [List.getElem?_eq_getElem (by omega)] at this
    obtain⟨cs',h1,h2⟩:=Option.bind_eq_some_iff.1 this
    obtain⟨y,h3,h4,h5⟩:=hel cs' _ h2
    refine⟨y,cs',h1,h3,h4,fun d hd=>?_⟩
    rw [List.getElem?_map,List.getElem?_eq_getElem (by omega)] at hd
    cases hd
    exact h5
   by_cases h0:cap=0
   · have hl0:len=0:=by omega
     subst h0 hl0
     exact⟨[],_,rfl,by simp only [VRel];exact .inl ⟨⟨some a,rfl,.inr trivial⟩,rfl,trivial⟩,by simp,by simp,by simpa using uB_one _,by simpa using uB_one _,by simp⟩
   · have spot:a.spot=none:=by
      have rd:∃ cs',w.cells? base (a.add 0) sz=some cs':=by
       by_cases hl0:0<len
       · obtain⟨_,cs',h1,_⟩:=one 0 hl0
         rw [Nat.zero_mul] at h1
         exact⟨cs',h1⟩
       · obtain⟨hr1,hr2⟩:=hsp rfl
         have:=hr2 0 (by omega)
         rw [List.getElem?_eq_getElem (by omega),show len+0=0 by omega,Nat.zero_mul] at this
         obtain⟨cs',h1,_⟩:=Option.bind_eq_some_iff.1 this
         exact⟨cs',h1⟩
      obtain⟨cs',h1⟩:=rd
      obtain⟨_,hlen',hc'⟩:=World.cells?_some h1
      have:=hc' 0 hpos
      rw [List.getElem?_eq_getElem (by omega)] at this
      cases hs:a.spot with
      | none=>rfl
      | some s=>
       simp only [Addr.add,if_true] at this
       unfold World.cell? at this
       rw [hs] at this
       split at this<;>simp at this
     obtain⟨b,o,s⟩:=a
     simp only at spot
     subst spot
     obtain⟨l,hl1,hl2⟩:=list_choose len one
     have hlen2:l.length=(elems.map (·.1)).length:=by simp [hl1,hlen]
     have hsum:=uB_sum (f:=f) l (elems.map (·.1)) hlen2 fun i y d h1 h2=>by
      obtain⟨_,_,_,_,hg⟩:=hl2 i y h1
      exact (hg d h2).1
     have hbk:Rows.uptoBulk (DataW.slice (elems.map (·.1)) (rest.map (·.1)):DataW H)=Rows.uptoBulkAll (elems.map (·.1))+Rows.uptoBulkAll (rest.map (·.1))+1:=by simp only [Rows.uptoBulk]
     refine⟨l,_,rfl,?_,by rw [Fits,hl1];simp only [maxLen] at hc;omega,fun y hy=>?_,by rw [hbk];omega,by rw [hbk];omega,fun y hy=>?_⟩
     · simp only [VRel]
       refine .inr ⟨b,o,cap,by simp [hl1],by simpa [hl1] using hl,RowsAt.intro b sz _ o fun i r e=>?_,trivial⟩
       rw [List.getElem?_map,Option.map_eq_some_iff] at e
       obtain⟨y,hy,rfl⟩:=e
       obtain⟨cs',h1,h2,_,_⟩:=hl2 i y hy
       obtain⟨h3,h4⟩:=hat y
       obtain⟨_,hlen',hc'⟩:=World.cells?_some h1
       obtain⟨g1,g2⟩:=VRels.get h2
       refine⟨h4,h3,CellsAt.intro b _ _ fun j z hz=>?_⟩
       obtain⟨v,hv1,hv2⟩:=g2 j z hz
       have hjl:j<sz:=by rw [← hlen'];exact (List.getElem?_eq_some_iff.1 hv1).1
       refine⟨v,?_,hv2⟩
       have:=hc' j hjl
       rw [hv1] at this
       show w.cell? ⟨b,o+i*sz+j,none⟩=some v
       rw [← this]
       congr 1
       simp only [Addr.add]
       by_cases hi0:i*sz=0
       · rw [if_pos hi0]
         by_cases hj0:j=0
         · rw [if_pos hj0,hi0,hj0];simp
         · rw [if_neg hj0,hi0];simp
       · rw [if_neg hi0]
         by_cases hj0:j=0
         · rw [if_pos hj0,hj0];simp
         · rw [if_neg hj0]
     · obtain⟨i,hi⟩:=List.getElem?_of_mem hy
       obtain⟨_,_,_,hg,_⟩:=hl2 i y hi
       exact hg
     · obtain⟨i,hi⟩:=List.getElem?_of_mem hy
       obtain⟨_,_,_,_,hg⟩:=hl2 i y hi
       have hil:=(List.getElem?_eq_some_iff.1 hi).1
       have hd:(elems.map (·.1))[i]?=some ((elems.map (·.1))[i]'(by omega)):=List.getElem?_eq_getElem _
       refine hq _ _ _ (hg _ hd).2 ?_
       have:=uB_mem hd
       rw [hbk]
       omega
theorem rd_fieldB {fs:Array Field} {t n:Nat} {cs:List Value} {x:DataW H×List MemPlace} (ht:Tryz.prog.underlying t=some (.struct fs)) (h:DataW.trod enc Tryz.prog w base (fun _=>true) held n t cs=some x) :
 ∃ m,n=m+1∧cs.length=Tryz.prog.cellsOf t∧∃ xs:List (DataW H×List MemPlace),x.1=.agg (xs.map (·.1))∧xs.length=fs.size∧∀ (i:Nat) (f:Field),fs[i]?=some f→∃ y,xs[i]?=some y∧DataW.trod enc Tryz.prog w base (fun _=>true) held m f.type ((cs.drop f.offset).take (Tryz.prog.cellsOf f.type))=some y:=by
 obtain⟨xs,m,rfl,rfl,hl,hlen,hf⟩:=DataW.trod_struct ht h
 refine⟨m,rfl,hl,xs,rfl,hlen,fun i f hi=>?_⟩
 have hlt:i<fs.size:=(Array.getElem?_eq_some_iff.1 hi).1
 exact⟨xs[i]'(by omega),List.getElem?_eq_getElem _,by rw [hf i f hi,List.getElem?_eq_getElem]⟩
theorem str_rel {s:ByteArray}:VRel (KW w) (.str s.data.toList) (.string s):=by
 obtain⟨d⟩:=s
 unfold VRel
 show Value.string ⟨d⟩=Value.string ⟨d.toList.toArray⟩
 rw [Array.toArray_toList]
theorem rd_int {n:Nat} {c:Value} {y:DataW H×List MemPlace} (h:DataW.trod enc Tryz.prog w base (fun _=>true) held n 3 [c]=some y):∃ i:Int,c=.int .i64 i:=by
 obtain⟨i,e,_⟩:=DataW.trod_int Tryz.underlying3 h
 exact⟨i,(List.cons.inj e).1⟩
theorem rd_bool {n:Nat} {c:Value} {y:DataW H×List MemPlace} (h:DataW.trod enc Tryz.prog w base (fun _=>true) held n 4 [c]=some y):∃ i:Bool,c=.bool i:=by
 obtain⟨i,e,_⟩:=DataW.trod_bool Tryz.underlying4 h
 exact⟨i,(List.cons.inj e).1⟩
theorem rd_str {n:Nat} {c:Value} {y:DataW H×List MemPlace} (h:DataW.trod enc Tryz.prog w base (fun _=>true) held n 9 [c]=some y):∃ s:ByteArray,c=.string s∧Fits s.data.toList:=by
 obtain⟨s,e,_,hs⟩:=DataW.trod_string Tryz.underlying9 h
 refine⟨s,(List.cons.inj e).1,?_⟩
 have:s.data.toList.length=s.size:=Array.length_toList
 rw [Fits,this]
 simp only [maxLen] at hs
 omega
theorem rdWeight {n:Nat} {cs:List Value} {x:DataW H×List MemPlace} (h:DataW.trod enc Tryz.prog w base (fun _=>true) held n 202 cs=some x):∃ v:Weight,VRels (KW w) (encWeight v) cs:=by
 obtain⟨m,rfl,hl,_,_,_,hf⟩:=rd_fieldB Tryz.underlying202 h
 rw [k202] at hl
 match cs,hl with
 | [a,b,c,d],_=>
  obtain⟨y0,_,h0⟩:=hf 0 _ rfl
  obtain⟨y1,_,h1⟩:=hf 1 _ rfl
  obtain⟨y2,_,h2⟩:=hf 2 _ rfl
  obtain⟨y3,_,h3⟩:=hf 3 _ rfl
  have h0:DataW.trod enc Tryz.prog w base (fun _=>true) held m 3 (List.take (Tryz.prog.cellsOf 3) (List.drop 0 [a,b,c,d]))=some y0:=h0
  rw [k3] at h0
  have h1:DataW.trod enc Tryz.prog w base (fun _=>true) held m 3 (List.take (Tryz.prog.cellsOf 3) (List.drop 1 [a,b,c,d]))=some y1:=h1
  rw [k3] at h1
  have h2:DataW.trod enc Tryz.prog w base (fun _=>true) held m 3 (List.take (Tryz.prog.cellsOf 3) (List.drop 2 [a,b,c,d]))=some y2:=h2
  rw [k3] at h2
  have h3:DataW.trod enc Tryz.prog w base (fun _=>true) held m 4 (List.take (Tryz.prog.cellsOf 4) (List.drop 3 [a,b,c,d]))=some y3:=h3
  rw [k4] at h3
  obtain⟨i0,rfl⟩:=rd_int (c:=a) h0
  obtain⟨i1,rfl⟩:=rd_int (c:=b) h1
  obtain⟨i2,rfl⟩:=rd_int (c:=c) h2
  obtain⟨i3,rfl⟩:=rd_bool (c:=d) h3
  refine⟨⟨i0,i1,i2,i3⟩,?_⟩
  simp [VRels,VRel]
theorem rdStrs {n:Nat} {c:Value} {y:DataW H×List MemPlace} (h:DataW.trod enc Tryz.prog w base (fun _=>true) held n 37 [c]=some y):∃ l:List Str,VRel (KW w) (.sl 1 (l.map encStr) .none) c∧Fits l∧(∀ s∈l,Fits s)∧l.length+1≤Rows.uptoBulk y.1:=by
 cases n with
 | zero=>simp [DataW.trod] at h
 | succ m=>
  obtain⟨l,v,e,hv,hfl,hg,_,hn,_⟩:=rd_sliceB (en:=encStr) (good:=fun s=>Fits s) (f:=fun _=>0) (q:=fun _ _=>True) (fun _ _ _ _ _=>trivial) Tryz.underlying37 k9 (by omega) (fun y=>by simp [AV.atom]) (fun cs x h=>by
   obtain⟨s,e,_,hs⟩:=DataW.trod_string Tryz.underlying9 h
   refine⟨s.data.toList,?_,?_,Nat.zero_le _,trivial⟩
   · rw [e];simp only [encStr,VRels];exact⟨_,_,rfl,str_rel,rfl⟩
   · have:s.data.toList.length=s.size:=Array.length_toList
     rw [Fits,this]
     simp only [maxLen] at hs
     omega) h
  cases e
  exact⟨l,hv,hfl,hg,hn⟩
theorem preL_sum:∀ l:List Ex,(preL l).length=(l.map fun e=>(pre e).length).sum
 | []=>by simp
 | e::r=>by simp [preL_sum r]
theorem rdE:∀ (N n:Nat),n≤N→∀ {cs:List Value} {x:DataW H×List MemPlace},DataW.trod enc Tryz.prog w base (fun _=>true) held n 35 cs=some x→∃ e:Ex,VRels (KW w) (encE e) cs∧Wen e∧(pre e).length≤Rows.uptoBulk x.1:=by
 intro N
 induction N with
 | zero=>
  intro n hn cs x h
  have:n=0:=by omega
  subst this
  simp [DataW.trod] at h
 | succ N ih=>
  intro n hn cs x h
  obtain⟨m,rfl,hl,xs,hx,hxl,hf⟩:=rd_fieldB Tryz.underlying35 h
  rw [k35] at hl
  match xs,hxl with
  | [x0,x1,x2,x3],_=>
  match cs,hl with
  | [a,b,c,d],_=>
   obtain⟨y0,_,h0⟩:=hf 0 _ rfl
   obtain⟨y1,_,h1⟩:=hf 1 _ rfl
   obtain⟨y2,_,h2⟩:=hf 2 _ rfl
   obtain⟨y3,e3,h3⟩:=hf 3 _ rfl
   have h0:DataW.trod enc Tryz.prog w base (fun _=>true) held m 3 (List.take (Tryz.prog.cellsOf 3) (List.drop 0 [a,b,c,d]))=some y0:=h0
   rw [k3] at h0
   have h1:DataW.trod enc Tryz.prog w base (fun _=>true) held m 3 (List.take (Tryz.prog.cellsOf 3) (List.drop 1 [a,b,c,d]))=some y1:=h1
   rw [k3] at h1
   have h2:DataW.trod enc Tryz.prog w base (fun _=>true) held m 9 (List.take (Tryz.prog.cellsOf 9) (List.drop 2 [a,b,c,d]))=some y2:=h2
   rw [k9] at h2
   have h3:DataW.trod enc Tryz.prog w base (fun _=>true) held m 33 (List.take (Tryz.prog.cellsOf 33) (List.drop 3 [a,b,c,d]))=some y3:=h3
   rw [k33] at h3
   obtain⟨i0,rfl⟩:=rd_int (c:=a) h0
   obtain⟨i1,rfl⟩:=rd_int (c:=b) h1
   obtain⟨s,rfl,hs⟩:=rd_str (c:=c) h2
   have h3':DataW.trod enc Tryz.prog w base (fun _=>true) held m 33 [d]=some y3:=h3
   cases m with
   | zero=>simp [DataW.trod] at h3'
   | succ m=>
    obtain⟨l,v,e,hv,hfl,hg,hsum,_,_⟩:=rd_sliceB (en:=encE) (good:=Wen) (f:=fun e=>(pre e).length) (q:=fun _ _=>True) (fun _ _ _ _ _=>trivial) Tryz.underlying33 k35 (by omega) (fun y=>by rw [encE_eq];simp [AV.atom]) (fun cs x h=>by
     obtain⟨e,g1,g2,g3⟩:=ih m (by omega) h
     exact⟨e,g1,g2,g3,trivial⟩) h3'
    cases e
    refine⟨.mk i0 i1 s.data.toList l,?_,?_,?_⟩
    · rw [encE_eq]
      simp only [VRels,Ex.op_mk,Ex.n_mk,Ex.name_mk,Ex.args_mk]
      exact⟨_,_,rfl,by simp [VRel],_,_,rfl,by simp [VRel],_,_,rfl,str_rel,_,[],rfl,hv,rfl⟩
    · intro y hy
      rw [pre_eq] at hy
      rcases List.mem_cons.1 hy with rfl|hy
      · exact⟨hfl,hs⟩
      · obtain⟨a,ha,hya⟩:=mem_preL.1 hy
        exact hg a ha y hya
    · rw [pre_eq,List.length_cons,Ex.args_mk,preL_sum,hx]
      have e3':x3=y3:=by simpa using e3
      simp only [List.map_cons,List.map_nil,Rows.uptoBulk,Rows.uptoBulk,Rows.uptoBulkAll] at hsum ⊢
      rw [e3']
      omega
/-- Bounds of a constraint. -/
def BndI (x:It) (b:Nat):Prop:=∀ y∈preI x,(pre y.expr).length≤b∧y.ws.length≤b∧y.items.length≤b∧y.els.length≤b∧y.before.length≤b∧y.after.length≤b
theorem BndI.mono {x:It} {b b':Nat} (h:BndI x b) (hb:b≤b'):BndI x b':=fun y hy=>by
 have:=h y hy
 omega
theorem preIL_sum:∀ l:List It,(preIL l).length=(l.map fun x=>(preI x).length).sum
 | []=>by simp [preIL]
 | x::r=>by simp [preIL,preIL_sum r]
theorem rdIt:∀ (N n:Nat),n≤N→∀ {cs:List Value} {x:DataW H×List MemPlace},DataW.trod enc Tryz.prog w base (fun _=>true) held n 39 cs=some x→∃ v:It,VRels (KW w) (encI v) cs∧HoldI v∧(preI v).length≤Rows.uptoBulk x.1∧BndI v (Rows.uptoBulk x.1):=by
 intro N
 induction N with
 | zero=>
  intro n hn cs x h
  have:n=0:=by omega
  subst this
  simp [DataW.trod] at h
 | succ N ih=>
  intro n hn cs x h
  obtain⟨m,rfl,hl,xs,hx,hxl,hf⟩:=rd_fieldB Tryz.underlying39 h
  rw [k39] at hl
  match xs,hxl with
  | [z0,z1,z2,z3,z4,z5,z6,z7,z8],_=>
  match cs,hl with
  | [a0,a1,a2,a3,a4,a5,a6,a7,a8,a9,a10,a11],_=>
   obtain⟨y0,q0,h0⟩:=hf 0 _ rfl
   have h0:DataW.trod enc Tryz.prog w base (fun _=>true) held m 3 (List.take (Tryz.prog.cellsOf 3) (List.drop 0 [a0,a1,a2,a3,a4,a5,a6,a7,a8,a9,a10,a11]))=some y0:=h0
   rw [k3] at h0
   obtain⟨y1,q1,h1⟩:=hf 1 _ rfl
   have h1:DataW.trod enc Tryz.prog w base (fun _=>true) held m 35 (List.take (Tryz.prog.cellsOf 35) (List.drop 1 [a0,a1,a2,a3,a4,a5,a6,a7,a8,a9,a10,a11]))=some y1:=h1
   rw [k35] at h1
   obtain⟨y2,q2,h2⟩:=hf 2 _ rfl
   have h2:DataW.trod enc Tryz.prog w base (fun _=>true) held m 9 (List.take (Tryz.prog.cellsOf 9) (List.drop 5 [a0,a1,a2,a3,a4,a5,a6,a7,a8,a9,a10,a11]))=some y2:=h2
   rw [k9] at h2
   obtain⟨y3,q3,h3⟩:=hf 3 _ rfl
   have h3:DataW.trod enc Tryz.prog w base (fun _=>true) held m 9 (List.take (Tryz.prog.cellsOf 9) (List.drop 6 [a0,a1,a2,a3,a4,a5,a6,a7,a8,a9,a10,a11]))=some y3:=h3
   rw [k9] at h3
   obtain⟨y4,q4,h4⟩:=hf 4 _ rfl
   have h4:DataW.trod enc Tryz.prog w base (fun _=>true) held m 36 (List.take (Tryz.prog.cellsOf 36) (List.drop 7 [a0,a1,a2,a3,a4,a5,a6,a7,a8,a9,a10,a11]))=some y4:=h4
   rw [k36] at h4
   obtain⟨y5,q5,h5⟩:=hf 5 _ rfl
   have h5:DataW.trod enc Tryz.prog w base (fun _=>true) held m 22 (List.take (Tryz.prog.cellsOf 22) (List.drop 8 [a0,a1,a2,a3,a4,a5,a6,a7,a8,a9,a10,a11]))=some y5:=h5
   rw [k22] at h5
   obtain⟨y6,q6,h6⟩:=hf 6 _ rfl
   have h6:DataW.trod enc Tryz.prog w base (fun _=>true) held m 22 (List.take (Tryz.prog.cellsOf 22) (List.drop 9 [a0,a1,a2,a3,a4,a5,a6,a7,a8,a9,a10,a11]))=some y6:=h6
   rw [k22] at h6
   obtain⟨y7,q7,h7⟩:=hf 7 _ rfl
   have h7:DataW.trod enc Tryz.prog w base (fun _=>true) held m 37 (List.take (Tryz.prog.cellsOf 37) (List.drop 10 [a0,a1,a2,a3,a4,a5,a6,a7,a8,a9,a10,a11]))=some y7:=h7
   rw [k37] at h7
   obtain⟨y8,q8,h8⟩:=hf 8 _ rfl
   have h8:DataW.trod enc Tryz.prog w base (fun _=>true) held m 37 (List.take (Tryz.prog.cellsOf 37) (List.drop 11 [a0,a1,a2,a3,a4,a5,a6,a7,a8,a9,a10,a11]))=some y8:=h8
   rw [k37] at h8
   obtain⟨i0,rfl⟩:=rd_int (c:=a0) h0
   have h1':DataW.trod enc Tryz.prog w base (fun _=>true) held m 35 [a1,a2,a3,a4]=some y1:=h1
   obtain⟨ex,re,ge,be⟩:=rdE m m (Nat.le_refl _) h1'
   obtain⟨s2,rfl,g2⟩:=rd_str (c:=a5) h2
   obtain⟨s3,rfl,g3⟩:=rd_str (c:=a6) h3
   have h4':DataW.trod enc Tryz.prog w base (fun _=>true) held m 36 [a7]=some y4:=h4
   have h5':DataW.trod enc Tryz.prog w base (fun _=>true) held m 22 [a8]=some y5:=h5
   have h6':DataW.trod enc Tryz.prog w base (fun _=>true) held m 22 [a9]=some y6:=h6
   obtain⟨l7,r7,f7,g7,b7⟩:=rdStrs (c:=a10) h7
   obtain⟨l8,r8,f8,g8,b8⟩:=rdStrs (c:=a11) h8
   cases m with
   | zero=>simp [DataW.trod] at h4'
   | succ m=>
    have hel:=fun cs x (h:DataW.trod enc Tryz.prog w base (fun _=>true) held m 39 cs=some x)=>ih m (by omega) h
    obtain⟨l4,v4,e4,r4,f4,_,_,b4,_⟩:=rd_sliceB (en:=encWeight) (good:=fun _=>True) (f:=fun _=>0) (q:=fun _ _=>True) (fun _ _ _ _ _=>trivial) Tryz.underlying36 k202 (by omega) (fun y=>by simp [AV.atom]) (fun cs x h=>by
     obtain⟨v,hv⟩:=rdWeight h
     exact⟨v,hv,trivial,Nat.zero_le _,trivial⟩) h4'
    obtain⟨l5,v5,e5,r5,f5,g5,s5,b5,q5'⟩:=rd_sliceB (en:=encI) (good:=HoldI) (f:=fun x=>(preI x).length) (q:=BndI) (fun _ _ _ h hb=>h.mono hb) Tryz.underlying22 k39 (by omega) (fun y=>⟨encI_atoms y,encI_len y⟩) hel h5'
    obtain⟨l6,v6,e6,r6,f6,g6,s6,b6,q6'⟩:=rd_sliceB (en:=encI) (good:=HoldI) (f:=fun x=>(preI x).length) (q:=BndI) (fun _ _ _ h hb=>h.mono hb) Tryz.underlying22 k39 (by omega) (fun y=>⟨encI_atoms y,encI_len y⟩) hel h6'
    cases e4;cases e5;cases e6
    have hb:Rows.uptoBulk x.1=Rows.uptoBulk z0.1+(Rows.uptoBulk y1.1+(Rows.uptoBulk z2.1+(Rows.uptoBulk z3.1+(Rows.uptoBulk y4.1+(Rows.uptoBulk y5.1+(Rows.uptoBulk y6.1+(Rows.uptoBulk y7.1+Rows.uptoBulk y8.1)))))))+1:=by
     have w1:z1=y1:=by simpa using q1
     have w4:z4=y4:=by simpa using q4
     have w5:z5=y5:=by simpa using q5
     have w6:z6=y6:=by simpa using q6
     have w7:z7=y7:=by simpa using q7
     have w8:z8=y8:=by simpa using q8
     rw [hx,← w1,← w4,← w5,← w6,← w7,← w8]
     simp only [List.map_cons,List.map_nil,Rows.uptoBulk,Rows.uptoBulkAll,Nat.add_zero]
    refine⟨.mk i0 ex s2.data.toList s3.data.toList l4 l5 l6 l7 l8,?_,?_,?_,?_⟩
    · rw [encI_eq]
      simp only [It.kind,It.expr,It.name,It.index,It.ws,It.items,It.els,It.before,It.after]
      rw [encE_eq] at re ⊢
      simp only [VRels] at re
      obtain⟨b1,t1,q1,re1,b2,t2,q2,re2,b3,t3,q3,re3,b4,t4,q4,re4,q5⟩:=re
      simp only [List.cons.injEq] at q1
      obtain⟨rfl,rfl⟩:=q1
      simp only [List.cons.injEq] at q2
      obtain⟨rfl,rfl⟩:=q2
      simp only [List.cons.injEq] at q3
      obtain⟨rfl,rfl⟩:=q3
      simp only [List.cons.injEq] at q4
      obtain⟨rfl,rfl⟩:=q4
      simp only [List.cons_append,List.nil_append,VRels]
      exact⟨_,_,rfl,by simp [VRel],_,_,rfl,re1,_,_,rfl,re2,_,_,rfl,re3,_,_,rfl,re4,_,_,rfl,str_rel,_,_,rfl,str_rel,_,_,rfl,r4,_,_,rfl,r5,_,_,rfl,r6,_,_,rfl,r7,_,_,rfl,r8,rfl⟩
    · intro y hy
      rw [preI_eq] at hy
      rcases List.mem_cons.1 hy with rfl|hy
      · exact⟨ge,g2,g3,f4,f5,f6,f7,f8,fun s hs=>by
         rcases List.mem_append.1 hs with hs|hs
         · exact g7 s hs
         · exact g8 s hs⟩
      · rcases List.mem_append.1 hy with hy|hy
        · obtain⟨b,hb,hyb⟩:=mem_preIL.1 hy
          exact g5 b hb y hyb
        · obtain⟨b,hb,hyb⟩:=mem_preIL.1 hy
          exact g6 b hb y hyb
    · rw [preI_eq,List.length_cons,List.length_append,preIL_sum,preIL_sum,hb]
      simp only [It.items,It.els]
      omega
    · intro y hy
      rw [preI_eq] at hy
      rcases List.mem_cons.1 hy with rfl|hy
      · simp only [It.expr,It.ws,It.items,It.els,It.before,It.after]
        omega
      · rcases List.mem_append.1 hy with hy|hy
        · obtain⟨b,hbm,hyb⟩:=mem_preIL.1 hy
          exact ((q5' b hbm).mono (by omega)) y hyb
        · obtain⟨b,hbm,hyb⟩:=mem_preIL.1 hy
          exact ((q6' b hbm).mono (by omega)) y hyb
/-- What is bounded of a node. -/
def BndT (s:Sti) (b:Nat):Prop:=∀ y∈preT s,Fits y.cls∧Fits y.subs∧(∀ x∈y.items,HoldI x)∧Fits y.items∧y.items.length≤b∧(preIL y.items).length≤b∧∀ x∈y.items,BndI x b
theorem BndT.mono {s:Sti} {b b':Nat} (h:BndT s b) (hb:b≤b'):BndT s b':=fun y hy=>by
 obtain⟨h1,h2,h3,h4,h5,h6,h7⟩:=h y hy
 exact⟨h1,h2,h3,h4,by omega,by omega,fun x hx=>(h7 x hx).mono hb⟩
theorem preTL_sum:∀ l:List Sti,(preTL l).length=(l.map fun x=>(preT x).length).sum
 | []=>by simp [preTL]
 | x::r=>by simp [preTL,preTL_sum r]
theorem rdT:∀ (N n:Nat),n≤N→∀ {cs:List Value} {x:DataW H×List MemPlace},DataW.trod enc Tryz.prog w base (fun _=>true) held n 25 cs=some x→∃ v:Sti,VRels (KW w) (encT v) cs∧(preT v).length≤Rows.uptoBulk x.1∧BndT v (Rows.uptoBulk x.1):=by
 intro N
 induction N with
 | zero=>
  intro n hn cs x h
  have:n=0:=by omega
  subst this
  simp [DataW.trod] at h
 | succ N ih=>
  intro n hn cs x h
  obtain⟨m,rfl,hl,xs,hx,hxl,hf⟩:=rd_fieldB Tryz.underlying25 h
  rw [k25] at hl
  match xs,hxl with
  | [z0,z1,z2,z3,z4],_=>
  match cs,hl with
  | [a0,a1,a2,a3,a4],_=>
   obtain⟨y0,q0,h0⟩:=hf 0 _ rfl
   have h0:DataW.trod enc Tryz.prog w base (fun _=>true) held m 3 (List.take (Tryz.prog.cellsOf 3) (List.drop 0 [a0,a1,a2,a3,a4]))=some y0:=h0
   rw [k3] at h0
   obtain⟨y1,q1,h1⟩:=hf 1 _ rfl
   have h1:DataW.trod enc Tryz.prog w base (fun _=>true) held m 3 (List.take (Tryz.prog.cellsOf 3) (List.drop 1 [a0,a1,a2,a3,a4]))=some y1:=h1
   rw [k3] at h1
   obtain⟨y2,q2,h2⟩:=hf 2 _ rfl
   have h2:DataW.trod enc Tryz.prog w base (fun _=>true) held m 9 (List.take (Tryz.prog.cellsOf 9) (List.drop 2 [a0,a1,a2,a3,a4]))=some y2:=h2
   rw [k9] at h2
   obtain⟨y3,q3,h3⟩:=hf 3 _ rfl
   have h3:DataW.trod enc Tryz.prog w base (fun _=>true) held m 22 (List.take (Tryz.prog.cellsOf 22) (List.drop 3 [a0,a1,a2,a3,a4]))=some y3:=h3
   rw [k22] at h3
   obtain⟨y4,q4,h4⟩:=hf 4 _ rfl
   have h4:DataW.trod enc Tryz.prog w base (fun _=>true) held m 23 (List.take (Tryz.prog.cellsOf 23) (List.drop 4 [a0,a1,a2,a3,a4]))=some y4:=h4
   rw [k23] at h4
   obtain⟨i0,rfl⟩:=rd_int (c:=a0) h0
   obtain⟨i1,rfl⟩:=rd_int (c:=a1) h1
   obtain⟨s2,rfl,g2⟩:=rd_str (c:=a2) h2
   have h3':DataW.trod enc Tryz.prog w base (fun _=>true) held m 22 [a3]=some y3:=h3
   have h4':DataW.trod enc Tryz.prog w base (fun _=>true) held m 23 [a4]=some y4:=h4
   cases m with
   | zero=>simp [DataW.trod] at h4'
   | succ m=>
    obtain⟨l3,v3,e3,r3,f3,g3,s3,b3,q3'⟩:=rd_sliceB (en:=encI) (good:=HoldI) (f:=fun x=>(preI x).length) (q:=BndI) (fun _ _ _ h hb=>h.mono hb) Tryz.underlying22 k39 (by omega) (fun y=>⟨encI_atoms y,encI_len y⟩) (fun cs x h=>rdIt m m (Nat.le_refl _) h) h3'
    obtain⟨l4,v4,e4,r4,f4,_,s4,b4,q4'⟩:=rd_sliceB (en:=encT) (good:=fun _=>True) (f:=fun x=>(preT x).length) (q:=BndT) (fun _ _ _ h hb=>h.mono hb) Tryz.underlying23 k25 (by omega) (fun y=>⟨encT_atoms y,encT_len y⟩) (fun cs x h=>by
     obtain⟨v,c1,c2,c3⟩:=ih m (by omega) h
     exact⟨v,c1,trivial,c2,c3⟩) h4'
    cases e3;cases e4
    have hb:Rows.uptoBulk x.1=Rows.uptoBulk z0.1+(Rows.uptoBulk z1.1+(Rows.uptoBulk z2.1+(Rows.uptoBulk y3.1+Rows.uptoBulk y4.1)))+1:=by
     have w3:z3=y3:=by simpa using q3
     have w4:z4=y4:=by simpa using q4
     rw [hx,← w3,← w4]
     simp only [List.map_cons,List.map_nil,Rows.uptoBulk,Rows.uptoBulkAll,Nat.add_zero]
    refine⟨.mk i0 i1 s2.data.toList l3 l4,?_,?_,?_⟩
    · rw [encT_eq]
      simp only [Sti.op,Sti.n,Sti.cls,Sti.items,Sti.subs,VRels]
      exact⟨_,_,rfl,by simp [VRel],_,_,rfl,by simp [VRel],_,_,rfl,str_rel,_,_,rfl,r3,_,_,rfl,r4,rfl⟩
    · rw [preT_eq,List.length_cons,preTL_sum,hb]
      simp only [Sti.subs]
      omega
    · intro y hy
      rw [preT_eq] at hy
      rcases List.mem_cons.1 hy with rfl|hy
      · simp only [Sti.cls,Sti.items,Sti.subs]
        rw [preIL_sum]
        exact⟨g2,f4,g3,f3,by omega,by omega,fun x hx=>(q3' x hx).mono (by omega)⟩
      · obtain⟨b,hbm,hyb⟩:=mem_preTL.1 hy
        exact ((q4' b hbm).mono (by omega)) y hyb
end
theorem pre_args:∀ e:Ex,∀ x∈pre e,x.args.length≤(pre e).length:=by
 have h1:∀ l:List Ex,l.length≤(preL l).length:=by
  intro l
  induction l with
  | nil=>simp
  | cons a r ih=>rw [preL_cons,List.length_append,pre_eq];simp;omega
 have h2:∀ (l:List Ex) (a:Ex),a∈l→(pre a).length≤(preL l).length:=by
  intro l
  induction l with
  | nil=>intro a h;cases h
  | cons b r ih=>
   intro a h
   rw [preL_cons,List.length_append]
   rcases List.mem_cons.1 h with rfl|h
   · omega
   · have:=ih a h;omega
 refine Ex.ind fun e ih x hx=>?_
 rw [pre_eq] at hx ⊢
 rw [List.length_cons]
 rcases List.mem_cons.1 hx with rfl|hx
 · have:=h1 x.args;omega
 · obtain⟨a,ha,hxa⟩:=mem_preL.1 hx
   have:=ih a ha x hxa
   have:=h2 _ a ha
   omega
theorem holdT_of {s:Sti} {b:Nat} (h:BndT s b) (hb:b≤1048576):HoldT s:=fun y hy=>by
 obtain⟨h1,h2,h3,h4,h5,h6,h7⟩:=h y hy
 have hh:∀ z∈preIL y.items,Hold1 z:=fun z hz=>by
  obtain⟨x,hx,hzx⟩:=mem_preIL.1 hz
  exact h3 x hx z hzx
 have hbd:∀ z∈preIL y.items,(pre z.expr).length≤b∧z.ws.length≤b∧z.items.length≤b∧z.els.length≤b∧z.before.length≤b∧z.after.length≤b:=fun z hz=>by
  obtain⟨x,hx,hzx⟩:=mem_preIL.1 hz
  exact h7 x hx z hzx
 refine⟨h1,⟨hh,fun z hz=>?_,by omega,by omega,fun z hz=>?_⟩,h2⟩
 · obtain⟨c1,c2,c3,c4,c5,c6⟩:=hbd z hz
   refine⟨fun x hx=>?_,(hh z hz).expr,by omega,by omega,by omega,by omega,by omega⟩
   have:=pre_args z.expr x hx
   omega
 · have:=(hbd z hz).1
   omega
end
end Go.Proofs.YtkodonalmdmgpaaGreatDoor
end
