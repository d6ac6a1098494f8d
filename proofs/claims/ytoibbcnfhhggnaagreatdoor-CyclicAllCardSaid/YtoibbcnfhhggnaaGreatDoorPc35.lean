/- A part of the proof. -/
import Derived.Test.YtoibbcnfhhggnaaGreatDoorPc31
import Derived.Test.YtoibbcnfhhggnaaGreatDoorPc34
set_option linter.unusedVariables false
set_option linter.unusedSimpArgs false
set_option maxRecDepth 100000
set_option linter.defProp false
section
namespace Go.Proofs.YtoibbcnfhhggnaaGreatDoor
open Go Go.Abs Go.ChangeShapes Go.WideShapes Go.ChangeAt Go.RowKit
theorem qkr {H:Type}{enc:TypeId×Value->H}{W W':World}{v:Value}{d:DataW H}{ps:List MemPlace}{sp:Nat->Bool}(h:DataW.Trod enc Tryz.prog W 0 (fun _=>true) true 27 v d ps)(hb:Go.RowKit.Below W.heap.size W W')(hlt:∀ x∈ps,x.block<W.heap.size)(hs:∀ p∈ps,sp p.block=true) :
 DataW.Trod enc Tryz.prog W' 0 sp true 27 v d ps :=
 WideElems.Trod_stays Y4 (by kernel_rfl) (of_decide_eq_true (by kernel_rfl)) h (fun x hx=>hb.same (hlt x hx)) hs
theorem qkq {H:Type}{enc:TypeId×Value->H}{W W':World}{v:Value}{d:DataW H}{ps:List MemPlace}{sp:Nat->Bool}(h:DataW.Trod enc Tryz.prog W 0 (fun _=>true) true 30 v d ps)(hb:Go.RowKit.Below W.heap.size W W')(hlt:∀ x∈ps,x.block<W.heap.size)(hs:∀ p∈ps,sp p.block=true) :
 DataW.Trod enc Tryz.prog W' 0 sp true 30 v d ps :=
 WideElems.Trod_stays Y4 (by kernel_rfl) (of_decide_eq_true (by kernel_rfl)) h (fun x hx=>hb.same (hlt x hx)) hs
theorem qo2 (os:Os)(started:os.Started)(H:Type)(enc:TypeId×Value->H) :
 ReturnsInHanded {} Tryz.checked os 3 .any (fun w args=>(Rows.cyclicAllSpec.pre enc Tryz.prog Tryz.f3 [] false w args/\laidMetH Tryz.prog qfX w)/\sizedMet enc Tryz.prog Tryz.f3 (OpenSpec.ofChange Rows.cyclicAllSpec) false w args)
  (Rows.cyclicAllSpec.post enc Tryz.prog Tryz.f3 false true false false):=by
 refine returnsInHanded_of_change_and (C:=Tryz.checked) (X:=fun w _=>laidMetH Tryz.prog qfX w) (fun _ _ _ hh h=>h.of_heap hh) qoF started (by kernel_rfl) Tryz.func3
  (ChangeSpec.witness_shaped (enc:=enc) (C:=Tryz.checked) (os:=os) (X:=fun w _=>laidMetH Tryz.prog qfX w) false (World.doorLaid Tryz.prog 400 os) #[.agg #[.slice none 0 0,.slice none 0 0,.slice none 0 0,.slice none 0 0,.slice none 0 0],.agg #[.int .u64 0,.int .u64 0]] 8 rfl (World.shaped_of_RefB (by kernel_rfl) (by kernel_rfl)) (by kernel_rfl) (by kernel_rfl) (by kernel_rfl) (qma os _)) ?_
 intro W base args ds gs before hval0 hW _ hWt hL _;have hval:∀ (j:Nat) t v,Tryz.f3.params[j]?=some t->args[j]?=some v->Value.okWide Tryz.prog W .any base t v:=hval0;have hwt:(DataW.weightsEach Tryz.prog (Tryz.f3.params.toList++Rows.cyclicAllSpec.plain.varTypes Tryz.prog) (ds++gs)).all (·<=reachBytes)=true:=hWt;have hW':=hW;obtain⟨p,q,hA0,hV,rfl,hfz,hnd⟩:=hW;have hA:DataW.TrodAll enc Tryz.prog W 0 (fun _=>true) true Tryz.f3.params.toList args.toList ds p:=hA0;rw[Tryz.params3]at hA hval hwt;obtain⟨v0,v1,d0,d1,p0,p1,rfl,rfl,rfl,h0,h1⟩:=trodAll_two hA;obtain⟨rfl,rfl⟩:=trodVars_none hV;have hv0:=hval 0 27 v0 rfl rfl;unfold Value.okWide at hv0;rw[Tryz.underlying27]at hv0;obtain⟨cs0,rfl,_,_⟩:=hv0;have h0':=h0;obtain⟨fuel0,hf0⟩:=h0;have hw0:∀ k∈d0.weights Tryz.prog 27,k<=reachBytes:=fun k hk=>of_decide_eq_true (qqi.1 hwt k (DataW.weights_mem_each (j:=0) (t:=27) rfl rfl k hk))
 obtain⟨x0,hrel0,hg0⟩:=rdP hf0 hw0;have hv1:=hval 1 30 v1 rfl rfl;unfold Value.okWide at hv1;rw[Tryz.underlying30]at hv1;obtain⟨cs1,rfl,_,_⟩:=hv1;have h1':=h1;obtain⟨fuel1,hf1⟩:=h1;obtain⟨x1,hrel1,hg1⟩:=rdR hf1;have hpure:=all5 x0 x1 hg0;have hargs:qh (KMw W) [.agg (qJ x0),.agg (yh x1)] (#[Value.agg cs0,Value.agg cs1]:Array Value).toList:=by
  simp only[qh];have g0:qf (KMw W) (.agg (qJ x0)) (Value.agg cs0):=by
   unfold qf;exact⟨cs0,rfl,hrel0⟩
  have g1:qf (KMw W) (.agg (yh x1)) (Value.agg cs1):=by
   unfold qf;exact⟨cs1,rfl,hrel1⟩
  exact⟨_,_,rfl,g0,_,_,rfl,g1,rfl⟩
 refine (hpure.2 W (qct W) #[Value.agg cs0,Value.agg cs1] (qiC hL) (fun _ _ _ e=>e) hargs).mono ?_;rintro e W' ⟨v,ro',rfl,hb,_,_,_,hv⟩;have hv1:v=.bool true:=by simpa only[qf] using hv
 subst hv1;have hW2:=hW';simp only[qqP]at hW2;have hlt:=fun x hx=>hW2.lt x hx
 refine⟨_,rfl,[d0,d1],[],p0++p1,[],p0++p1,[],hW2,?_,?_,?_,hb.frame _,fun h=>by cases h⟩
 . exact trodAll_mk1 (shut_bool Tryz.underlying4 true)
 . exact trodAll_mk2 (qkr h0' hb (fun x hx=>hlt x (qqH _ hx)) (fun x hx=>by simpa using hlt x (qqH _ hx))) (qkq h1' hb (fun x hx=>hlt x (qq6 _ hx)) (fun x hx=>by simpa using hlt x (qq6 _ hx)))
 . rfl
end Go.Proofs.YtoibbcnfhhggnaaGreatDoor
end
