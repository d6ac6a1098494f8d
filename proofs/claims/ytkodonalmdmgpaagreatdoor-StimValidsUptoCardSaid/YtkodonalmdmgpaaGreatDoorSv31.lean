import Derived.Test.YtkodonalmdmgpaaGreatDoorSv26
set_option maxRecDepth 100000
set_option linter.all false
set_option linter.defProp false
section
namespace Go.Proofs.YtkodonalmdmgpaaGreatDoor
open Go Go.Abs
theorem examine17 (s:Sti) (h:HoldT s):Pure Tryz.prog GG 17 [.agg (encT s)] (I_ (chkT s 1 0).2):=by
 refine Pure.k mixed Tryz.func17 rfl (by kernel_rfl) ?_
 have he:=exam24 (encT s) s h 1 0 [] (by omega) (by omega) (by omega)
 simp only [seenH,encT_eq s,List.cons_append,List.nil_append] at he
 simp only [encT_eq s]
 simp [-getElem?_pos]
 refine kCall.acall he ?_
 rintro w σ2 ⟨rfl,k2,t2,rfl,hk⟩
 simp [-getElem?_pos]
theorem min2 (a b:Int):min2A (.int .i64 a) (.int .i64 b)=some (.int .i64 (min a b)):=by
 simp only [min2A]
 congr 2
 split<;>omega
theorem max2 (a b:Int):max2A (.int .i64 a) (.int .i64 b)=some (.int .i64 (max a b)):=by
 simp only [max2A]
 congr 2
 split<;>omega
theorem sumT_snoc {v:Sti}:∀ {d:List Sti},(∀ a∈d,0≤lenT a)→0≤lenT v→min (sumT d+lenT v) 1025=sumT (d++[v])
 | [],_,h=>by simp only [sumT,List.nil_append];omega
 | x::d,h,hv=>by
  have:=sumT_snoc (v:=v) (d:=d) (fun a ha=>h a (List.mem_cons_of_mem _ ha)) hv
  have:=h x List.mem_cons_self
  simp only [sumT,List.cons_append] at *
  omega
theorem mostT_snoc {v:Sti}:∀ {d:List Sti},0≤lenT v→max (mostT d) (lenT v)=mostT (d++[v])
 | [],h=>by simp only [mostT,List.nil_append];omega
 | x::d,hv=>by
  have:=mostT_snoc (v:=v) (d:=d) hv
  simp only [mostT,List.cons_append] at *
  omega
theorem sumT_bd:∀ {l:List Sti},(∀ a∈l,0≤lenT a)→0≤sumT l∧sumT l≤1025
 | [],_=>by simp [sumT]
 | x::r,h=>by
  have:=sumT_bd (l:=r) fun a ha=>h a (List.mem_cons_of_mem _ ha)
  have:=h x List.mem_cons_self
  simp only [sumT]
  omega
theorem length18:∀ (s:Sti),HoldT s→SmT s→Pure Tryz.prog GG 18 [.agg (encT s)] (I_ (lenT s)):=by
 refine Sti.ind fun s ih hh hs=>?_
 refine Pure.k mixed Tryz.func18 rfl (by kernel_rfl) ?_
 have hl:=hh.self.subs
 have hn:=hs s (by rw [preT_eq];simp)
 have hr:=lenT_eq s
 have hbd:=fun a (ha:a∈s.subs)=>lenT_bd a (hs.sub ha)
 have hsb:=sumT_bd fun a ha=>(hbd a ha).1
 simp only [encT_eq s]
 simp [-getElem?_pos]
 refine kLoop.listR s.subs (fun d ev σ=>ev 1=.ptr 0 0∧ev 3=I_ (sumT d)∧ev 4=I_ (mostT d)∧ev 9=.sl 5 (s.subs.map encT) .none∧ev 10=I_ s.subs.length∧ev 11=I_ d.length∧∃ t,σ=⟨.cells (encT s)::t,[]⟩) ?_ ?_ ?_
 · exact⟨by simp,by simp [sumT],by simp [mostT],by simp,by simp,by simp,[],by simp [encT_eq s]⟩
 · rintro d v r ev σ R hR hd hv hlt ⟨h1,h3,h4,h9,h10,h11,t,rfl⟩
   have hm:=List.mem_of_getElem? hv
   have hdw:IntKind.i64.wrap ((d.length:Int)+1)=(d.length+1:Nat):=by rw [wr (by omega) (by omega)];omega
   have hdm:∀ a∈d,a∈s.subs:=fun a ha=>by rw [hd];exact List.mem_append_left _ ha
   have hsd:=sumT_bd fun a ha=>(hbd a (hdm a ha)).1
   have hvb:=hbd v hm
   have e1:=sumT_snoc (d:=d) (fun a ha=>(hbd a (hdm a ha)).1) hvb.1
   have e2:=mostT_snoc (d:=d) hvb.1
   have hw:IntKind.i64.wrap (sumT d+lenT v)=sumT d+lenT v:=wr (by omega) (by omega)
   have hc:=ih v hm (hh.sub hm) (hs.sub hm)
   simp [-getElem?_pos,h1,h3,h4,h9,h10,h11,hlt,hv,encT_eq v]
   simp only [encT_eq v] at hc
   refine kCall.call hc (by simp) ?_
   generalize lenT v=q at *
   have a1:min2A (.int .i64 (sumT d+q)) (.int .i64 1025)=some (.int .i64 (sumT (d++[v]))):=by rw [min2,e1]
   have a2:max2A (.int .i64 (mostT d)) (.int .i64 q)=some (.int .i64 (mostT (d++[v]))):=by rw [max2,e2]
   simp [-getElem?_pos,h3,h4,h9,h10,h11,hw,a1,a2,hdw]
   exact hR _ _ ⟨by simp [h1],by simp,by simp,by simp [h9],by simp [h10],by simp,_,rfl⟩
 · rintro ev σ ⟨h1,h3,h4,h9,h10,h11,t,rfl⟩
   have hm0:0≤s.n*sumT s.subs:=Int.mul_nonneg hn.1 hsb.1
   have hm1:s.n*sumT s.subs≤64*1025:=Int.mul_le_mul hn.2 hsb.2 hsb.1 (by omega)
   have hmw:IntKind.i64.wrap (s.n*sumT s.subs)=s.n*sumT s.subs:=wr (by omega) (by omega)
   have a3:=min2 (s.n*sumT s.subs) 1025
   simp [-getElem?_pos,h1,h3,h4,h10,h11,encT_eq s,hmw,a3]
   generalize lenT s=r at *
   generalize min (s.n*sumT s.subs) 1025=q at *
   clear hm0 hm1 hmw a3 ih hh hs hbd hsb h1 h3 h4 h9 h10 h11 hn hl
   grind
theorem preTL_len {l:List Sti} {x:Sti} (h:x∈l):(preT x).length≤(preTL l).length:=by
 induction l with
 | nil=>cases h
 | cons a r ih=>
  simp only [preTL,List.length_append]
  rcases List.mem_cons.1 h with rfl|h
  · omega
  · have:=ih h;omega
theorem size21:∀ (s:Sti),HoldT s→(preT s).length≤2000000→Pure Tryz.prog GG 21 [.agg (encT s)] (I_ (preT s).length):=by
 refine Sti.ind fun s ih hh hs=>?_
 refine Pure.k mixed Tryz.func21 rfl (by kernel_rfl) ?_
 have hl:=hh.self.subs
 have hr:(preT s).length=1+(preTL s.subs).length:=by rw [preT_eq];simp;omega
 rw [hr] at hs ⊢
 simp only [encT_eq s]
 simp [-getElem?_pos]
 refine kLoop.listR s.subs (fun d ev σ=>ev 3=I_ (1+(preTL d).length:Nat)∧ev 7=.sl 5 (s.subs.map encT) .none∧ev 8=I_ s.subs.length∧ev 9=I_ d.length∧∃ t,σ=⟨t,[]⟩) ?_ ?_ ?_
 · exact⟨by simp [preTL],by simp,by simp,by simp,_,rfl⟩
 · rintro d v r ev σ R hR hd hv hlt ⟨h3,h6,h7,h8,t,rfl⟩
   have hm:=List.mem_of_getElem? hv
   have hdw:IntKind.i64.wrap ((d.length:Int)+1)=(d.length+1:Nat):=by rw [wr (by omega) (by omega)];omega
   have hle:=preTL_len hm
   have hc:=ih v hm (hh.sub hm) (by omega)
   have hp:(preTL s.subs).length=(preTL d).length+((preT v).length+(preTL r).length):=by rw [hd,preTL_app];simp [preTL]
   have hp2:(preTL (d++[v])).length=(preTL d).length+(preT v).length:=by rw [preTL_app];simp [preTL]
   have hw:IntKind.i64.wrap (((1+(preTL d).length:Nat):Int)+(preT v).length)=(1+(preTL (d++[v])).length:Nat):=by rw [wr (by omega) (by omega),hp2];omega
   simp only [encT_eq v] at hc
   simp [-getElem?_pos,-Int.natCast_add,h3,h6,h7,h8,hlt,hv,encT_eq v]
   refine kCall.call hc (by simp) ?_
   simp [-getElem?_pos,-Int.natCast_add,h6,h7,h8,hw,hdw]
   exact hR _ _ ⟨by simp,by simp [h6],by simp [h7],by simp,_,rfl⟩
 · rintro ev σ ⟨h3,h6,h7,h8,t,rfl⟩
   simp [-getElem?_pos,h3,h7,h8]
theorem valid7 (s:Sti) (h:HoldT s):Pure Tryz.prog GG 7 [.agg (encT s)] (I_ (validT s)):=by
 refine Pure.k mixed Tryz.func7 rfl (by kernel_rfl) ?_
 have hr:validT s=if (chkT s 1 0).2≠0 then (chkT s 1 0).2 else if 1024<lenT s then 2 else 0:=rfl
 have he:=examine17 s h
 have hl:=length18 s h
 generalize validT s=r at hr
 have hsm:(chkT s 1 0).2=0→SmT s:=chk_sm
 generalize (chkT s 1 0).2=q at *
 simp only [encT_eq s] at he hl ⊢
 simp [-getElem?_pos]
 refine kCall.call he (by simp) ?_
 by_cases h0:q=0
 · have hl:=hl (hsm h0)
   subst h0
   simp at hr
   simp [-getElem?_pos]
   refine kCall.call hl (by simp) ?_
   by_cases h1:1024<lenT s
   · rw [if_pos h1] at hr;subst hr;simp [-getElem?_pos,h1]
   · rw [if_neg h1] at hr;subst hr;simp [-getElem?_pos,h1]
 · rw [if_pos h0] at hr
   subst hr
   simp [-getElem?_pos,h0]
theorem size9 (s:Sti) (h:HoldT s) (hn:(preT s).length≤2000000):Pure Tryz.prog GG 9 [.agg (encT s)] (I_ (if validT s=0 then (preT s).length else 0)):=by
 refine Pure.k mixed Tryz.func9 rfl (by kernel_rfl) ?_
 have hv:=valid7 s h
 have hs:=size21 s h hn
 generalize validT s=r at *
 simp only [encT_eq s] at hv hs ⊢
 simp [-getElem?_pos]
 refine kCall.call hv (by simp) ?_
 by_cases h0:r=0
 · subst h0
   simp [-getElem?_pos]
   refine kCall.call hs (by simp) ?_
   simp [-getElem?_pos]
 · simp [-getElem?_pos,h0]
theorem valid_sm {s:Sti} (h:validT s=0):(chkT s 1 0).2=0:=by
 unfold validT at h
 split at h
 · rename_i h1;exact absurd h h1
 · rename_i h1;exact Classical.not_not.1 h1
theorem length11 (s:Sti) (h:HoldT s):Pure Tryz.prog GG 11 [.agg (encT s)] (I_ (if validT s=0 then lenT s else 0)):=by
 refine Pure.k mixed Tryz.func11 rfl (by kernel_rfl) ?_
 have hv:=valid7 s h
 have hs:=fun e:validT s=0=>length18 s h (chk_sm (valid_sm e))
 generalize validT s=r at *
 simp only [encT_eq s] at hv hs ⊢
 simp [-getElem?_pos]
 refine kCall.call hv (by simp) ?_
 by_cases h0:r=0
 · have hs2:=hs h0
   subst h0
   simp [-getElem?_pos]
   refine kCall.call hs2 (by simp) ?_
   simp [-getElem?_pos]
 · simp [-getElem?_pos,h0]
end Go.Proofs.YtkodonalmdmgpaaGreatDoor
end
