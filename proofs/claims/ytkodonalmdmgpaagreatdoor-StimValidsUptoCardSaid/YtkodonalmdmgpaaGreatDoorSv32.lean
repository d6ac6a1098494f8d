import Derived.Test.YtkodonalmdmgpaaGreatDoorSv30
import Derived.Test.YtkodonalmdmgpaaGreatDoorSv31
set_option maxRecDepth 100000
set_option linter.all false
set_option linter.defProp false
section
namespace Go.Proofs.YtkodonalmdmgpaaGreatDoor
open Go Go.Abs
theorem check19:∀ (s:Sti),HoldT s→∀ (lev:Nat) (k:Int),lev≤9→0≤k→k≤200→Pure Tryz.prog GG 19 [.agg (encT s),I_ lev,I_ k] (.tup [I_ (chkT s lev k).1,I_ (chkT s lev k).2]):=by
 refine Sti.ind fun s ih hh lev k hlev hk0 hk=>?_
 refine Pure.k mixed Tryz.func19 rfl (by kernel_rfl) ?_
 have hn:=shape26 s hh.self
 have hl:=hh.self.subs
 have hr:=chkT_eq s lev k
 generalize chkT s lev k=q at hr
 have hkw:IntKind.i64.wrap (k+1)=k+1:=wr (by omega) (by omega)
 have hlw:IntKind.i64.wrap ((lev:Int)+1)=(lev+1:Nat):=by rw [wr (by omega) (by omega)];omega
 simp only [encT_eq s] at hn ⊢
 simp [-getElem?_pos,hkw]
 refine kCall.call hn (by simp) ?_
 by_cases h0:nodeT s=0
 · rw [if_neg (fun h=>h h0)] at hr
   by_cases h8:8<lev
   · have h8':(8:Int)<lev:=by omega
     rw [if_pos (.inl h8)] at hr
     subst hr
     simp [-getElem?_pos,h0,h8']
   have h8':¬ (8:Int)<lev:=by omega
   by_cases h2:200<k+1
   · rw [if_pos (.inr h2)] at hr
     subst hr
     simp [-getElem?_pos,h0,h8',h2]
   rw [if_neg (fun h=>by omega)] at hr
   simp [-getElem?_pos,h0,h8',h2]
   refine kLoop.listR s.subs (fun d ev σ=>ev 1=I_ lev∧ev 3=.ptr 0 0∧ev 9=I_ d.length∧(∃ t,σ=⟨.cells (encT s)::t,[]⟩)∧∃ k',ev 2=I_ k'∧chkL d (lev+1) (k+1)=(k',0)∧0≤k'∧k'≤200) ?_ ?_ ?_
   · exact⟨by simp,by simp,by simp,⟨[],by simp [encT_eq s]⟩,k+1,by simp,chkL_nil _ _,by omega,by omega⟩
   · rintro d v r ev σ R hR hd hv hlt ⟨h1,h3,h9,⟨t,rfl⟩,k',h2',hck,hk1,hk2⟩
     have hm:=List.mem_of_getElem? hv
     have hdw:IntKind.i64.wrap ((d.length:Int)+1)=(d.length+1:Nat):=by rw [wr (by omega) (by omega)];omega
     have hi:=ih v hm (hh.sub hm) (lev+1) k' (by omega) hk1 hk2
     have hb:=chk_bd v (lev+1) k' hk1 hk2
     have hck0:(chkL d (lev+1) (k+1)).2=0:=by rw [hck]
     have happ:=chkL_app (lev:=lev+1) (r:=v::r) d (k+1) hck0
     rw [← hd,hck,chkL_cons] at happ
     have hone:=chkL_app (lev:=lev+1) (r:=[v]) d (k+1) hck0
     rw [hck,chkL_one] at hone
     obtain⟨⟨k2,e2⟩,hp⟩:∃ p,chkT v (lev+1) k'=p:=⟨_,rfl⟩
     rw [hp] at hi hb happ hone
     simp only [encT_eq v] at hi
     simp [-getElem?_pos,-Int.natCast_add,h1,h2',h3,h9,encT_eq s,hlt,hv,hlw,encT_eq v]
     refine kCall.call hi (by simp) ?_
     by_cases hx:e2=0
     · subst hx
       simp [-getElem?_pos,-Int.natCast_add,h9,hdw]
       exact hR _ _ ⟨by simp [h1],by simp [h3],by simp,⟨t,by simp [encT_eq s]⟩,k2,by simp,hone,hb.1,hb.2.2 rfl⟩
     · rw [if_neg hx] at happ
       rw [happ] at hr
       subst hr
       simp [-getElem?_pos,hx]
   · rintro ev σ ⟨h1,h3,h9,⟨t,rfl⟩,k',h2',hck,hk1,hk2⟩
     rw [hck] at hr
     subst hr
     simp [-getElem?_pos,h2',h3,h9,encT_eq s]
 · rw [if_pos h0] at hr
   subst hr
   simp [-getElem?_pos,h0]
theorem length20:∀ (s:Sti),HoldT s→SmT s→Pure Tryz.prog GG 20 [.agg (encT s)] (I_ (lenT s)):=by
 refine Sti.ind fun s ih hh hs=>?_
 refine Pure.k mixed Tryz.func20 rfl (by kernel_rfl) ?_
 have hl:=hh.self.subs
 have hn:=hs s (by rw [preT_eq];simp)
 have hr:=lenT_eq s
 have hbd:=fun a (ha:a∈s.subs)=>lenT_bd a (hs.sub ha)
 have hsb:=sumT_bd fun a ha=>(hbd a ha).1
 simp only [encT_eq s]
 simp [-getElem?_pos]
 refine kLoop.listR s.subs (fun d ev σ=>ev 1=.ptr 0 0∧ev 3=I_ (sumT d)∧ev 4=I_ (mostT d)∧ev 5=I_ d.length∧∃ t,σ=⟨.cells (encT s)::t,[]⟩) ?_ ?_ ?_
 · exact⟨by simp,by simp [sumT],by simp [mostT],by simp,[],by simp [encT_eq s]⟩
 · rintro d v r ev σ R hR hd hv hlt ⟨h1,h3,h4,h5,t,rfl⟩
   have hm:=List.mem_of_getElem? hv
   have hdw:IntKind.i64.wrap ((d.length:Int)+1)=(d.length+1:Nat):=by rw [wr (by omega) (by omega)];omega
   have hdm:∀ a∈d,a∈s.subs:=fun a ha=>by rw [hd];exact List.mem_append_left _ ha
   have hsd:=sumT_bd fun a ha=>(hbd a (hdm a ha)).1
   have hvb:=hbd v hm
   have e1:=sumT_snoc (d:=d) (fun a ha=>(hbd a (hdm a ha)).1) hvb.1
   have e2:=mostT_snoc (d:=d) hvb.1
   have hw:IntKind.i64.wrap (sumT d+lenT v)=sumT d+lenT v:=wr (by omega) (by omega)
   have hc:=ih v hm (hh.sub hm) (hs.sub hm)
   simp [-getElem?_pos,h1,h3,h4,h5,hlt,hv,encT_eq s,encT_eq v]
   simp only [encT_eq v] at hc
   refine kCall.call hc (by simp) ?_
   generalize lenT v=q at *
   have a1:min2A (.int .i64 1025) (.int .i64 (sumT d+q))=some (.int .i64 (sumT (d++[v]))):=by rw [min2,← e1];congr 2;omega
   have a2:max2A (.int .i64 (mostT d)) (.int .i64 q)=some (.int .i64 (mostT (d++[v]))):=by rw [max2,e2]
   simp [-getElem?_pos,h3,h4,h5,hw,a1,a2,hdw]
   exact hR _ _ ⟨by simp [h1],by simp,by simp,by simp,t,by simp [encT_eq s]⟩
 · rintro ev σ ⟨h1,h3,h4,h5,t,rfl⟩
   have hm0:0≤s.n*sumT s.subs:=Int.mul_nonneg hn.1 hsb.1
   have hm1:s.n*sumT s.subs≤64*1025:=Int.mul_le_mul hn.2 hsb.2 hsb.1 (by omega)
   have hmw:IntKind.i64.wrap (s.n*sumT s.subs)=s.n*sumT s.subs:=wr (by omega) (by omega)
   have a3:=min2 1025 (s.n*sumT s.subs)
   rw [show min 1025 (s.n*sumT s.subs)=min (s.n*sumT s.subs) 1025 by omega] at a3
   simp [-getElem?_pos,h1,h3,h4,h5,encT_eq s,hmw,a3]
   generalize lenT s=r at *
   generalize min (s.n*sumT s.subs) 1025=q at *
   clear hm0 hm1 hmw a3 ih hh hs hbd hsb h1 h3 h4 h5 hn hl
   grind
theorem valid8 (s:Sti) (h:HoldT s):Pure Tryz.prog GG 8 [.agg (encT s)] (I_ (validT s)):=by
 refine Pure.k mixed Tryz.func8 rfl (by kernel_rfl) ?_
 have hr:validT s=if (chkT s 1 0).2≠0 then (chkT s 1 0).2 else if 1024<lenT s then 2 else 0:=rfl
 have he:=check19 s h 1 0 (by omega) (by omega) (by omega)
 have hl:=length20 s h
 generalize validT s=r at hr
 have hsm:(chkT s 1 0).2=0→SmT s:=chk_sm
 obtain⟨⟨k,q⟩,hp⟩:∃ p,chkT s 1 0=p:=⟨_,rfl⟩
 rw [hp] at he hr hsm
 simp only [encT_eq s] at he hl ⊢
 simp [-getElem?_pos]
 refine kCall.call he (by simp) ?_
 by_cases h0:q=0
 · have hl:=hl (hsm h0)
   subst h0
   simp at hr
   simp [-getElem?_pos]
   refine kCall.call hl (by simp) ?_
   by_cases h1:1024<lenT s
   · rw [if_pos h1] at hr;subst hr;simp [-getElem?_pos,h1]
   · rw [if_neg h1] at hr;subst hr;simp [-getElem?_pos,h1]
 · rw [if_pos h0] at hr
   subst hr
   simp [-getElem?_pos,h0]
theorem size10 (s:Sti) (h:HoldT s):Pure Tryz.prog GG 10 [.agg (encT s)] (I_ (if validT s=0 then (preT s).length else 0)):=by
 refine Pure.k mixed Tryz.func10 rfl (by kernel_rfl) ?_
 have hv:=valid8 s h
 have hs:=check19 s h 1 0 (by omega) (by omega) (by omega)
 have hk:validT s=0→(chkT s 1 0).1=(preT s).length:=fun e=>by have:=(chk_ok s 1 0 (valid_sm e)).1;omega
 generalize validT s=r at *
 simp only [encT_eq s] at hv hs ⊢
 simp [-getElem?_pos]
 refine kCall.call hv (by simp) ?_
 by_cases h0:r=0
 · have hk:=hk h0
   subst h0
   simp [-getElem?_pos]
   refine kCall.call hs (by simp) ?_
   simp [-getElem?_pos,hk]
 · simp [-getElem?_pos,h0]
theorem length12 (s:Sti) (h:HoldT s):Pure Tryz.prog GG 12 [.agg (encT s)] (I_ (if validT s=0 then lenT s else 0)):=by
 refine Pure.k mixed Tryz.func12 rfl (by kernel_rfl) ?_
 have hv:=valid8 s h
 have hs:=fun e:validT s=0=>length20 s h (chk_sm (valid_sm e))
 generalize validT s=r at *
 simp only [encT_eq s] at hv hs ⊢
 simp [-getElem?_pos]
 refine kCall.call hv (by simp) ?_
 by_cases h0:r=0
 · have hs2:=hs h0
   subst h0
   simp [-getElem?_pos]
   refine kCall.call hs2 (by simp) ?_
   simp [-getElem?_pos]
 · simp [-getElem?_pos,h0]
end Go.Proofs.YtkodonalmdmgpaaGreatDoor
end
