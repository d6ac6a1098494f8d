import Derived.Test.YtkodonalmdmgpaaGreatDoorSv26
import Derived.Test.YtkodonalmdmgpaaGreatDoorSv33
set_option maxRecDepth 100000
set_option linter.all false
set_option linter.defProp false
section
namespace Go.Proofs.YtkodonalmdmgpaaGreatDoor
open Go Go.Abs
mutual
def ndT:Sti→Nat→Int
 | .mk o n c i l,d=>ndL l d 1
def ndL:List Sti→Nat→Int→Int
 | [],_,n=>n
 | x::r,d,n=>if n<60∧d<20 then ndL r d (n+ndT x (d+1)) else n
end
theorem ndT_eq (s:Sti) (d:Nat):ndT s d=ndL s.subs d 1:=by cases s;simp only [ndT];rfl
theorem ndL_nil (d:Nat) (n:Int):ndL [] d n=n:=by simp [ndL]
theorem ndL_cons (x:Sti) (r:List Sti) (d:Nat) (n:Int):ndL (x::r) d n=if n<60∧d<20 then ndL r d (n+ndT x (d+1)) else n:=by simp only [ndL]
theorem ndT_bd:∀ (s:Sti) (d:Nat),d≤20→1≤ndT s d∧ndT s d≤60+60*(20-(d:Int)):=by
 refine Sti.ind fun s ih d hd=>?_
 rw [ndT_eq]
 have hl:∀ (l:List Sti) (n:Int),(∀ a∈l,∀ (d:Nat),d≤20→1≤ndT a d∧ndT a d≤60+60*(20-(d:Int)))→1≤n→n≤60+60*(20-(d:Int))→1≤ndL l d n∧ndL l d n≤60+60*(20-(d:Int)):=by
  intro l
  induction l with
  | nil=>intro n _ h1 h2;rw [ndL_nil];exact⟨h1,h2⟩
  | cons x r ih2=>
   intro n h h1 h2
   rw [ndL_cons]
   split
   · rename_i hc
     have:=h x List.mem_cons_self (d+1) (by omega)
     exact ih2 _ (fun a ha=>h a (List.mem_cons_of_mem _ ha)) (by omega) (by omega)
   · exact⟨h1,h2⟩
 exact hl s.subs 1 ih (by omega) (by omega)
set_option maxHeartbeats 1000000 in
/-- The law's count of nodes. -/
theorem nodes4:∀ (s:Sti),HoldT s→∀ (d:Nat),d≤20→Pure Tryz.prog GG 4 [.agg (encT s),I_ d] (I_ (ndT s d)):=by
 refine Sti.ind fun s ih hh d hd=>?_
 refine Pure.k mixed Tryz.func4 rfl (by kernel_rfl) ?_
 have hl:=hh.self.subs
 have hdw:IntKind.i64.wrap ((d:Int)+1)=(d+1:Nat):=by rw [wr (by omega) (by omega)];omega
 have hr:=ndT_eq s d
 generalize ndT s d=q at hr
 simp only [encT_eq s]
 simp [-getElem?_pos]
 refine kLoop.gen (fun m ev σ=>∃ i n,i≤s.subs.length∧m=s.subs.length-i∧ev 1=I_ d∧ev 2=.ptr 0 0∧ev 5=I_ n∧ev 6=I_ i∧σ=⟨[.cells (encT s)],[]⟩∧q=ndL (s.subs.drop i) d n∧1≤n∧n≤60+60*(20-(d:Int))) s.subs.length ?_ ?_
 · exact⟨0,1,by omega,by omega,by simp,by simp,by simp,by simp,by simp [encT_eq s],by simpa using hr,by omega,by omega⟩
 · rintro m ev σ R hR ⟨i,n,hi,rfl,h1,h2,h5,h6,rfl,hq,hn1,hn2⟩
   cases hv:s.subs[i]? with
   | none=>
    have hc:¬ i<s.subs.length:=by simp at hv;omega
    have hd0:s.subs.drop i=[]:=by simp;omega
    rw [hd0,ndL_nil] at hq
    rw [hq]
    simp [-getElem?_pos,h1,h2,h5,h6,encT_eq s,hc]
   | some v=>
    obtain⟨hc,_⟩:=List.getElem?_eq_some_iff.1 hv
    have hm:=List.mem_of_getElem? hv
    have hiw:IntKind.i64.wrap ((i:Int)+1)=(i+1:Nat):=by rw [wr (by omega) (by omega)];omega
    rw [drop_cons hv,ndL_cons] at hq
    by_cases c1:n<60
    · by_cases c2:d<20
      · have c2':(d:Int)<20:=by omega
        rw [if_pos ⟨c1,c2⟩] at hq
        have hb:=ndT_bd v (d+1) (by omega)
        have hcl:=ih v hm (hh.sub hm) (d+1) (by omega)
        have hw:IntKind.i64.wrap (n+ndT v (d+1))=n+ndT v (d+1):=wr (by omega) (by omega)
        simp only [encT_eq v] at hcl
        simp [-getElem?_pos,-Int.natCast_add,h1,h2,h5,h6,encT_eq s,hc,hv,c1,c2',hdw,encT_eq v]
        refine kCall.call hcl (by simp) ?_
        simp [-getElem?_pos,-Int.natCast_add,h1,h2,h5,h6,hw,hiw]
        exact hR _ _ _ (by omega) ⟨i+1,n+ndT v (d+1),by omega,rfl,by simp [h1],by simp [h2],by simp,by simp,by simp [encT_eq s],hq,by omega,by omega⟩
      · have c2':¬ (d:Int)<20:=by omega
        rw [if_neg (fun h=>c2 h.2)] at hq
        rw [hq]
        simp [-getElem?_pos,h1,h2,h5,h6,encT_eq s,hc,c1,c2']
    · rw [if_neg (fun h=>c1 h.1)] at hq
      rw [hq]
      simp [-getElem?_pos,h1,h2,h5,h6,encT_eq s,hc,c1]
def okI (x:It):Bool:=briefS x.expr 0&&(decide (x.items.length≤4)&&(decide (x.els.length≤4)&&decide (x.ws.length≤20)))
mutual
def brT:Sti→Nat→Bool
 | .mk o n c i l,d=>if 6<i.length∨12<d then false else if i.all okI=true then brL l (d+1) else false
def brL:List Sti→Nat→Bool
 | [],_=>true
 | x::r,d=>brT x d&&brL r d
end
theorem brT_eq (s:Sti) (d:Nat):brT s d=if 6<s.items.length∨12<d then false else if s.items.all okI=true then s.subs.all (fun x=>brT x (d+1)) else false:=by
 have hl:∀ (l:List Sti) (d:Nat),brL l d=l.all fun x=>brT x d:=by
  intro l
  induction l with
  | nil=>intro d;simp [brL]
  | cons x r ih=>intro d;simp [brL,ih]
 cases s;simp only [brT,hl];rfl
set_option maxHeartbeats 1000000 in
theorem brief5:∀ (s:Sti),HoldT s→∀ (d:Nat),d≤13→Pure Tryz.prog GG 5 [.agg (encT s),I_ d] (.bool (brT s d)):=by
 refine Sti.ind fun s ih hh d hd=>?_
 refine Pure.k mixed Tryz.func5 rfl (by kernel_rfl) ?_
 have hl:=hh.self.subs
 have hi:=hh.self.items
 have hdw:IntKind.i64.wrap ((d:Int)+1)=(d+1:Nat):=by rw [wr (by omega) (by omega)];omega
 have hr:=brT_eq s d
 generalize brT s d=q at hr
 simp only [encT_eq s]
 by_cases c1:6<s.items.length
 · have c1':(6:Int)<s.items.length:=by omega
   rw [if_pos (.inl c1)] at hr
   subst hr
   simp [-getElem?_pos,c1']
 have c1':¬ (6:Int)<s.items.length:=by omega
 by_cases c2:12<d
 · have c2':(12:Int)<d:=by omega
   rw [if_pos (.inr c2)] at hr
   subst hr
   simp [-getElem?_pos,c1',c2']
 have c2':¬ (12:Int)<d:=by omega
 rw [if_neg (by omega)] at hr
 simp [-getElem?_pos,c1',c2']
 refine kLoop.listR s.items (fun e ev σ=>ev 1=I_ d∧ev 2=.ptr 0 0∧ev 5=I_ e.length∧(∃ t,σ=⟨.cells (encT s)::t,[]⟩)∧∀ x∈e,okI x=true) ?_ ?_ ?_
 · exact⟨by simp,by simp,by simp,⟨[],by simp [encT_eq s]⟩,by simp⟩
 · rintro e x r ev σ R hR he hx hlt ⟨h1,h2,h5,⟨t,rfl⟩,hz⟩
   have hxm:=List.mem_of_getElem? hx
   have hew:IntKind.i64.wrap ((e.length:Int)+1)=(e.length+1:Nat):=by rw [wr (by omega) (by omega)];omega
   have hb:=brief29 x.expr (hi.hold x (mem_preIL.2 ⟨x,hxm,by rw [preI_eq];simp⟩)).expr 0 (by omega)
   have hbad:okI x=false→q=false:=fun h=>by
    rw [hr,if_neg]
    intro ha
    rw [List.all_eq_true.1 ha x hxm] at h;cases h
   have ho:okI x=(briefS x.expr 0&&(decide (x.items.length≤4)&&(decide (x.els.length≤4)&&decide (x.ws.length≤20)))):=rfl
   simp only [encE_eq x.expr] at hb
   simp [-getElem?_pos,h1,h2,h5,encT_eq s,hlt,hx,encI_eq x,encE_eq x.expr]
   refine kCall.call hb (by simp) ?_
   cases hbs:briefS x.expr 0
   · rw [hbad (by rw [ho,hbs];rfl)]
     simp [-getElem?_pos]
   by_cases p1:(4:Int)<x.items.length
   · rw [hbad (by rw [ho];simp;intros;omega)]
     simp [-getElem?_pos,p1]
   by_cases p2:(4:Int)<x.els.length
   · rw [hbad (by rw [ho];simp;intros;omega)]
     simp [-getElem?_pos,p1,p2]
   by_cases p3:(20:Int)<x.ws.length
   · rw [hbad (by rw [ho];simp;intros;omega)]
     simp [-getElem?_pos,p1,p2,p3]
   have hk:okI x=true:=by rw [ho,hbs];simp;omega
   simp [-getElem?_pos,p1,p2,p3,h5,hew]
   exact hR _ _ ⟨by simp [h1],by simp [h2],by simp,⟨_,by simp [encT_eq s];rfl⟩,hz_snoc hz hk⟩
 · rintro ev σ ⟨h1,h2,h5,⟨t,rfl⟩,hz⟩
   rw [if_pos (List.all_eq_true.2 hz)] at hr
   simp [-getElem?_pos,h1,h2,h5,encT_eq s]
   refine kLoop.listR s.subs (fun e ev σ=>ev 1=I_ d∧ev 2=.ptr 0 0∧ev 7=I_ e.length∧(∃ t,σ=⟨.cells (encT s)::t,[]⟩)∧∀ x∈e,brT x (d+1)=true) ?_ ?_ ?_
   · exact⟨by simp [h1],by simp [h2],by simp,⟨t,by simp [encT_eq s]⟩,by simp⟩
   · clear h1 h2 h5 hz
     rintro e x r ev σ R hR he hx hlt ⟨h1,h2,h7,⟨t,rfl⟩,hz⟩
     have hxm:=List.mem_of_getElem? hx
     have hew:IntKind.i64.wrap ((e.length:Int)+1)=(e.length+1:Nat):=by rw [wr (by omega) (by omega)];omega
     have hb:=ih x hxm (hh.sub hxm) (d+1) (by omega)
     have hbad:brT x (d+1)=false→q=false:=fun h=>by
      rw [hr,Bool.eq_false_iff]
      intro ha
      have:=List.all_eq_true.1 ha x hxm
      rw [h] at this;cases this
     simp only [encT_eq x] at hb
     simp [-getElem?_pos,-Int.natCast_add,h1,h2,h7,encT_eq s,hlt,hx,hdw,encT_eq x]
     refine kCall.call hb (by simp) ?_
     cases hbs:brT x (d+1)
     · rw [hbad hbs]
       simp [-getElem?_pos]
     · simp [-getElem?_pos,-Int.natCast_add,h7,hew]
       exact hR _ _ ⟨by simp [h1],by simp [h2],by simp,⟨t,by simp [encT_eq s]⟩,hz_snoc hz hbs⟩
   · rintro ev σ ⟨h1,h2,h7,⟨t,rfl⟩,hz⟩
     rw [List.all_eq_true.2 hz] at hr
     subst hr
     simp [-getElem?_pos,h2,h7,encT_eq s]
end Go.Proofs.YtkodonalmdmgpaaGreatDoor
end
