/- A part of the proof: AbsMean AbsHold Walk98. -/
import Derived.Test.YtpgcmnabljandaaGreatDoorGa50
import Derived.Test.YtpgcmnabljandaaGreatDoorHs02
set_option linter.unusedVariables false
set_option linter.unusedSimpArgs false
set_option maxRecDepth 100000
section
namespace Go.Proofs.YtpgcmnabljandaaGreatDoor
open Go Go.Abs
section
noncomputable def tS (env:List Signal) (e:Ex):Bool:=decide (evalE env e=0)&&!decide (evalV env e=0)
def vt (env:List Signal) (e:Ex):Bool:=!decide (valV env e=0)
theorem tSo {env:List Signal} {e:Ex} (hv:validE e=0) (hk:knownV env e=true):tS env e=vt env e:=by
 simp [tS,evalE,evalV,hv,hk,vt]
def Alike (a b:List Signal):Prop:=∀ s,findV a s=findV b s
theorem Alike.at {a b:List Signal} (h:Alike a b) (s:Str) (i:Int):atV a s i=atV b s i:=by
 unfold atV;rw [h (elemS s i.toNat)]
theorem Alike.sum {a b:List Signal} (h:Alike a b) (s:Str):∀ n,sumV a s n=sumV b s n
 | 0=>rfl
 | n+1=>by simp only [sumV,h.sum s n,h.at]
theorem Alike.node {a b:List Signal} (h:Alike a b) (o n:Int) (s:Str) (l:List Int):nodeV a o n s l=nodeV b o n s l:=by
 unfold nodeV;rw [h s,h.at,h.sum]
theorem Alike.val {a b:List Signal} (h:Alike a b):∀ e,valV a e=valV b e:=by
 refine Ex.ind fun e ih=>?_
 rw [valV_eq,valV_eq b e,List.map_congr_left ih,h.node]
theorem Alike.known {a b:List Signal} (h:Alike a b) (e:Ex):knownV a e=knownV b e:=by
 unfold knownV
 congr 1
 funext x
 unfold askV
 rw [h x.name,h (elemS x.name 0)]
theorem Alike.truth {a b:List Signal} (h:Alike a b) (e:Ex):tS a e=tS b e:=by
 unfold tS evalE evalV
 rw [h.known,h.val]
theorem fVc {s:Str} {k:Int} {env:List Signal} {t:Str}:findV (⟨s,k⟩::env) t=if s=t then some (wrapW k) else findV env t:=by
 unfold findV
 rw [List.find?_cons]
 by_cases h:s=t
 · subst h;simp
 · have:(s==t)=false:=by simpa using h
   simp [this,h]
theorem Alike.cons {a b:List Signal} (h:Alike a b) (s:Str) (k:Int):Alike (⟨s,k⟩::a) (⟨s,k⟩::b):=by
 intro t
 rw [fVc,fVc,h t]
theorem alike_swap {s t:Str} (h:s≠t) (i k:Int) (env:List Signal):Alike (⟨s,i⟩::⟨t,k⟩::env) (⟨t,k⟩::⟨s,i⟩::env):=by
 intro u
 simp only [fVc]
 by_cases h1:s=u
 · subst h1;simp [Ne.symm h]
 · simp [h1]
theorem Alike.symm {a b:List Signal} (h:Alike a b):Alike b a:=fun s=>(h s).symm
mutual
noncomputable def mI (F:Flds):It→List Signal→Bool
 | .mk k e n i _ l m _ _,env=>
  if k=1 then tS env e else if k=4 then (if tS env e=true then mL F l env else mL F m env)
  else if k=5 then (List.range ((F n).getD 0).toNat).all fun j=>mL F l (⟨i,(j:Int)⟩::env) else true
noncomputable def mL (F:Flds):List It→List Signal→Bool
 | [],_=>true
 | x::r,env=>mI F x env&&mL F r env
end
theorem mLq (F:Flds) (env:List Signal):∀ l,mL F l env=l.all fun x=>mI F x env
 | []=>by simp [mL]
 | x::r=>by simp [mL,mLq F env r]
theorem mIq (F:Flds) (x:It) (env:List Signal):mI F x env=if x.kind=1 then tS env x.expr else if x.kind=4 then (if tS env x.expr=true then mL F x.items env else mL F x.els env)
 else if x.kind=5 then (List.range ((F x.name).getD 0).toNat).all fun j=>mL F x.items (⟨x.index,(j:Int)⟩::env) else true:=by
 cases x;simp only [mI];rfl
theorem aC' {α:Type} {f g:α→Bool} {l:List α} (h:∀ x∈l,f x=g x):l.all f=l.all g:=by
 induction l with
 | nil=>rfl
 | cons a r ih=>rw [List.all_cons,List.all_cons,h a (by simp),ih fun x hx=>h x (by simp [hx])]
theorem Alike.mean {F:Flds}:∀ (x:It) {a b:List Signal},Alike a b→mI F x a=mI F x b:=by
 refine It.ind fun x h1 h2 a b h=>?_
 have e1:∀ {a b:List Signal},Alike a b→mL F x.items a=mL F x.items b:=fun h=>by
  rw [mLq,mLq];exact aC' fun y hy=>h1 y hy h
 have e2:∀ {a b:List Signal},Alike a b→mL F x.els a=mL F x.els b:=fun h=>by
  rw [mLq,mLq];exact aC' fun y hy=>h2 y hy h
 rw [mIq,mIq F x b,h.truth,e1 h,e2 h]
 have:∀ j:Nat,mL F x.items (⟨x.index,(j:Int)⟩::a)=mL F x.items (⟨x.index,(j:Int)⟩::b):=fun j=>e1 (h.cons _ _)
 simp only [this]
structure Ok1 (env:List Signal) (e:Ex):Prop where
 valid:validE e=0
 known:knownV env e=true
 small:(pre e).length≤1000000
theorem Alike.ok {a b:List Signal} (h:Alike a b) {e:Ex} (ho:Ok1 a e):Ok1 b e:=⟨ho.valid,by rw [← h.known];exact ho.known,ho.small⟩
mutual
def KnI (F:Flds):It→List Signal→Prop
 | .mk k e n i _ l m _ _,env=>(k=1→Ok1 env e)∧(k=4→Ok1 env e∧KnL F l env∧KnL F m env) ∧
  (k=5→nameS i=true∧(∀ y∈preIL l,y.kind=5→y.index≠i)∧((F n).getD 0)≤8∧∀ j:Nat,(j:Int)<(F n).getD 0→KnL F l (⟨i,(j:Int)⟩::env))
def KnL (F:Flds):List It→List Signal→Prop
 | [],_=>True
 | x::r,env=>KnI F x env∧KnL F r env
end
theorem KLq (F:Flds) (env:List Signal):∀ l,KnL F l env↔∀ x∈l,KnI F x env
 | []=>by simp [KnL]
 | x::r=>by simp [KnL,KLq F env r]
theorem KnI_eq (F:Flds) (x:It) (env:List Signal):KnI F x env↔(x.kind=1→Ok1 env x.expr)∧(x.kind=4→Ok1 env x.expr∧KnL F x.items env∧KnL F x.els env) ∧
 (x.kind=5→nameS x.index=true∧(∀ y∈preIL x.items,y.kind=5→y.index≠x.index)∧((F x.name).getD 0)≤8∧∀ j:Nat,(j:Int)<(F x.name).getD 0→KnL F x.items (⟨x.index,(j:Int)⟩::env)):=by
 cases x;simp only [KnI];rfl
theorem Alike.kn {F:Flds}:∀ (x:It) {a b:List Signal},Alike a b→KnI F x a→KnI F x b:=by
 refine It.ind fun x h1 h2 a b h hk=>?_
 have e1:∀ {a b:List Signal},Alike a b→KnL F x.items a→KnL F x.items b:=fun h=>by
  rw [KLq,KLq];exact fun hh y hy=>h1 y hy h (hh y hy)
 have e2:∀ {a b:List Signal},Alike a b→KnL F x.els a→KnL F x.els b:=fun h=>by
  rw [KLq,KLq];exact fun hh y hy=>h2 y hy h (hh y hy)
 rw [KnI_eq] at hk ⊢
 obtain⟨k1,k4,k5⟩:=hk
 refine⟨fun hx=>h.ok (k1 hx),fun hx=>?_,fun hx=>?_⟩
 · obtain⟨a1,a2,a3⟩:=k4 hx
   exact⟨h.ok a1,e1 h a2,e2 h a3⟩
 · obtain⟨a1,a2,a3,a4⟩:=k5 hx
   exact⟨a1,a2,a3,fun j hj=>e1 (h.cons _ _) (a4 j hj)⟩
section
variable {s:Str} {k:Int} {env:List Signal}
theorem elemS_ne (hs:nameS s=true) (a:Str) (i:Nat):s≠elemS a i:=by
 rintro rfl
 rw [name_no91] at hs;cases hs
theorem bind_elem (hs:nameS s=true) (a:Str) (i:Nat):findV (⟨s,k⟩::env) (elemS a i)=findV env (elemS a i):=by
 rw [fVc,if_neg (elemS_ne hs a i)]
theorem bind_at (hs:nameS s=true) (a:Str) (i:Int):atV (⟨s,k⟩::env) a i=atV env a i:=by
 unfold atV;rw [bind_elem hs]
theorem bind_sum (hs:nameS s=true) (a:Str):∀ n,sumV (⟨s,k⟩::env) a n=sumV env a n
 | 0=>rfl
 | n+1=>by simp only [sumV,bind_sum hs a n,bind_at hs]
theorem bind_node (hs:nameS s=true) {o n:Int} {t:Str} (h:¬ (o=2∧t=s)) (l:List Int):nodeV (⟨s,k⟩::env) o n t l=nodeV env o n t l:=by
 unfold nodeV
 rw [bind_at hs,bind_sum hs]
 by_cases h2:o=2
 · have:s≠t:=fun e=>h ⟨h2,e.symm⟩
   rw [fVc,if_neg this]
 · simp only [if_neg h2]
theorem subst_val (hs:nameS s=true) (hk:0≤k∧k≤65535):∀ e,valV env (substE s (cEx k) e)=valV (⟨s,k⟩::env) e:=by
 refine Ex.ind fun e ih=>?_
 rw [substE_eq]
 split
 · rename_i h
   have:valV env (cEx k)=k:=by unfold cEx;rw [valV_eq];simp [nodeV]
   rw [this,valV_eq]
   unfold nodeV
   rw [if_neg (by omega),if_pos h.1,h.2,fVc,if_pos rfl,wrapW_id hk.1 hk.2];rfl
 · rename_i h
   rw [valV_eq,valV_eq _ e,bind_node hs h]
   simp only [Ex.op_mk,Ex.n_mk,Ex.name_mk,Ex.args_mk,List.map_map]
   congr 1
   exact List.map_congr_left ih
theorem subst_known (hs:nameS s=true):∀ e,knownV (⟨s,k⟩::env) e=true→knownV env (substE s (cEx k) e)=true:=by
 refine Ex.ind fun e ih hk=>?_
 rw [substE_eq]
 split
 · exact known_const env k
 · rename_i h
   rw [knownV_eq] at hk ⊢
   rw [Bool.and_eq_true,List.all_eq_true] at hk ⊢
   refine⟨?_,fun a ha=>?_⟩
   · have h1:=hk.1
     have e1:askV env (.mk e.op e.n e.name (e.args.map (substE s (cEx k))))=askV env e:=rfl
     rw [e1]
     unfold askV at h1 ⊢
     by_cases h2:e.op=2
     · rw [if_pos h2] at h1 ⊢
       rwa [fVc,if_neg (fun e'=>h ⟨h2,e'.symm⟩)] at h1
     · rw [if_neg h2] at h1 ⊢
       rwa [bind_elem hs] at h1
   · simp only [Ex.args_mk] at ha
     obtain⟨b,hb,rfl⟩:=List.mem_map.1 ha
     exact ih b hb (hk.2 b hb)
theorem pre_subst_mem {b:Ex} (hb:b.args=[]):∀ e,∀ y∈pre (substE s b e),y=b∨∃ x∈pre e,y=.mk x.op x.n x.name (x.args.map (substE s b)):=by
 refine Ex.ind fun e ih y hy=>?_
 rw [substE_eq] at hy
 split at hy
 · rw [pre_eq,hb] at hy
   simp at hy
   exact .inl hy
 · rw [pre_mk] at hy
   rcases List.mem_cons.1 hy with rfl|hy
   · exact .inr ⟨e,by rw [pre_eq];simp,rfl⟩
   · obtain⟨a,ha,hya⟩:=mem_preL.1 hy
     obtain⟨c,hc,rfl⟩:=List.mem_map.1 ha
     rcases ih c hc y hya with h|⟨x,hx,rfl⟩
     · exact .inl h
     · exact .inr ⟨x,by rw [pre_eq];exact List.mem_cons_of_mem _ (mem_preL.2 ⟨c,hc,hx⟩),rfl⟩
theorem hgt_subst {b:Ex} (hb:b.args=[]):∀ e,hgt (substE s b e)≤hgt e:=by
 refine Ex.ind fun e ih=>?_
 rw [substE_eq]
 split
 · rw [hgt_eq b,hb,hgt_eq e];simp
 · rw [hgt_eq,hgt_eq e]
   simp only [Ex.args_mk]
   have:∀ l:List Ex,(∀ a∈l,hgt (substE s b a)≤hgt a)→hgtL (l.map (substE s b))≤hgtL l:=by
    intro l
    induction l with
    | nil=>simp
    | cons x r ihl=>
     intro h
     have h1:=h x (by simp)
     have h2:=ihl fun a ha=>h a (by simp [ha])
     simp only [List.map_cons,hgtL_cons]
     omega
   have:=this e.args ih
   omega
theorem nodeE_args {o n:Int} {t:Str} {a b:List Ex} (h:a.length=b.length):nodeE (.mk o n t a)=nodeE (.mk o n t b):=by
 have h1:operandsS (.mk o n t a)=operandsS (.mk o n t b):=by
  unfold operandsS
  rw [show (Ex.mk o n t a).args.length=(Ex.mk o n t b).args.length from h]
  rfl
 unfold nodeE
 rw [h1]
 rfl
theorem subst_valid (hk:0≤k∧k≤65535) {e:Ex} (h:validE e=0) (hsm:(pre e).length≤1000000):validE (substE s (cEx k) e)=0:=by
 have hn:=validE_nodes h
 have hb:(cEx k).args=[]:=rfl
 have h1:=pre_substE (s:=s) hb e
 have h2:=hgt_subst (s:=s) hb e
 have hc:nodeE (cEx k)=0:=by
  unfold nodeE operandsS arityS cEx
  simp [Ex.op_mk,Ex.n_mk,Ex.name_mk,Ex.args_mk]
  omega
 have hz:firstE nodeE (pre (substE s (cEx k) e))=0:=by
  refine firstE_zero.2 fun y hy=>?_
  rcases pre_subst_mem hb e y hy with rfl|⟨x,hx,rfl⟩
  · exact hc
  · rw [nodeE_args (b:=x.args) (by simp)]
    have:=hn x hx
    cases x;exact this
 have hs:¬ (24<hgt e∨400<sizeS e):=by
  unfold validE at h
  split at h
  · cases h
  · rename_i hh;exact fun hx=>hh ⟨h,hx⟩
 unfold validE
 rw [if_neg (fun hh=>hs ?_),hz]
 rcases hh.2 with h3|h3
 · exact .inl (by omega)
 · exact .inr (by
    unfold sizeS at h3 ⊢
    rw [wr (by omega) (by omega)] at h3 ⊢
    omega)
def NoB (s:Str) (x:It):Prop:=∀ y∈preI x,y.kind=5→y.index≠s
theorem NoB.item {x y:It} (h:NoB s x) (hy:y∈x.items):NoB s y:=fun z hz=>h z (by rw [preI_eq];exact List.mem_cons_of_mem _ (List.mem_append_left _ (mem_preIL.2 ⟨y,hy,hz⟩)))
theorem NoB.els {x y:It} (h:NoB s x) (hy:y∈x.els):NoB s y:=fun z hz=>h z (by rw [preI_eq];exact List.mem_cons_of_mem _ (List.mem_append_right _ (mem_preIL.2 ⟨y,hy,hz⟩)))
theorem preIL_subst {b:Ex} (l:List It):preIL (l.map (substI s b))=(preIL l).map (substI s b):=by
 induction l with
 | nil=>simp [preIL]
 | cons a r ih=>simp only [List.map_cons,preIL,List.map_append,ih,preI_subst]
theorem subst_mean {F:Flds} (hs:nameS s=true) (hk:0≤k∧k≤65535):∀ (x:It) (env:List Signal),KnI F x (⟨s,k⟩::env)→NoB s x→mI F (substI s (cEx k) x) env=mI F x (⟨s,k⟩::env)∧KnI F (substI s (cEx k) x) env:=by
 refine It.ind fun x h1 h2 env hkn hnb=>?_
 have e1:∀ env,KnL F x.items (⟨s,k⟩::env)→mL F (x.items.map (substI s (cEx k))) env=mL F x.items (⟨s,k⟩::env)∧KnL F (x.items.map (substI s (cEx k))) env:=fun env hh=>by
  rw [KLq] at hh
  rw [mLq,mLq,KLq,List.all_map]
  refine⟨aC' fun y hy=>(h1 y hy env (hh y hy) (hnb.item hy)).1,fun z hz=>?_⟩
  obtain⟨y,hy,rfl⟩:=List.mem_map.1 hz
  exact (h1 y hy env (hh y hy) (hnb.item hy)).2
 have e2:∀ env,KnL F x.els (⟨s,k⟩::env)→mL F (x.els.map (substI s (cEx k))) env=mL F x.els (⟨s,k⟩::env)∧KnL F (x.els.map (substI s (cEx k))) env:=fun env hh=>by
  rw [KLq] at hh
  rw [mLq,mLq,KLq,List.all_map]
  refine⟨aC' fun y hy=>(h2 y hy env (hh y hy) (hnb.els hy)).1,fun z hz=>?_⟩
  obtain⟨y,hy,rfl⟩:=List.mem_map.1 hz
  exact (h2 y hy env (hh y hy) (hnb.els hy)).2
 have ok:Ok1 (⟨s,k⟩::env) x.expr→Ok1 env (substE s (cEx k) x.expr)∧tS env (substE s (cEx k) x.expr)=tS (⟨s,k⟩::env) x.expr:=fun ho=>by
  have a1:=subst_valid (s:=s) hk ho.valid ho.small
  have a3:=pre_substE (s:=s) (b:=cEx k) rfl x.expr
  have a4:=ho.small
  have a2:=subst_known hs _ ho.known
  refine⟨⟨a1,a2,by omega⟩,?_⟩
  rw [tSo a1 a2,tSo ho.valid ho.known]
  unfold vt
  rw [subst_val hs hk]
 rw [KnI_eq] at hkn
 obtain⟨k1,k4,k5⟩:=hkn
 rw [mIq,mIq F x,KnI_eq,substI_kind,substI_expr,substI_name,substI_index,substI_items,substI_els]
 by_cases c1:x.kind=1
 · obtain⟨o1,o2⟩:=ok (k1 c1)
   simp only [c1,if_true]
   exact⟨o2,fun _=>o1,fun h=>by omega,fun h=>by omega⟩
 by_cases c4:x.kind=4
 · obtain⟨a1,a2,a3⟩:=k4 c4
   obtain⟨o1,o2⟩:=ok a1
   obtain⟨p1,p2⟩:=e1 env a2
   obtain⟨q1,q2⟩:=e2 env a3
   rw [if_neg c1,if_neg c1,if_pos c4,if_pos c4,o2,p1,q1]
   exact⟨rfl,fun h=>absurd h c1,fun _=>⟨o1,p2,q2⟩,fun h=>by omega⟩
 by_cases c5:x.kind=5
 · obtain⟨a1,a2,a3,a4⟩:=k5 c5
   have hne:x.index≠s:=hnb x (by rw [preI_eq];simp) c5
   have key:∀ j:Nat,(j:Int)<(F x.name).getD 0→mL F (x.items.map (substI s (cEx k))) (⟨x.index,(j:Int)⟩::env)=mL F x.items (⟨x.index,(j:Int)⟩::⟨s,k⟩::env)∧KnL F (x.items.map (substI s (cEx k))) (⟨x.index,(j:Int)⟩::env):=fun j hj=>by
    have hsw:=alike_swap hne (j:Int) k env
    have b:=a4 j hj
    rw [KLq] at b
    obtain⟨p1,p2⟩:=e1 (⟨x.index,(j:Int)⟩::env) (by rw [KLq];exact fun y hy=>hsw.kn y (b y hy))
    refine⟨?_,p2⟩
    rw [p1,mLq,mLq]
    exact aC' fun y hy=>(hsw.symm.mean y)
   rw [if_neg c1,if_neg c1,if_neg c4,if_neg c4,if_pos c5,if_pos c5]
   refine⟨aC' fun j hj=>(key j ?_).1,fun h=>absurd h c1,fun h=>absurd h c4,fun _=>⟨a1,?_,a3,fun j hj=>(key j hj).2⟩⟩
   · have:=List.mem_range.1 hj;omega
   · intro y hy hy5
     rw [preIL_subst] at hy
     obtain⟨z,hz,rfl⟩:=List.mem_map.1 hy
     rw [substI_index]
     exact a2 z hz (by rw [substI_kind] at hy5;exact hy5)
 · simp only [if_neg c1,if_neg c4,if_neg c5]
   exact⟨trivial,fun h=>absurd h c1,fun h=>absurd h c4,fun h=>absurd h c5⟩
end
noncomputable def ctV (env:List Signal):Option Ex→Bool
 | none=>true
 | some q=>vt env q
def CondK (env:List Signal) (c:Option Ex):Prop:=∀ q,c=some q→NodesOk q∧knownV env q=true
theorem nodes_mk {o n:Int} {t:Str} {a:List Ex} (h:nodeE (.mk o n t a)=0) (ha:∀ x∈a,NodesOk x):NodesOk (.mk o n t a):=by
 intro x hx
 rw [pre_mk] at hx
 rcases List.mem_cons.1 hx with rfl|hx
 · exact h
 · obtain⟨y,hy,hxy⟩:=mem_preL.1 hx
   exact ha y hy x hxy
theorem node_two {o:Int} (h:o=19∨o=21) (a b:Ex):nodeE (.mk o 0 [] [a,b])=0:=by
 rcases h with rfl|rfl<;>simp [nodeE,operandsS,arityS,Ex.op_mk,Ex.n_mk,Ex.name_mk,Ex.args_mk]
theorem node_not (a:Ex):nodeE (notE a)=0:=by simp [notE,nodeE,operandsS,arityS,Ex.op_mk,Ex.n_mk,Ex.name_mk,Ex.args_mk]
theorem nUn {env:List Signal} {c:Option Ex} {o:Int} {e:Ex} (hc:CondK env c) (h:o=19∨o=21) (hn:NodesOk e):NodesOk (underE c o e):=by
 cases c with
 | none=>exact hn
 | some q=>
  refine nodes_mk (node_two h q e) fun x hx=>?_
  simp only [List.mem_cons,List.not_mem_nil,or_false] at hx
  rcases hx with rfl|rfl
  · exact (hc _ rfl).1
  · exact hn
theorem kUn {env:List Signal} {c:Option Ex} {o:Int} {e:Ex} (hc:CondK env c) (h:o=19∨o=21) (hn:knownV env e=true):knownV env (underE c o e)=true:=by
 cases c with
 | none=>exact hn
 | some q=>
  refine known_mk (by omega) (by omega) (by omega) fun x hx=>?_
  simp only [List.mem_cons,List.not_mem_nil,or_false] at hx
  rcases hx with rfl|rfl
  · exact (hc _ rfl).2
  · exact hn
theorem b2i_zero (b:Bool):decide (b2i b=0) = !b:=by cases b<;>simp [b2i]
theorem vt_both {env:List Signal} {c:Option Ex} {e:Ex}:vt env (underE c 19 e)=(ctV env c&&vt env e):=by
 cases c with
 | none=>simp [underE,ctV]
 | some q=>
  unfold underE ctV vt
  rw [valV_eq]
  simp only [Ex.op_mk,Ex.n_mk,Ex.name_mk,Ex.args_mk,List.map_cons,List.map_nil]
  simp [nodeV,opW,binW,b2i_zero]
theorem vt_implies {env:List Signal} {c:Option Ex} {e:Ex}:vt env (underE c 21 e)=(!ctV env c||vt env e):=by
 cases c with
 | none=>simp [underE,ctV]
 | some q=>
  unfold underE ctV vt
  rw [valV_eq]
  simp only [Ex.op_mk,Ex.n_mk,Ex.name_mk,Ex.args_mk,List.map_cons,List.map_nil]
  simp [nodeV,opW,binW,b2i_zero]
theorem vt_not {env:List Signal} {e:Ex}:vt env (notE e) = !vt env e:=by
 unfold vt notE
 rw [valV_eq]
 simp only [Ex.op_mk,Ex.n_mk,Ex.name_mk,Ex.args_mk,List.map_cons,List.map_nil]
 simp [nodeV,opW,unW,b2i_zero]
theorem condK_both {env:List Signal} {c:Option Ex} {e:Ex} (hc:CondK env c) (hn:NodesOk e) (hk:knownV env e=true):CondK env (some (underE c 19 e)):=by
 rintro q ⟨⟩
 exact⟨nUn hc (.inl rfl) hn,kUn hc (.inl rfl) hk⟩
noncomputable def holdK (env:List Signal) (y:It):Bool:=!decide (y.kind=1)||tS env y.expr
theorem all_or {α:Type} {f:α→Bool} {b:Bool} {l:List α}:(l.all fun x=>b||f x)=(b||l.all f):=by
 induction l with
 | nil=>simp
 | cons a r ih=>rw [List.all_cons,List.all_cons,ih];cases b<;>simp
theorem xMn {F:Flds} {env:List Signal}:∀ (h:Nat) (x:It) (c:Option Ex),nestI x≤h→KnI F x env→CondK env c→(∀ y∈expandI F h c x,y.kind=1→validE y.expr=0) →
 (expandI F h c x).all (holdK env)=(!ctV env c||mI F x env)
 | 0,x,c,hx,_,_,_=>by rw [nestI_eq] at hx;omega
 | h+1,x,c,hx,hkn,hc,hv=>by
  rw [KnI_eq] at hkn
  obtain⟨k1,k4,k5⟩:=hkn
  simp only [expandI] at hv ⊢
  rw [mIq]
  by_cases c1:x.kind=1
  · have ho:=k1 c1
    rw [if_pos (.inl c1)] at hv ⊢
    have hnd:NodesOk (underE c 21 x.expr):=nUn hc (.inr rfl) (validE_nodes ho.valid)
    have hsb:substE [] zEx (underE c 21 x.expr)=underE c 21 x.expr:=subst_noE _ hnd.noE
    rw [hsb] at hv ⊢
    have hvy:=hv (exprI x.kind (underE c 21 x.expr)) (by simp) c1
    have hkk:=kUn hc (.inr rfl) (o:=21) ho.known
    have ht:=tSo hvy hkk
    simp only [List.all_cons,List.all_nil,Bool.and_true,holdK]
    have hk1:(exprI x.kind (underE c 21 x.expr)).kind=1:=c1
    rw [hk1]
    have he:(exprI x.kind (underE c 21 x.expr)).expr=underE c 21 x.expr:=rfl
    rw [he] at ht ⊢
    rw [ht,vt_implies,if_pos c1,tSo ho.valid ho.known]
    simp
  by_cases c2:x.kind=2
  · rw [if_pos (.inr c2),if_neg c1,if_neg (by omega),if_neg (by omega)]
    have hk1:(exprI x.kind (substE [] zEx (underE c 21 x.expr))).kind=2:=c2
    simp [holdK,hk1]
  by_cases c4:x.kind=4
  · obtain⟨ho,ki,ke⟩:=k4 c4
    rw [if_neg (by omega),if_pos c4] at hv ⊢
    have hvn:=validE_nodes ho.valid
    have hc1:=condK_both hc hvn ho.known
    have hc2:=condK_both hc (e:=notE x.expr) (nodes_mk (node_not x.expr) fun y hy=>by
     simp only [List.mem_cons,List.not_mem_nil,or_false] at hy;subst hy;exact hvn) (known_mk (by decide) (by decide) (by decide) fun y hy=>by
     simp only [List.mem_cons,List.not_mem_nil,or_false] at hy;subst hy;exact ho.known)
    rw [KLq] at ki ke
    have i1:(x.items.flatMap (expandI F h (some (underE c 19 x.expr)))).all (holdK env)=(!(ctV env c&&vt env x.expr)||mL F x.items env):=by
     rw [List.all_flatMap,mLq,← all_or]
     refine aC' fun y hy=>?_
     rw [xMn h y _ (by have:=nestI_item hy;omega) (ki y hy) hc1 fun z hz=>hv z (List.mem_append_left _ (List.mem_flatMap.2 ⟨y,hy,hz⟩))]
     show (!vt env (underE c 19 x.expr)||_)=_
     rw [vt_both]
    have i2:(x.els.flatMap (expandI F h (some (underE c 19 (notE x.expr))))).all (holdK env)=(!(ctV env c&&!vt env x.expr)||mL F x.els env):=by
     rw [List.all_flatMap,mLq,← all_or]
     refine aC' fun y hy=>?_
     rw [xMn h y _ (by have:=nestI_els hy;omega) (ke y hy) hc2 fun z hz=>hv z (List.mem_append_right _ (List.mem_flatMap.2 ⟨y,hy,hz⟩))]
     show (!vt env (underE c 19 (notE x.expr))||_)=_
     rw [vt_both,vt_not]
    rw [List.all_append,i1,i2,if_neg c1,if_pos c4,tSo ho.valid ho.known]
    cases ctV env c<;>cases vt env x.expr<;>simp
  by_cases c5:x.kind=5
  · obtain⟨a1,a2,a3,a4⟩:=k5 c5
    rw [if_neg (by omega),if_neg c4,if_pos c5] at hv ⊢
    rw [if_neg c1,if_neg c4,if_pos c5,List.all_flatMap,← all_or]
    refine aC' fun j hj=>?_
    have hj':(j:Int)<(F x.name).getD 0:=by have:=List.mem_range.1 hj;omega
    have hkn:=a4 j hj'
    rw [KLq] at hkn
    rw [List.all_flatMap,List.all_map,mLq,← all_or]
    refine aC' fun y hy=>?_
    obtain⟨s1,s2⟩:=subst_mean (F:=F) a1 (k:=(j:Int)) (by omega) y env (hkn y hy) (fun z hz=>a2 z (mem_preIL.2 ⟨y,hy,hz⟩))
    show (expandI F h c (substI x.index (cEx (j:Int)) y)).all (holdK env)=_
    rw [xMn h _ c (by rw [nestI_subst];have:=nestI_item hy;omega) s2 hc fun z hz=>hv z (List.mem_flatMap.2 ⟨j,hj,List.mem_flatMap.2 ⟨_,List.mem_map.2 ⟨y,hy,rfl⟩,hz⟩⟩),s1]
  · rw [if_neg (by omega),if_neg c4,if_neg c5]
    rw [if_neg c1,if_neg c4,if_neg c5]
    split
    · simp [holdK,It.kind]
    · split<;>simp [holdK,It.kind]
structure Cov (F:Flds) (b:List Str) (env:List Signal):Prop where
 var:∀ s,varF F s=0→(findV env s).isSome=true
 arr:∀ s,nameS s=true→arrF F s=0→(findV env (elemS s 0)).isSome=true
 bound:∀ s∈b,(findV env s).isSome=true
 size:∀ s,(F s).getD 0≤8
theorem fMo {env:List Signal} {s t:Str} {k:Int} (h:(findV env t).isSome=true):(findV (⟨s,k⟩::env) t).isSome=true:=by
 rw [fVc];split
 · rfl
 · exact h
theorem Cov.bind {F:Flds} {b:List Str} {env:List Signal} (h:Cov F b env) (s:Str) (k:Int):Cov F (b++[s]) (⟨s,k⟩::env):=by
 refine⟨fun t ht=>fMo (h.var t ht),fun t hn ht=>fMo (h.arr t hn ht),fun t ht=>?_,h.size⟩
 rcases List.mem_append.1 ht with ht|ht
 · exact fMo (h.bound t ht)
 · simp only [List.mem_cons,List.not_mem_nil,or_false] at ht
   subst ht
   rw [fVc,if_pos rfl];rfl
theorem exprF_known {F:Flds} {b:List Str} {env:List Signal} (h:Cov F b env) {e:Ex} (hn:NodesOk e) (hz:exprF F b e=0):knownV env e=true:=by
 rw [known_mem]
 intro x hx
 have h0:nodeF F b x=0:=firstE_zero.1 hz x hx
 obtain⟨_,_,_,_,_,_,hnm,_⟩:=nodeE_zero (hn x hx)
 unfold nodeF at h0
 unfold askV
 by_cases h2:x.op=2
 · rw [if_pos h2] at h0 ⊢
   split at h0
   · rename_i hc
     exact h.bound _ (by simpa using hc)
   · exact h.var _ h0
 · rw [if_neg h2] at h0 ⊢
   by_cases h3:x.op=3∨x.op=24
   · rw [if_pos h3] at h0 ⊢
     exact h.arr _ (hnm h3) h0
   · rw [if_neg h3]
theorem vis_bound:∀ (x:It) (p:Place),∀ y∈visI p x,∀ s∈p.bound,s∈y.2.bound:=by
 refine It.ind fun x h1 h2 p y hy s hs=>?_
 rw [visI_eq] at hy
 rcases List.mem_cons.1 hy with rfl|hy
 · exact hs
 · rcases List.mem_append.1 hy with hy|hy
   · obtain⟨a,ha,hya⟩:=mem_visIs.1 hy
     refine h1 a ha _ y hya s ?_
     unfold innerP
     split
     · exact List.mem_append_left _ hs
     · unfold innerD;split<;>exact hs
   · obtain⟨a,ha,hya⟩:=mem_visIs.1 hy
     refine h2 a ha _ y hya s ?_
     unfold innerD;split<;>exact hs
theorem vis_all:∀ (x:It) (p:Place),∀ y∈preI x,∃ z∈visI p x,z.1=y:=by
 refine It.ind fun x h1 h2 p y hy=>?_
 rw [preI_eq] at hy
 rcases List.mem_cons.1 hy with rfl|hy
 · exact⟨_,visI_self p y,rfl⟩
 · rcases List.mem_append.1 hy with hy|hy
   · obtain⟨a,ha,hya⟩:=mem_preIL.1 hy
     obtain⟨z,hz,hzy⟩:=h1 a ha (innerP x p) y hya
     exact⟨z,by rw [visI_eq];exact List.mem_cons_of_mem _ (List.mem_append_left _ (mem_visIs.2 ⟨a,ha,hz⟩)),hzy⟩
   · obtain⟨a,ha,hya⟩:=mem_preIL.1 hy
     obtain⟨z,hz,hzy⟩:=h2 a ha (innerD x p) y hya
     exact⟨z,by rw [visI_eq];exact List.mem_cons_of_mem _ (List.mem_append_right _ (mem_visIs.2 ⟨a,ha,hz⟩)),hzy⟩
theorem kn_of {F:Flds}:∀ (x:It) (p:Place) (env:List Signal),(∀ y∈preI x,(pre y.expr).length≤1000000)→(∀ y∈visI p x,shapeE y.1 y.2.depth=0∧consE F y.1 y.2.bound=0)→Cov F p.bound env→KnI F x env:=by
 refine It.ind fun x h1 h2 p env hsm hv hc=>?_
 have hs1:∀ a∈x.items,∀ y∈preI a,(pre y.expr).length≤1000000:=fun a ha y hy=>hsm y (by rw [preI_eq];exact List.mem_cons_of_mem _ (List.mem_append_left _ (mem_preIL.2 ⟨a,ha,hy⟩)))
 have hs2:∀ a∈x.els,∀ y∈preI a,(pre y.expr).length≤1000000:=fun a ha y hy=>hsm y (by rw [preI_eq];exact List.mem_cons_of_mem _ (List.mem_append_right _ (mem_preIL.2 ⟨a,ha,hy⟩)))
 obtain⟨s0,c0⟩:=hv (x,p) (visI_self p x)
 have hs:=shapeE_zero s0
 have i1:∀ a∈x.items,∀ y∈visI (innerP x p) a,shapeE y.1 y.2.depth=0∧consE F y.1 y.2.bound=0:=fun a ha y hy=>hv y (by rw [visI_eq];exact List.mem_cons_of_mem _ (List.mem_append_left _ (mem_visIs.2 ⟨a,ha,hy⟩)))
 have i2:∀ a∈x.els,∀ y∈visI (innerD x p) a,shapeE y.1 y.2.depth=0∧consE F y.1 y.2.bound=0:=fun a ha y hy=>hv y (by rw [visI_eq];exact List.mem_cons_of_mem _ (List.mem_append_right _ (mem_visIs.2 ⟨a,ha,hy⟩)))
 have ok:x.kind≠3→x.kind≠5→x.kind≠6→Ok1 env x.expr:=fun a1 a2 a3=>by
  have hve:=hs.expr a1 a2 a3
  refine⟨hve,exprF_known hc (validE_nodes hve) ?_,hsm x (by rw [preI_eq];simp)⟩
  simp only [consE,if_neg a1,if_neg a2,if_neg a3] at c0
  exact c0
 rw [KnI_eq]
 refine⟨fun k=>ok (by omega) (by omega) (by omega),fun k=>⟨ok (by omega) (by omega) (by omega),?_,?_⟩,fun k=>?_⟩
 · rw [KLq]
   intro y hy
   refine h1 y hy _ env (hs1 y hy) (i1 y hy) ?_
   have:(innerP x p).bound=p.bound:=by unfold innerP innerD;simp [k]
   rw [this];exact hc
 · rw [KLq]
   intro y hy
   refine h2 y hy _ env (hs2 y hy) (i2 y hy) ?_
   have:(innerD x p).bound=p.bound:=by unfold innerD;simp [k]
   rw [this];exact hc
 · have hb:(innerP x p).bound=p.bound++[x.index]:=by unfold innerP;simp [k]
   refine⟨(hs.each k).2,fun y hy hy5 e=>?_,hc.size _,fun j hj=>?_⟩
   · obtain⟨a,ha,hya⟩:=mem_preIL.1 hy
     obtain⟨z,hz,rfl⟩:=vis_all a (innerP x p) y hya
     have hin:=vis_bound a (innerP x p) z hz x.index (by rw [hb];simp)
     have hcz:=(i1 a ha z hz).2
     unfold consE at hcz
     rw [if_neg (by omega),if_neg (by omega),if_pos hy5] at hcz
     split at hcz
     · rename_i hn;exact hn hcz
     · rw [if_pos (.inr (by rw [e];simpa using hin))] at hcz
       cases hcz
   · rw [KLq]
     intro y hy
     refine h1 y hy _ _ (hs1 y hy) (i1 y hy) ?_
     rw [hb]
     exact hc.bind _ _
end
theorem andI_mask (n:Int) {k:Nat} (hk:k≤8):0≤andI n (2 ^ k-1)∧andI n (2 ^ k-1)<2 ^ k:=by
 have h:andI n (2 ^ k-1)=IntKind.i64.wrap ((BitVec.ofInt 64 n &&& BitVec.ofInt 64 (2 ^ k-1)).toNat:Int):=rfl
 have e1:(BitVec.ofInt 64 ((2:Int) ^ k-1)).toNat=2 ^ k-1:=by
  have:k=0∨k=1∨k=2∨k=3∨k=4∨k=5∨k=6∨k=7∨k=8:=by omega
  rcases this with rfl|rfl|rfl|rfl|rfl|rfl|rfl|rfl|rfl<;>decide
 have e2:(2:Nat) ^ k≤256:=by
  have:=Nat.pow_le_pow_right (n:=2) (by omega) hk
  simpa using this
 have e3:0<(2:Nat) ^ k:=Nat.pow_pos (by omega)
 have e4:(BitVec.ofInt 64 n &&& BitVec.ofInt 64 ((2:Int) ^ k-1)).toNat<2 ^ k:=by
  rw [BitVec.toNat_and,e1,Nat.and_two_pow_sub_one_eq_mod]
  exact Nat.mod_lt _ e3
 rw [h]
 generalize (BitVec.ofInt 64 n &&& BitVec.ofInt 64 ((2:Int) ^ k-1)).toNat=m at *
 have e5:((2 ^ k:Nat):Int)=(2:Int) ^ k:=by simp
 rw [← e5]
 rw [wr (by omega) (by omega)]
 omega
theorem andI_small {w:Int} (h:1≤w∧w≤8):andI w 15=w:=by
 have:w=1∨w=2∨w=3∨w=4∨w=5∨w=6∨w=7∨w=8:=by omega
 rcases this with rfl|rfl|rfl|rfl|rfl|rfl|rfl|rfl<;>decide
theorem mask_eq {w:Int} (h:1≤w∧w≤8):IntKind.i64.wrap (IntKind.i64.wrap (1*2 ^ (min (andI w 15).toNat IntKind.i64.bits))-1)=2 ^ w.toNat-1:=by
 rw [andI_small h]
 have:w=1∨w=2∨w=3∨w=4∨w=5∨w=6∨w=7∨w=8:=by omega
 rcases this with rfl|rfl|rfl|rfl|rfl|rfl|rfl|rfl<;>decide
theorem varE_val {v:Var} (h:varE v=0):0≤v.value∧v.value<2 ^ v.width.toNat:=by
 unfold varE at h
 split at h
 · cases h
 split at h
 · cases h
 · rename_i hn
   refine⟨?_,?_⟩
   · apply Classical.byContradiction;intro e;exact hn (.inr (.inr (.inr (.inr (.inl (by omega))))))
   · apply Classical.byContradiction;intro e;exact hn (.inr (.inr (.inr (.inr (.inr (.inl (by omega)))))))
theorem fit1_ok {v:Var} (h:varE v=0) (n:Int):assign1 (v,fit1 v n)=true:=by
 unfold assign1 fit1
 simp only
 by_cases hm:v.mode=0
 · obtain⟨a,b⟩:=varE_val h
   rw [if_pos hm]
   simp [a,b]
 · have hw:=(varE_zero h).2
   rw [if_neg hm,mask_eq hw]
   obtain⟨a,b⟩:=andI_mask n (k:=v.width.toNat) (by omega)
   simp [a,b,hm]
theorem fAs:∀ {l:List Var} (xs:List Int),(∀ v∈l,varE v=0)→(l.zip (fitL l xs)).all assign1=true
 | [],_,_=>rfl
 | v::r,[],h=>by
  simp only [fitL,List.zip_cons_cons,List.all_cons,Bool.and_eq_true]
  exact⟨fit1_ok (h v (by simp)) 0,fAs [] fun x hx=>h x (by simp [hx])⟩
 | v::r,x::xs,h=>by
  simp only [fitL,List.zip_cons_cons,List.all_cons,Bool.and_eq_true]
  exact⟨fit1_ok (h v (by simp)) x,fAs xs fun y hy=>h y (by simp [hy])⟩
theorem fit_assignsS {l:List Var} (xs:List Int) (h:∀ v∈l,varE v=0):assignsS l (fitL l xs)=true:=by
 unfold assignsS
 rw [fAs xs h,fitL_len];simp
theorem ask_parts {q:Ask} (h0:problemE q=0):lineE q.src q.name=0∧problemS q=buildP (flattenS q.src q.name) q.off q.more q.state ∧
 firstE (expandE (fldsOf (flattenS q.src q.name))) (listsC (flattenS q.src q.name) q.off q.more)=0 ∧
 firstE (fun y=>scalarE (fldsOf (flattenS q.src q.name)) (varsC (flattenS q.src q.name)) y.expr) (kindsL 1 (expandedS (fldsOf (flattenS q.src q.name)) (listsC (flattenS q.src q.name) q.off q.more)))=0 ∧
 validP (buildP (flattenS q.src q.name) q.off q.more q.state)=0:=by
 have hE:problemE q=if lineE q.src q.name≠0 then lineE q.src q.name else if q.off.any (fun s=>!(flattenS q.src q.name).blocks.any fun b=>b.name==s)=true then 7 else buildE (flattenS q.src q.name) q.off q.more q.state:=rfl
 have hS:problemS q=buildP (flattenS q.src q.name) q.off q.more q.state:=by
  have:problemS q=if problemE q≠0 then zProb else buildP (flattenS q.src q.name) q.off q.more q.state:=rfl
  rw [this,if_neg (by simp [h0])]
 rw [h0] at hE
 have hl:lineE q.src q.name=0:=by
  apply Classical.byContradiction
  intro hn
  rw [if_pos hn] at hE
  exact hn hE.symm
 rw [if_neg (by simp [hl])] at hE
 split at hE
 · cases hE
 rw [answers_build] at hE
 have hz:=firstE_zero.1 hE.symm
 have hv:=hz (validP (buildP (flattenS q.src q.name) q.off q.more q.state)) (by simp [answers,buildP])
 have hx:=hz (firstE (expandE (fldsOf (flattenS q.src q.name))) (listsC (flattenS q.src q.name) q.off q.more)) (by simp [answers])
 have h5:=hz (firstE (fun y=>scalarE (fldsOf (flattenS q.src q.name)) (varsC (flattenS q.src q.name)) y.expr) (kindsL 1 (expandedS (fldsOf (flattenS q.src q.name)) (listsC (flattenS q.src q.name) q.off q.more)))) (by simp [answers])
 simp only [id] at hv hx h5
 exact⟨hl,hS,hx,h5,hv⟩
theorem hasV_names {l m:List Var} (h:l.map Var.name=m.map Var.name) (s:Str):hasV l s=hasV m s:=by
 have:∀ l:List Var,hasV l s=(l.map Var.name).any fun t=>t==s:=fun l=>by unfold hasV;rw [List.any_map];rfl
 rw [this,this,h]
theorem Sees.names {l m:List Var} (h:l.map Var.name=m.map Var.name) {env:List Signal} (hs:Sees l env):Sees m env:=by
 refine⟨fun s=>by rw [hs.has,hasV_names h],fun a i hi ha hh=>?_⟩
 rw [← hasV_names h] at hh ⊢
 exact hs.down a i hi ha hh
theorem cov_of {c:Cls} (hc:ClsOk c) {env:List Signal} (hs:Sees (varsC c) env):Cov (fldsOf c) [] env:=by
 refine⟨fun s h=>by rw [hs.has];exact varF_has hc h,fun s hn h=>?_,by simp,fun s=>?_⟩
 · rw [hs.has]
   have:=arrF_size hc hn h
   exact sizeA_has (by omega)
 · cases hF:fldsOf c s with
   | none=>simp
   | some n=>
    obtain⟨f,hf,_,rfl⟩:=fldsOf_some hF
    have:=(fieldE_zero (hc.fields f hf)).s8
    simpa using this
theorem cPa {F:Flds} {l:List It} (h:expandE F l=0):(∀ x∈l,nestI x≤5)∧(∀ y∈visIs ⟨0,[]⟩ l,shapeE y.1 y.2.depth=0∧consE F y.1 y.2.bound=0)∧∀ y∈expandL F 6 none l,y.kind=1→validE y.expr=0:=by
 unfold expandE at h
 split at h
 · rename_i hn;exact absurd h hn
 rename_i hc
 have hc:checkI F l=0:=Classical.not_not.1 hc
 split at h
 · cases h
 split at h
 · cases h
 rename_i hv
 unfold checkI at hc
 split at hc
 · rename_i hn;exact absurd hc hn
 rename_i hvi
 have hvi:validI l=0:=Classical.not_not.1 hvi
 refine⟨valid_nest hvi,fun y hy=>⟨?_,firstE_zero.1 hc y hy⟩,fun y hy h1=>?_⟩
 · unfold validI at hvi
   split at hvi
   · cases hvi
   · exact firstE_zero.1 hvi y hy
 · have:=List.any_eq_false.1 (Bool.eq_false_iff.2 hv) y hy
   simpa [asksK,h1] using this
theorem aF' {α:Type} {f g:α→Bool} {l:List α}:(l.filter g).all f=l.all fun x=>!g x||f x:=by
 induction l with
 | nil=>rfl
 | cons a r ih=>
  rw [List.filter_cons,List.all_cons,← ih]
  cases hg:g a<;>simp
theorem ask_holds {q:Ask} (ha:AskOk q) (h0:problemE q=0) (xs:List Int) :
 (problemS q).hard.all (fun e=>holdsS (problemS q) (fitL (problemS q).vars xs) e) =
 (mL (fldsOf (flattenS q.src q.name)) q.more (envS (problemS q).vars (fitL (problemS q).vars xs))&&(flattenS q.src q.name).blocks.all fun b=>q.off.contains b.name||mL (fldsOf (flattenS q.src q.name)) b.items (envS (problemS q).vars (fitL (problemS q).vars xs))):=by
 obtain⟨hl,hS,hx,h5,hv⟩:=ask_parts h0
 have hc:=flat_ok hl
 have hfew:=ha.few
 rw [hS]
 generalize flattenS q.src q.name=c at *
 have hnm:(buildP c q.off q.more q.state).vars.map Var.name=(varsC c).map Var.name:=foldV_names q.state (varsC c)
 have hvv:=validP_vars hv
 have has:=fit_assignsS xs hvv
 have hse:=sees_of hv (a:=fitL (buildP c q.off q.more q.state).vars xs) (fitL_len _ _)
 have hhard:(buildP c q.off q.more q.state).hard=(kindsL 1 (expandedS (fldsOf c) (listsC c q.off q.more))).map fun y=>scE (varsC c) y.expr:=rfl
 have hH:∀ e,holdsS (buildP c q.off q.more q.state) (fitL (buildP c q.off q.more q.state).vars xs) e=tS (envS (buildP c q.off q.more q.state).vars (fitL (buildP c q.off q.more q.state).vars xs)) e:=fun e=>by
  rw [holdsS_eq,decide_eq_true hv,has];rfl
 rw [hhard]
 simp only [hH]
 generalize envS (buildP c q.off q.more q.state).vars (fitL (buildP c q.off q.more q.state).vars xs)=env at *
 have hse':=hse.names hnm
 have hcov:=cov_of hc hse'
 have hz5:=firstE_zero.1 h5
 have hzx:=firstE_zero.1 hx
 have step1:((kindsL 1 (expandedS (fldsOf c) (listsC c q.off q.more))).map fun y=>scE (varsC c) y.expr).all (fun e=>tS env e)=(expandedS (fldsOf c) (listsC c q.off q.more)).all (holdK env):=by
  rw [List.all_map]
  have:(kindsL 1 (expandedS (fldsOf c) (listsC c q.off q.more))).all ((fun e=>tS env e)∘fun y=>scE (varsC c) y.expr)=(kindsL 1 (expandedS (fldsOf c) (listsC c q.off q.more))).all fun y=>tS env y.expr:=by
   refine aC' fun y hy=>?_
   have hz:=hz5 y hy
   have hE:scalarE (fldsOf c) (varsC c) y.expr=if validE y.expr≠0 then validE y.expr else if exprF (fldsOf c) [] y.expr≠0 then exprF (fldsOf c) [] y.expr else if 400<(extE (varsC c) y.expr).1 then 2 else if validE (scE (varsC c) y.expr)≠0 then 2 else 0:=rfl
   simp only [hE] at hz
   split at hz
   · rename_i hn;exact absurd hz hn
   rename_i e1
   have e1:validE y.expr=0:=Classical.not_not.1 e1
   split at hz
   · rename_i hn;exact absurd hz hn
   rename_i e2
   have e2:exprF (fldsOf c) [] y.expr=0:=Classical.not_not.1 e2
   split at hz
   · cases hz
   split at hz
   · cases hz
   rename_i e3
   have e3:validE (scE (varsC c) y.expr)=0:=Classical.not_not.1 e3
   have hn:=validE_nodes e1
   have hu:=exprF_unk hc hn e2
   show tS env (scE (varsC c) y.expr)=tS env y.expr
   rw [tSo e3 (sc_known hse' _ hn hu),tSo e1 (e_known hse' hu)]
   unfold vt
   rw [sc_val hse' _ hn hu]
  rw [this]
  unfold kindsL
  rw [aF']
  rfl
 rw [step1]
 unfold expandedS
 rw [List.all_flatMap]
 have step2:(listsC c q.off q.more).all (fun l=>(expandL (fldsOf c) 6 none l).all (holdK env))=(listsC c q.off q.more).all fun l=>mL (fldsOf c) l env:=by
  refine aC' fun l hlm=>?_
  obtain⟨p1,p2,p3⟩:=cPa (hzx l hlm)
  unfold expandL
  rw [List.all_flatMap,mLq]
  refine aC' fun x hxm=>?_
  have hk:=kn_of (F:=fldsOf c) x ⟨0,[]⟩ env (fun y hy=>by have:=(hfew l hlm).few.size y (mem_preIL.2 ⟨x,hxm,hy⟩);omega) (fun y hy=>p2 y (mem_visIs.2 ⟨x,hxm,hy⟩)) hcov
  rw [xMn 6 x none (by have:=p1 x hxm;omega) hk (by rintro q ⟨⟩) fun y hy=>p3 y (List.mem_flatMap.2 ⟨x,hxm,hy⟩)]
  simp [ctV]
 rw [step2]
 unfold listsC
 rw [List.all_append,List.all_map,aF']
 simp only [List.all_cons,List.all_nil,Bool.and_true,onB,Bool.not_not,Function.comp]
 rw [Bool.and_comm]
theorem truth69 (env:List Signal) (hl:Fits env) (e:Ex) (hwe:Wen e) (hh:hgt e<1000000) (hsz:(pre e).length≤100000):Pure Tryz.prog GG 69 [.agg (encE e),.sl 2 (env.map encSignal) .none] (.bool (tS env e)):=by
 refine Pure.k mixed Tryz.func69 rfl (by kernel_rfl) ?_
 have hev:=eval37 env hl e hwe hh hsz
 have hr:tS env e=(decide (evalE env e=0)&&!decide (evalV env e=0)):=rfl
 generalize tS env e=r at hr
 generalize evalE env e=x at *
 generalize evalV env e=y at *
 simp only [encE_eq e] at hev ⊢
 simp [-acells,-fin,-fin1,-fin2,-pl1,-pl2,-plain,-AV.atom,-getElem?_pos]
 refine kCall.call hev (by simp) ?_
 by_cases hx:x=0
 · by_cases hy:y=0
   · simp [-acells,-fin,-fin1,-fin2,-pl1,-pl2,-plain,-AV.atom,-getElem?_pos,hx,hy,hr]
   · simp [-acells,-fin,-fin1,-fin2,-pl1,-pl2,-plain,-AV.atom,-getElem?_pos,hx,hy,hr]
 · simp [-acells,-fin,-fin1,-fin2,-pl1,-pl2,-plain,-AV.atom,-getElem?_pos,hx,hr]
theorem off18 (l:List Str) (s:Str) (hl:Fits l):Pure Tryz.prog GG 18 [.sl 1 (l.map encStr) .none,.str s] (.bool (l.contains s)):=by
 refine Pure.k mixed Tryz.func18 rfl (by kernel_rfl) ?_
 generalize hr:l.contains s=r
 simp [-acells,-fin,-fin1,-fin2,-pl1,-pl2,-plain,-AV.atom,-getElem?_pos]
 refine kLoop.listR l (fun d ev σ=>ev 0=.sl 1 (l.map encStr) .none∧ev 1=.str s∧ev 5=.int .i64 d.length∧(∃ H,σ=⟨H,[]⟩)∧∀ x∈d,(x==s)=false) ?_ ?_ ?_
 · exact⟨by simp,by simp,by simp,⟨_,rfl⟩,by simp⟩
 · rintro d x rest ev σ R hR hd hx hlt ⟨h0,h1,h5,⟨H,rfl⟩,hz⟩
   have hdw:IntKind.i64.wrap ((d.length:Int)+1)=(d.length+1:Nat):=by rw [wr (by unfold Fits at hl;omega) (by unfold Fits at hl;omega)];omega
   by_cases hs:x=s
   · have:r=true:=by rw [← hr,List.contains_iff_mem,← hs];exact List.mem_of_getElem? hx
     subst this
     simp [-acells,-fin,-fin1,-fin2,-pl1,-pl2,-plain,-AV.atom,-getElem?_pos,-Int.natCast_add,h0,h1,h5,hlt,hx,hs]
   · simp [-acells,-fin,-fin1,-fin2,-pl1,-pl2,-plain,-AV.atom,-getElem?_pos,-Int.natCast_add,h0,h1,h5,hlt,hx,hs,hdw]
     exact hR _ _ ⟨by simp [h0],by simp [h1],by simp [-Int.natCast_add,hdw],⟨_,rfl⟩,hz_snoc hz (by simpa using hs)⟩
 · rintro ev σ ⟨h0,h1,h5,⟨H,rfl⟩,hz⟩
   have:r=false:=by
    rw [← hr,Bool.eq_false_iff]
    intro h
    have hm:=List.contains_iff_mem.1 h
    have:=hz s hm
    simp at this
   subst this
   simp [-acells,-fin,-fin1,-fin2,-pl1,-pl2,-plain,-AV.atom,-getElem?_pos,h0,h1,h5]
theorem size70 (c:Cls) (s:Str) (hl:Fits c.fields):Pure Tryz.prog GG 70 [.agg (encCls c),.str s] (.int .i64 ((fldsOf c s).getD 0)):=by
 refine Pure.k mixed Tryz.func70 rfl (by kernel_rfl) ?_
 have hr:(fldsOf c s).getD 0=((c.fields.find? fun f=>f.name==s).map Fld.size).getD 0:=rfl
 generalize (fldsOf c s).getD 0=r at hr
 simp [-acells,-fin,-fin1,-fin2,-pl1,-pl2,-plain,-AV.atom,-getElem?_pos]
 refine kLoop.listR c.fields (fun d ev σ=>ev 1=.str s∧ev 2=.ptr 0 0∧ev 5=.int .i64 d.length∧σ.H[0]?=some (.cells [.str c.name,.str c.parent,.sl 5 (c.fields.map encFld) .none,.sl 2 (c.blocks.map encBlc) .none])∧∀ f∈d,(f.name==s)=false) ?_ ?_ ?_
 · exact⟨by simp,by simp,by simp,by simp,by simp⟩
 · rintro d f rest ev σ R hR hd hx hlt ⟨h1,h2,h5,b0,hz⟩
   have hdw:IntKind.i64.wrap ((d.length:Int)+1)=(d.length+1:Nat):=by rw [wr (by unfold Fits at hl;omega) (by unfold Fits at hl;omega)];omega
   by_cases hs:f.name=s
   · have:r=f.size:=by
      rw [hr,hd,List.find?_append,List.find?_eq_none.2 (fun x hx=>by simp [hz x hx])]
      simp [hs]
     subst this
     simp [-acells,-fin,-fin1,-fin2,-pl1,-pl2,-plain,-AV.atom,-getElem?_pos,-Int.natCast_add,h1,h2,h5,b0,hlt,hx,hs]
   · simp [-acells,-fin,-fin1,-fin2,-pl1,-pl2,-plain,-AV.atom,-getElem?_pos,-Int.natCast_add,h1,h2,h5,b0,hlt,hx,hs,hdw]
     exact hR _ _ ⟨by simp [h1],by simp [h2],by simp [-Int.natCast_add,hdw],b0,hz_snoc hz (by simpa using hs)⟩
 · rintro ev σ ⟨h1,h2,h5,b0,hz⟩
   have:r=0:=by
    rw [hr,List.find?_eq_none.2 (fun x hx=>by simp [hz x hx])];rfl
   subst this
   simp [-acells,-fin,-fin1,-fin2,-pl1,-pl2,-plain,-AV.atom,-getElem?_pos,h1,h2,h5,b0]
set_option maxHeartbeats 16000000 in
theorem m17S (c:Cls) (hf:Fits c.fields) (h8:∀ s,(fldsOf c s).getD 0≤1000) (l:List It) (hl:l.length≤1000) (hw:∀ x∈l,Wee1 x) (env:List Signal) (he:env.length≤100000)
 (hi:∀ x∈l,∀ env':List Signal,env'.length≤env.length+1→Pure Tryz.prog GG 17 [.sl 12 (x.items.map encI) .none,.agg (encCls c),.sl 2 (env'.map encSignal) .none] (.bool (mL (fldsOf c) x.items env')) ∧
   Pure Tryz.prog GG 17 [.sl 12 (x.els.map encI) .none,.agg (encCls c),.sl 2 (env'.map encSignal) .none] (.bool (mL (fldsOf c) x.els env'))) :
 Pure Tryz.prog GG 17 [.sl 12 (l.map encI) .none,.agg (encCls c),.sl 2 (env.map encSignal) .none] (.bool (mL (fldsOf c) l env)):=by
 refine Pure.k mixed Tryz.func17 rfl (by kernel_rfl) ?_
 have hr:=mLq (fldsOf c) env l
 generalize mL (fldsOf c) l env=r at hr
 simp [-acells,-fin,-fin1,-fin2,-pl1,-pl2,-plain,-AV.atom,-getElem?_pos]
 refine kLoop.listR l (fun d ev σ=>ev 0=.sl 12 (l.map encI) .none∧ev 2=.sl 2 (env.map encSignal) .none∧ev 4=.ptr 0 0∧ev 7=.int .i64 d.length∧σ.H[0]?=some (.cells [.str c.name,.str c.parent,.sl 5 (c.fields.map encFld) .none,.sl 2 (c.blocks.map encBlc) .none])∧∀ x∈d,mI (fldsOf c) x env=true) ?_ ?_ ?_
 · exact⟨by simp,by simp,by simp,by simp,by simp,by simp⟩
 · rintro d x rest ev ⟨H,T⟩ R hR hd hx hlt ⟨h0,h2,h4,h7,b0,hz⟩
   have hxm:=List.mem_of_getElem? hx
   have hwx:=hw x hxm
   have hdw:IntKind.i64.wrap ((d.length:Int)+1)=(d.length+1:Nat):=by rw [wr (by omega) (by omega)];omega
   have hgo:mI (fldsOf c) x env=true→∀ ev' σ',ev' 0=.sl 12 (l.map encI) .none∧ev' 2=.sl 2 (env.map encSignal) .none∧ev' 4=.ptr 0 0∧ev' 7=.int .i64 (d.length+1:Nat)∧σ'.H[0]?=some (.cells [.str c.name,.str c.parent,.sl 5 (c.fields.map encFld) .none,.sl 2 (c.blocks.map encBlc) .none])→R ev' σ':=fun hm ev' σ' hh=>by
    obtain⟨k0,k2,k4,k7,kb⟩:=hh
    exact hR _ _ ⟨k0,k2,k4,by rw [k7];simp,kb,fun y hy=>by
     rcases List.mem_append.1 hy with hy|hy
     · exact hz y hy
     · simp only [List.mem_cons,List.not_mem_nil,or_false] at hy;subst hy;exact hm⟩
   have hbad:mI (fldsOf c) x env=false→r=false:=fun hm=>by rw [hr];exact all_bad hxm hm
   have htr:=truth69 env (by unfold Fits;omega) x.expr hwx.low.wen (by have:=hgt_pre x.expr;have:=hwx.size;omega) (by have:=hwx.size;omega)
   have hmx:=mIq (fldsOf c) x env
   have b0':∀ t,(H++t)[0]?=some (.cells [.str c.name,.str c.parent,.sl 5 (c.fields.map encFld) .none,.sl 2 (c.blocks.map encBlc) .none]):=fun t=>look_app b0 t
   simp only [encE_eq x.expr] at htr
   by_cases k1:x.kind=1
   · rw [if_pos k1] at hmx
     rw [← hmx] at htr
     simp [-acells,-fin,-fin1,-fin2,-pl1,-pl2,-plain,-AV.atom,-getElem?_pos,-Int.natCast_add,h0,h2,h4,h7,b0,b0',hlt,hx,encI_eq x,encE_eq x.expr,k1]
     refine kCall.call htr (by simp) ?_
     cases hm:mI (fldsOf c) x env with
     | false=>
      rw [hbad hm]
      simp [-acells,-fin,-fin1,-fin2,-pl1,-pl2,-plain,-AV.atom,-getElem?_pos,h0,h2,h4,h7,b0,b0',hm]
     | true=>
      simp [-acells,-fin,-fin1,-fin2,-pl1,-pl2,-plain,-AV.atom,-getElem?_pos,-Int.natCast_add,h0,h2,h4,h7,b0,b0',hm,hdw]
      exact hgo hm _ _ ⟨by simp [h0],by simp [h2],by simp [h4],by simp [-Int.natCast_add,hdw],b0' _⟩
   by_cases k4:x.kind=4
   · rw [if_neg k1,if_pos k4] at hmx
     obtain⟨q1,q2⟩:=hi x hxm env (by omega)
     simp only [encCls] at q1 q2
     simp [-acells,-fin,-fin1,-fin2,-pl1,-pl2,-plain,-AV.atom,-getElem?_pos,-Int.natCast_add,h0,h2,h4,h7,b0,b0',hlt,hx,encI_eq x,encE_eq x.expr,k4]
     refine kCall.call htr (by simp) ?_
     cases ht:tS env x.expr with
     | true=>
      rw [if_pos ht] at hmx
      rw [← hmx] at q1
      rw [ht] at htr
      simp [-acells,-fin,-fin1,-fin2,-pl1,-pl2,-plain,-AV.atom,-getElem?_pos,-Int.natCast_add,h0,h2,h4,h7,b0,b0']
      refine kCall.call q1 (by simp) ?_
      cases hm:mI (fldsOf c) x env with
      | false=>
       rw [hbad hm]
       simp [-acells,-fin,-fin1,-fin2,-pl1,-pl2,-plain,-AV.atom,-getElem?_pos,h0,h2,h4,h7,b0,b0']
      | true=>
       simp [-acells,-fin,-fin1,-fin2,-pl1,-pl2,-plain,-AV.atom,-getElem?_pos,-Int.natCast_add,h0,h2,h4,h7,b0,b0']
       refine kCall.call htr (by simp) ?_
       simp [-acells,-fin,-fin1,-fin2,-pl1,-pl2,-plain,-AV.atom,-getElem?_pos,-Int.natCast_add,h0,h2,h4,h7,b0,b0',hdw]
       exact hgo hm _ _ ⟨by simp [h0],by simp [h2],by simp [h4],by simp [-Int.natCast_add,hdw],b0' _⟩
     | false=>
      rw [if_neg (by simp [ht])] at hmx
      rw [← hmx] at q2
      rw [ht] at htr
      simp [-acells,-fin,-fin1,-fin2,-pl1,-pl2,-plain,-AV.atom,-getElem?_pos,-Int.natCast_add,h0,h2,h4,h7,b0,b0']
      refine kCall.call htr (by simp) ?_
      simp [-acells,-fin,-fin1,-fin2,-pl1,-pl2,-plain,-AV.atom,-getElem?_pos,-Int.natCast_add,h0,h2,h4,h7,b0,b0']
      refine kCall.call q2 (by simp) ?_
      cases hm:mI (fldsOf c) x env with
      | false=>
       rw [hbad hm]
       simp [-acells,-fin,-fin1,-fin2,-pl1,-pl2,-plain,-AV.atom,-getElem?_pos,h0,h2,h4,h7,b0,b0']
      | true=>
       simp [-acells,-fin,-fin1,-fin2,-pl1,-pl2,-plain,-AV.atom,-getElem?_pos,-Int.natCast_add,h0,h2,h4,h7,b0,b0',hdw]
       exact hgo hm _ _ ⟨by simp [h0],by simp [h2],by simp [h4],by simp [-Int.natCast_add,hdw],b0' _⟩
   by_cases k5:x.kind=5
   · rw [if_neg k1,if_neg k4,if_pos k5] at hmx
     have hsz:=size70 c x.name hf
     have hN8:=h8 x.name
     simp only [encCls] at hsz
     generalize (fldsOf c x.name).getD 0=N at *
     obtain⟨m,hm⟩:∃ m:Nat,m=N.toNat:=⟨_,rfl⟩
     rw [← hm] at hmx
     have hlk:∀ k:Nat,((k:Int)<N)↔k<m:=fun k=>by omega
     simp [-acells,-fin,-fin1,-fin2,-pl1,-pl2,-plain,-AV.atom,-getElem?_pos,-Int.natCast_add,h0,h2,h4,h7,b0,b0',hlt,hx,encI_eq x,encE_eq x.expr,k5]
     refine kLoop.count m (fun k ev σ=>ev 0=.sl 12 (l.map encI) .none∧ev 2=.sl 2 (env.map encSignal) .none∧ev 4=.ptr 0 0∧ev 7=.int .i64 d.length∧ev 8=.ptr H.length 0∧ev 9=.int .i64 k∧σ.H[0]?=some (.cells [.str c.name,.str c.parent,.sl 5 (c.fields.map encFld) .none,.sl 2 (c.blocks.map encBlc) .none])∧σ.H[H.length]?=some (.cells [.int .i64 x.kind,.int .i64 x.expr.op,.int .i64 x.expr.n,.str x.expr.name,.sl 4 (x.expr.args.map encE) .none,.str x.name,.str x.index,.sl 4 (x.ws.map encWeight) .none,.sl 12 (x.items.map encI) .none,.sl 12 (x.els.map encI) .none,.sl 1 (x.before.map encStr) .none,.sl 1 (x.after.map encStr) .none])∧∀ j:Nat,j<k→mL (fldsOf c) x.items (⟨x.index,(j:Int)⟩::env)=true) ?_ ?_ ?_
     · exact⟨by simp [h0],by simp [h2],by simp [h4],by simp [h7],by simp,by simp,b0' _,by simp [k5],by omega⟩
     · clear h0 h2 h4 h7 b0
       rintro k ev ⟨H1,T1⟩ hkm ⟨h0,h2,h4,h7,h8,h9,b0,bx,hz5⟩
       have hkN:(k:Int)<N:=(hlk k).2 hkm
       have hkw:IntKind.i64.wrap ((k:Int)+1)=(k+1:Nat):=by rw [wr (by omega) (by omega)];omega
       obtain⟨q1,q2⟩:=hi x hxm (⟨x.index,(k:Int)⟩::env) (by simp)
       have ap1:∀ H,appendA (Dof Tryz.prog) ⟨H,T1⟩ 25 (.sl 0 [] .nil) (.sl 2 [[.str x.index,.int .i64 k]] .tight)=some (outC 2 encSignal T1.length [⟨x.index,(k:Int)⟩],⟨H,outCT T1 [(⟨x.index,(k:Int)⟩:Signal)]⟩):=fun H=>
        append_outC (sz:=2) (T:=T1) (en:=encSignal) (s:=[]) (m:=[⟨x.index,(k:Int)⟩]) D25 rfl D107 rfl (by omega) rfl (by decide) (by simp) 2 (.inl rfl)
       have ap2:∀ H,appendA (Dof Tryz.prog) ⟨H,outCT T1 [(⟨x.index,(k:Int)⟩:Signal)]⟩ 25 (outC 2 encSignal T1.length [⟨x.index,(k:Int)⟩]) (.sl 2 (env.map encSignal) .none)=some (outC 2 encSignal T1.length (⟨x.index,(k:Int)⟩::env),⟨H,outCT T1 ((⟨x.index,(k:Int)⟩:Signal)::env)⟩):=fun H=>
        append_outC (sz:=2) (T:=T1) (en:=encSignal) (s:=[⟨x.index,(k:Int)⟩]) (m:=env) D25 rfl D107 rfl (by omega) rfl (by decide) (by simp;omega) 2 (.inl rfl)
       simp only [encCls] at q1
       have hq1:=leq_outR (sz:=2) (en:=encSignal) (s:=⟨x.index,(k:Int)⟩::env)
       simp only [List.map_cons,encSignal] at hq1
       generalize hm2:mL (fldsOf c) x.items (⟨x.index,(k:Int)⟩::env)=b at q1
       generalize outCT T1 ((⟨x.index,(k:Int)⟩:Signal)::env)=T2 at ap2
       generalize outCT T1 [(⟨x.index,(k:Int)⟩:Signal)]=T3 at ap1 ap2
       generalize hO3:outC 2 encSignal T1.length [(⟨x.index,(k:Int)⟩:Signal)]=O3 at ap1 ap2
       simp [-acells,-fin,-fin1,-fin2,-pl1,-pl2,-plain,-AV.atom,-getElem?_pos,-Int.natCast_add,h0,h2,h4,h7,h8,h9,b0,bx]
       refine kCall.call hsz (by simp) ?_
       simp [-acells,-fin,-fin1,-fin2,-pl1,-pl2,-plain,-AV.atom,-getElem?_pos,-Int.natCast_add,h0,h2,h4,h7,h8,h9,b0,bx,hkN,ap1,ap2]
       refine kCall.pure q1 (by simp only [List.map_cons,List.map_nil,plain_outC];simp [noRef_outR]) (by simp only [List.map_cons,List.map_nil,plain_outC];simp [LeqL,Leq,hq1]) ?_
       cases b with
       | false=>
        have:r=false:=hbad (by rw [hmx];exact all_bad (List.mem_range.2 hkm) hm2)
        subst this
        simp [-acells,-fin,-fin1,-fin2,-pl1,-pl2,-plain,-AV.atom,-getElem?_pos]
       | true=>
        simp [-acells,-fin,-fin1,-fin2,-pl1,-pl2,-plain,-AV.atom,-getElem?_pos,-Int.natCast_add,h0,h2,h4,h7,h8,h9,b0,bx,hkN,hkw]
        intro j hj
        rcases Nat.lt_succ_iff_lt_or_eq.1 hj with hj|rfl
        · exact hz5 j hj
        · exact hm2
     · clear h0 h2 h4 h7 b0
       rintro ev ⟨H1,T1⟩ ⟨h0,h2,h4,h7,h8,h9,b0,bx,hz5⟩
       have hkN:¬ (m:Int)<N:=fun h=>by have:=(hlk m).1 h;omega
       have hmt:mI (fldsOf c) x env=true:=by
        rw [hmx,List.all_eq_true]
        exact fun j hj=>hz5 j (List.mem_range.1 hj)
       simp [-acells,-fin,-fin1,-fin2,-pl1,-pl2,-plain,-AV.atom,-getElem?_pos,-Int.natCast_add,h0,h2,h4,h7,h8,h9,b0,bx]
       refine kCall.call hsz (by simp) ?_
       simp [-acells,-fin,-fin1,-fin2,-pl1,-pl2,-plain,-AV.atom,-getElem?_pos,-Int.natCast_add,h0,h2,h4,h7,h8,h9,b0,bx,hkN,hdw]
       exact hgo hmt _ _ ⟨by simp [h0],by simp [h2],by simp [h4],by simp [-Int.natCast_add,hdw],b0⟩
   rw [if_neg k1,if_neg k4,if_neg k5] at hmx
   simp [-acells,-fin,-fin1,-fin2,-pl1,-pl2,-plain,-AV.atom,-getElem?_pos,-Int.natCast_add,h0,h2,h4,h7,b0,b0',hlt,hx,encI_eq x,encE_eq x.expr,k1,k4,k5,hdw]
   exact hgo hmx _ _ ⟨by simp [h0],by simp [h2],by simp [h4],by simp [-Int.natCast_add,hdw],b0' _⟩
 · rintro ev σ ⟨h0,h2,h4,h7,b0,hz⟩
   have:r=true:=by rw [hr];exact List.all_eq_true.2 hz
   subst this
   simp [-acells,-fin,-fin1,-fin2,-pl1,-pl2,-plain,-AV.atom,-getElem?_pos,h0,h2,h4,h7,b0]
end Go.Proofs.YtpgcmnabljandaaGreatDoor
end
