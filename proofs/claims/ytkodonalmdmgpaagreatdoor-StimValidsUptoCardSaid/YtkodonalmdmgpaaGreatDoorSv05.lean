import Derived.Test.YtkodonalmdmgpaaGreatDoorSv04
set_option linter.all false
set_option linter.defProp false
section
namespace Go.Abs
open Go Go.RowKit
/-! ### Values handed over -/
def pl1:AV→AV
 | .sl sz rows (.chain _ _)=>.sl sz rows .none
 | v=>v
def pl2:AV→AV
 | .agg c=>.agg (c.map pl1)
 | v=>pl1 v
/-- A value as it is handed to a callee: a slice's free end stays behind. -/
def plain:AV→AV
 | .tup c=>.tup (c.map pl2)
 | v=>pl2 v
def chunk (sz:Nat):Nat→List AV→List (List AV)
 | 0,_=>[]
 | n+1,c=>c.take sz::chunk sz n (c.drop sz)
def fin1 (H:List Blk):AV→AV
 | .ms b off len sz=>match H[b]? with
  | some (.cells c)=>if off+len*sz≤c.length then .sl sz (chunk sz len (c.drop off)) .none else .any
  | _=>.any
 | v=>pl1 v
def fin2 (H:List Blk):AV→AV
 | .agg c=>.agg (c.map (fin1 H))
 | v=>fin1 H v
/-- A value as it is handed back. -/
def fin (H:List Blk):AV→AV
 | .tup c=>.tup (c.map (fin2 H))
 | v=>fin2 H v
theorem pl1_rel {K:Kn} {v:Value}:∀ {a:AV},VRel K a v→VRel K (pl1 a) v:=by
 intro a h
 unfold pl1
 split
 · rename_i sz rows t k
   simp only [VRel] at h ⊢
   rcases h with ⟨_,_,h⟩|⟨B,off,cap,h1,h2,h3,_⟩
   · exact h.elim
   · exact .inr ⟨B,off,cap,h1,h2,h3,trivial⟩
 · exact h
theorem VRels.mapRel {K K':Kn} {f:AV→AV} (hf:∀ a v,VRel K a v→VRel K' (f a) v):∀ (l:List AV) {vs:List Value},VRels K l vs→VRels K' (l.map f) vs
 | [],_,h=>by simpa [VRels] using h
 | a::r,_,h=>by
  simp only [VRels,List.map_cons] at h ⊢
  obtain⟨v,vr,h1,h2,h3⟩:=h
  exact⟨v,vr,h1,hf a v h2,VRels.mapRel hf r h3⟩
theorem pl2_rel {K:Kn} {v:Value}:∀ {a:AV},VRel K a v→VRel K (pl2 a) v:=by
 intro a h
 unfold pl2
 split
 · simp only [VRel] at h ⊢
   obtain⟨vs,h1,h2⟩:=h
   exact⟨vs,h1,VRels.mapRel (fun _ _=>pl1_rel) _ h2⟩
 · exact pl1_rel h
theorem plain_rel {K:Kn} {v:Value}:∀ {a:AV},VRel K a v→VRel K (plain a) v:=by
 intro a h
 unfold plain
 split
 · simp only [VRel] at h ⊢
   obtain⟨vs,h1,h2⟩:=h
   exact⟨vs,h1,VRels.mapRel (fun _ _=>pl2_rel) _ h2⟩
 · exact pl2_rel h
theorem chunk_spec (sz:Nat):∀ (n:Nat) (c:List AV),n*sz≤c.length→(chunk sz n c).length=n∧∀ (i:Nat) (r:List AV),(chunk sz n c)[i]?=some r→r=(c.drop (i*sz)).take sz∧i<n
 | 0,c,_=>⟨rfl,by simp [chunk]⟩
 | n+1,c,h=>by
  rw [Nat.add_mul] at h
  obtain⟨h1,h2⟩:=chunk_spec sz n (c.drop sz) (by simp;omega)
  refine⟨by simp [chunk,h1],fun i r e=>?_⟩
  cases i with
  | zero=>simp [chunk] at e;subst e;simp
  | succ i=>
   simp only [chunk,List.getElem?_cons_succ] at e
   obtain⟨h3,h4⟩:=h2 i r e
   refine⟨?_,by omega⟩
   rw [h3,List.drop_drop,Nat.add_mul,Nat.one_mul,Nat.add_comm sz]
section
variable {P:Program} {G:Nat→AV} {w0:World} {ro0:Nat→Nat→Option Value} {K:Kn} {σ:St} {w w':World}
open Classical in
/-- At the end all that is new is read-only. -/
noncomputable def roEnd (w0 w:World) (ro:Nat→Nat→Option Value):Nat→Nat→Option Value :=
 fun b o=>match ro b o with
  | some v=>some v
  | none=>if w0.heap.size≤b then w.cell? ⟨b,o,none⟩ else none
theorem roEnd_le (w0 w:World) (ro:Nat→Nat→Option Value) (b o:Nat) (v:Value) (h:ro b o=some v):roEnd w0 w ro b o=some v:=by simp [roEnd,h]
theorem Kn.le_end (K:Kn) (w0 w:World):K.le { K with ro:=roEnd w0 w K.ro } :=
 ⟨fun b o v e=>roEnd_le w0 w K.ro b o v e,fun _ _ e=>e,Nat.le_refl _,fun t C _ e=>⟨C,e,.inl rfl⟩,fun _ _ _=>rfl,fun _ _ e=>e,fun _ _ e=>e⟩
theorem WRel.end_ro (h:WRel G w0 ro0 K σ w):(∀ b o v,roEnd w0 w K.ro b o=some v→w.cell? ⟨b,o,none⟩=some v)∧(∀ b o v,roEnd w0 w K.ro b o=some v→b<w0.heap.size→ro0 b o=some v):=by
 constructor
 · intro b o v e
   simp only [roEnd] at e
   split at e
   · rename_i u hu;cases e;exact h.ro _ _ _ hu
   · split at e
     · exact e
     · cases e
 · intro b o v e hb
   simp only [roEnd] at e
   split at e
   · rename_i u hu;cases e;exact h.new _ _ _ hu hb
   · rw [if_neg (by omega)] at e;cases e
theorem fin1_rel (h:WRel G w0 ro0 K σ w) {a:AV} {v:Value} (ha:VRel K a v):VRel { K with ro:=roEnd w0 w K.ro } (fin1 σ.H a) v:=by
 have hle:=Kn.le_end K w0 w
 unfold fin1
 split
 · rename_i b off len sz
   split
   · rename_i c hb
     split
     · rename_i hl
       simp only [VRel] at ha ⊢
       obtain⟨B,cap,hm,rfl,h1,h2⟩:=ha
       obtain⟨B',g1,g2,g3,⟨cs,el,g4,g5,g6,g7⟩,g8⟩:=h.blk b _ hb
       rw [hm] at g1;cases g1
       obtain⟨k1,k2⟩:=chunk_spec sz len (c.drop off) (by simp;omega)
       refine .inr ⟨B,off,cap,by rw [k1],by rw [k1];exact h1,RowsAt.intro B sz _ off fun i r e=>?_,trivial⟩
       obtain⟨e1,e2⟩:=k2 i r e
       have hmul:(i+1)*sz≤len*sz:=Nat.mul_le_mul_right _ (by omega)
       rw [Nat.add_mul,Nat.one_mul] at hmul
       refine⟨by rw [e1];simp;omega,?_,CellsAt.intro B r _ fun j x ex=>?_⟩
       · rw [List.all_eq_true] at g5 ⊢
         intro x hx
         rw [e1] at hx
         exact g5 x (List.mem_of_mem_drop (List.mem_of_mem_drop (List.mem_of_mem_take hx)))
       · rw [e1,List.getElem?_take] at ex
         split at ex
         · rw [List.getElem?_drop,List.getElem?_drop] at ex
           obtain⟨u,u1,u2⟩:=g7 _ _ ex
           refine⟨u,?_,u2.mono hle⟩
           show roEnd w0 w K.ro B (off+i*sz+j)=some u
           simp only [roEnd,g8]
           rw [if_pos g2]
           simp only [World.cell?,g4]
           simpa [Nat.add_assoc] using u1
         · cases ex
     · simp [VRel]
   · simp [VRel]
 · exact (pl1_rel ha).mono hle
theorem fin2_rel (h:WRel G w0 ro0 K σ w) {a:AV} {v:Value} (ha:VRel K a v):VRel { K with ro:=roEnd w0 w K.ro } (fin2 σ.H a) v:=by
 unfold fin2
 split
 · simp only [VRel] at ha ⊢
   obtain⟨vs,h1,h2⟩:=ha
   exact⟨vs,h1,VRels.mapRel (fun _ _=>fin1_rel h) _ h2⟩
 · exact fin1_rel h ha
theorem fin_rel (h:WRel G w0 ro0 K σ w) {a:AV} {v:Value} (ha:VRel K a v):VRel { K with ro:=roEnd w0 w K.ro } (fin σ.H a) v:=by
 unfold fin
 split
 · simp only [VRel] at ha ⊢
   obtain⟨vs,h1,h2⟩:=ha
   exact⟨vs,h1,VRels.mapRel (fun _ _=>fin2_rel h) _ h2⟩
 · exact fin2_rel h ha
end
/-! ### Contracts -/
/-- A function with a body. -/
def bodied (P : Program) (g : FuncId) : Bool := P.funcs[g]?.any (fun fn => fn.body.isSome && fn.name != "runtime.NumGoroutine")
/-- Called with values that 'args' stand for, function f returns a value that 'r' stands for; nothing that was there has changed. -/
def Pure (P:Program) (G:Nat→AV) (f:FuncId) (args:List AV) (r:AV):Prop :=
 bodied P f=true∧∀ (w0:World) (ro:Nat→Nat→Option Value) (vs:Array Value),(∀ g,VRel (K0 ro) (G g) (.pointer (some ⟨g,0,none⟩)))→(∀ b o v,ro b o=some v→w0.cell? ⟨b,o,none⟩=some v)→VRels (K0 ro) args vs.toList →
  Calls P f vs w0 fun e w'=>∃ v ro',e=.returned v∧Below w0.heap.size w0 w'∧(∀ b o v,ro b o=some v→ro' b o=some v)∧(∀ b o v,ro' b o=some v→w'.cell? ⟨b,o,none⟩=some v) ∧
   (∀ b o v,ro' b o=some v→b<w0.heap.size→ro b o=some v)∧VRel (K0 ro') r v
/-- What a range over a function leaves among the deferred calls. -/
def mark (D:Nat):Deferred:={ target:=.collected D,args:=#[] }
/-- The deferred calls have grown by marks alone. -/
def Dfr (K:Kn) (ds:List Deferred) (K':Kn) (ds':List Deferred):Prop :=
 ∃ Ds:List Nat,Ds.Nodup∧ds'=Ds.map mark++ds∧∀ D∈Ds,K.fx D=none∧K'.fx D=some (.deferred (some []))
theorem Dfr.same {K K':Kn} {ds ds':List Deferred} (h:ds'=ds):Dfr K ds K' ds':=⟨[],List.nodup_nil,by simp [h],by simp⟩
theorem Dfr.trans {K K1 K2:Kn} {ds ds1 ds2:List Deferred} (h1:K.le K1) (h2:K1.le K2) (a:Dfr K ds K1 ds1) (b:Dfr K1 ds1 K2 ds2):Dfr K ds K2 ds2:=by
 obtain⟨D1,n1,e1,f1⟩:=a
 obtain⟨D2,n2,e2,f2⟩:=b
 refine⟨D2++D1,?_,by rw [e2,e1];simp,fun D hD=>?_⟩
 · refine List.nodup_append.2 ⟨n2,n1,fun x hx y hy e=>?_⟩
   subst e
   have:=(f2 x hx).1
   rw [(f1 x hy).2] at this
   cases this
 · rcases List.mem_append.1 hD with hD|hD
   · obtain⟨g1,g2⟩:=f2 D hD
     refine⟨?_,g2⟩
     cases e:K.fx D with
     | none=>rfl
     | some o=>rw [h1.fx D o e] at g1;cases g1
   · obtain⟨g1,g2⟩:=f1 D hD
     exact⟨g1,h2.fx _ _ g2⟩
theorem Dfr.less {K K1 K2:Kn} {ds ds':List Deferred} (h1:K.le K1) (b:Dfr K1 ds K2 ds'):Dfr K ds K2 ds':=by
 obtain⟨D2,n2,e2,f2⟩:=b
 refine⟨D2,n2,e2,fun D hD=>?_⟩
 obtain⟨g1,g2⟩:=f2 D hD
 refine⟨?_,g2⟩
 cases e:K.fx D with
 | none=>rfl
 | some o=>rw [h1.fx D o e] at g1;cases g1
/-- The package variables, and what a panic may leave. -/
structure Glo where
 g:Nat→AV
 X:List PanicEntry→St→Prop
instance:Coe Glo (Nat→AV):=⟨Glo.g⟩
def Glo.NoX (G:Glo):Prop:=∀ c σ,¬ G.X c σ
/-- No panic goes out. -/
abbrev quiet (g:Nat→AV):Glo:=⟨g,fun _ _=>False⟩
instance:Coe (Nat→AV) Glo:=⟨quiet⟩
theorem quiet_noX (g:Nat→AV):(quiet g).NoX:=fun _ _ h=>h
@[simp] theorem quiet_g (g:Nat→AV):(quiet g).g=g:=rfl
@[simp] theorem noX_simp (g:Nat→AV):(quiet g).NoX=True:=eq_true (quiet_noX g)
/-- A panic that goes out. -/
def Out (G:Glo) (w0:World) (ro0:Nat→Nat→Option Value) (K:Kn) (ds:List Deferred) (e:Exit) (a:Act) (w:World):Prop :=
 ∃ c K' σ,e=.panic c∧K.le K'∧WRel G w0 ro0 K' σ w∧Dfr K ds K' a.defers∧G.X c σ
/-- Where code may end. -/
def APost (G:Glo) (w0:World) (ro0:Nat→Nat→Option Value) (K:Kn) (N:Nat) (ds:List Deferred) (Q:Exit→Env→St→Prop):Exit→Act→World→Prop :=
 fun e a w=>(∃ K' env σ,K.le K'∧WRel G w0 ro0 K' σ w∧ERel K' N env a∧Dfr K ds K' a.defers∧Q e env σ)∨Out G w0 ro0 K ds e a w
/-- From every state that (env, σ) stands for, the code ends in one that Q holds of. -/
def AWp (P:Program) (G:Glo) (N:Nat) (c:Code) (env:Env) (σ:St) (Q:Exit→Env→St→Prop):Prop :=
 ∀ (w0:World) (ro0:Nat→Nat→Option Value) (K:Kn) (a:Act) (w:World),WRel G w0 ro0 K σ w→ERel K N env a→c.wp P (APost G w0 ro0 K N a.defers Q) a w
/-- The same of a call that shares the state. -/
def ACall (P:Program) (G:Glo) (f:FuncId) (args:List AV) (σ:St) (Q:AV→St→Prop):Prop :=
 bodied P f=true∧∀ (w0:World) (ro0:Nat→Nat→Option Value) (K:Kn) (w:World) (vs:Array Value),WRel G w0 ro0 K σ w→VRels K args vs.toList →
  Calls P f vs w fun e w'=>(∃ v' v σ' K',e=.returned v'∧K.le K'∧WRel G w0 ro0 K' σ' w'∧VRel K' v v'∧Q v σ')∨∃ c σ' K',e=.panicked c∧K.le K'∧WRel G w0 ro0 K' σ' w'∧G.X c σ'
section
variable {P:Program} {G:Glo} {N:Nat} {env:Env} {σ:St} {Q:Exit→Env→St→Prop}
theorem APost.mono {w0:World} {ro0:Nat→Nat→Option Value} {K:Kn} {ds:List Deferred} {Q':Exit→Env→St→Prop} {e:Exit} {a:Act} {w:World} (h:APost G w0 ro0 K N ds Q e a w) (hq:∀ e env σ,Q e env σ→Q' e env σ):APost G w0 ro0 K N ds Q' e a w:=by
 rcases h with ⟨K',env',σ',h1,h2,h3,hd,h4⟩|h
 · exact .inl ⟨K',env',σ',h1,h2,h3,hd,hq _ _ _ h4⟩
 · exact .inr h
theorem AWp.mono {c:Code} {Q':Exit→Env→St→Prop} (h:AWp P G N c env σ Q) (hq:∀ e env σ,Q e env σ→Q' e env σ):AWp P G N c env σ Q' :=
 fun w0 ro0 K a w hw he=>wp_mono (h w0 ro0 K a w hw he) fun e a w x=>x.mono hq
theorem AWp.skip (h:Q .normal env σ):AWp P G N .skip env σ Q:=fun w0 ro0 K a w hw he=>wp_skip (.inl ⟨K,env,σ,Kn.le_refl K,hw,he,.same rfl,h⟩)
theorem AWp.ret (h:Q .ret env σ):AWp P G N .ret env σ Q:=fun w0 ro0 K a w hw he=>wp_ret (.inl ⟨K,env,σ,Kn.le_refl K,hw,he,.same rfl,h⟩)
theorem AWp.exit {id:Nat} (h:Q (.exit id) env σ):AWp P G N (.exit id) env σ Q:=fun w0 ro0 K a w hw he=>wp_exit (.inl ⟨K,env,σ,Kn.le_refl K,hw,he,.same rfl,h⟩)
/-- What follows, and where the first part may end otherwise. -/
def aThen (next:Env→St→Prop) (Q:Exit→Env→St→Prop):Exit→Env→St→Prop
 | .normal,env,σ=>next env σ
 | e,env,σ=>Q e env σ
theorem APost.weaken {w0:World} {ro0:Nat→Nat→Option Value} {K K':Kn} (hle:K.le K') {ds:List Deferred} {e:Exit} {a:Act} {w:World} (h:APost G w0 ro0 K' N ds Q e a w):APost G w0 ro0 K N ds Q e a w:=by
 rcases h with ⟨K1,env',σ',h1,h2,h3,hd,h4⟩|⟨c,K1,σ',e,h1,h2,hd,h4⟩
 · exact .inl ⟨K1,env',σ',Kn.le_trans hle h1,h2,h3,hd.less hle,h4⟩
 · exact .inr ⟨c,K1,σ',e,Kn.le_trans hle h1,h2,hd.less hle,h4⟩
theorem APost.after {w0:World} {ro0:Nat→Nat→Option Value} {K K':Kn} (hle:K.le K') {ds ds':List Deferred} (hd:Dfr K ds K' ds') {e:Exit} {a:Act} {w:World} (h:APost G w0 ro0 K' N ds' Q e a w):APost G w0 ro0 K N ds Q e a w:=by
 rcases h with ⟨K1,env',σ',h1,h2,h3,hd',h4⟩|⟨c,K1,σ',e,h1,h2,hd',h4⟩
 · exact .inl ⟨K1,env',σ',Kn.le_trans hle h1,h2,h3,hd.trans hle h1 hd',h4⟩
 · exact .inr ⟨c,K1,σ',e,Kn.le_trans hle h1,h2,hd.trans hle h1 hd',h4⟩
theorem AWp.seq {x y:Code} (h:AWp P G N x env σ (aThen (fun env σ=>AWp P G N y env σ Q) Q)):AWp P G N (.seq x y) env σ Q:=by
 intro w0 ro0 K a w hw he
 refine wp_seq (wp_mono (h w0 ro0 K a w hw he) ?_)
 intro e a' w' hp
 rcases hp with ⟨K',env',σ',h1,h2,h3,hd,h4⟩|⟨c,K',σ',rfl,hp⟩
 case inr=>exact .inr ⟨c,K',σ',rfl,hp⟩
 cases e with
 | normal=>exact wp_mono (h4 w0 ro0 K' a' w' h2 h3) fun e a w x=>x.after h1 hd
 | exit id=>exact .inl ⟨K',env',σ',h1,h2,h3,hd,h4⟩
 | goto l=>exact .inl ⟨K',env',σ',h1,h2,h3,hd,h4⟩
 | ret=>exact .inl ⟨K',env',σ',h1,h2,h3,hd,h4⟩
 | panic c=>exact .inl ⟨K',env',σ',h1,h2,h3,hd,h4⟩
 | outgrown=>exact .inl ⟨K',env',σ',h1,h2,h3,hd,h4⟩
theorem AWp.cond {c:Operand} {x y:Code} {b:Bool} (hc:ev G env c=.bool b) (ht:b=true→AWp P G N x env σ Q) (hf:b=false→AWp P G N y env σ Q):AWp P G N (.cond c x y) env σ Q:=by
 intro w0 ro0 K a w hw he
 have:=ev_rel hw he c
 rw [hc] at this
 simp only [VRel] at this
 exact wp_cond_split this (fun e=>ht e w0 ro0 K a w hw he) (fun e=>hf e w0 ro0 K a w hw he)
def aBlock (id:Nat) (Q:Exit→Env→St→Prop):Exit→Env→St→Prop
 | .exit id',env,σ=>if id'=id then Q .normal env σ else Q (.exit id') env σ
 | e,env,σ=>Q e env σ
theorem AWp.block {id:Nat} {c:Code} (h:AWp P G N c env σ (aBlock id Q)):AWp P G N (.block id c) env σ Q:=by
 intro w0 ro0 K a w hw he
 refine wp_block (wp_mono (h w0 ro0 K a w hw he) ?_)
 intro e a' w' hp
 rcases hp with ⟨K',env',σ',h1,h2,h3,hd,h4⟩|⟨c,K',σ',rfl,hp⟩
 case inr=>exact .inr ⟨c,K',σ',rfl,hp⟩
 cases e with
 | exit id'=>
  simp only [aBlock] at h4
  simp only [Exit.inBlock]
  split
  · rename_i e;rw [if_pos e] at h4;exact .inl ⟨K',env',σ',h1,h2,h3,hd,h4⟩
  · rename_i e;rw [if_neg e] at h4;exact .inl ⟨K',env',σ',h1,h2,h3,hd,h4⟩
 | normal=>exact .inl ⟨K',env',σ',h1,h2,h3,hd,h4⟩
 | goto l=>exact .inl ⟨K',env',σ',h1,h2,h3,hd,h4⟩
 | ret=>exact .inl ⟨K',env',σ',h1,h2,h3,hd,h4⟩
 | panic c=>exact .inl ⟨K',env',σ',h1,h2,h3,hd,h4⟩
 | outgrown=>exact .inl ⟨K',env',σ',h1,h2,h3,hd,h4⟩
/-- A loop: an invariant that bears a number, which every round lowers. -/
theorem AWp.loop {c:Code} (I:Nat→Env→St→Prop) (n₀:Nat) (h₀:I n₀ env σ)
 (round:∀ n env σ,I n env σ→AWp P G N c env σ (aThen (fun env' σ'=>∃ n',n' < n∧I n' env' σ') Q)):AWp P G N (.loop c) env σ Q:=by
 intro w0 ro0 K a w hw he
 refine wp_loop_ghost (fun n X w=>∃ K' env' σ',K.le K'∧WRel G w0 ro0 K' σ' w∧ERel K' N env' X∧Dfr K a.defers K' X.defers∧I n env' σ') n₀ ⟨K,env,σ,Kn.le_refl K,hw,he,.same rfl,h₀⟩ ?_
 intro n a' w' hI
 obtain⟨K',env',σ',h1,h2,h3,hd,h4⟩:=hI
 refine wp_mono (round n env' σ' h4 w0 ro0 K' a' w' h2 h3) ?_
 intro e a2 w2 hp
 rcases hp with ⟨K2,env2,σ2,g1,g2,g3,gd,g4⟩|⟨c,K2,σ2,rfl,g1,g2,gd,g4⟩
 case inr=>exact .inr ⟨c,K2,σ2,rfl,Kn.le_trans h1 g1,g2,hd.trans h1 g1 gd,g4⟩
 have gd:=hd.trans h1 g1 gd
 cases e with
 | normal=>
  obtain⟨n',hn,hi⟩:=g4
  exact⟨n',hn,K2,env2,σ2,Kn.le_trans h1 g1,g2,g3,gd,hi⟩
 | exit id=>exact .inl ⟨K2,env2,σ2,Kn.le_trans h1 g1,g2,g3,gd,g4⟩
 | goto l=>exact .inl ⟨K2,env2,σ2,Kn.le_trans h1 g1,g2,g3,gd,g4⟩
 | ret=>exact .inl ⟨K2,env2,σ2,Kn.le_trans h1 g1,g2,g3,gd,g4⟩
 | panic c=>exact .inl ⟨K2,env2,σ2,Kn.le_trans h1 g1,g2,g3,gd,g4⟩
 | outgrown=>exact .inl ⟨K2,env2,σ2,Kn.le_trans h1 g1,g2,g3,gd,g4⟩
end
/-- A call that lets no panic out is one wherever panics are looked for. -/
theorem ACall.glo {P:Program} {g:Nat→AV} {X:List PanicEntry→St→Prop} {f:FuncId} {args:List AV} {σ:St} {Q:AV→St→Prop} (h:ACall P (quiet g) f args σ Q):ACall P ⟨g,X⟩ f args σ Q :=
 ⟨h.1,fun w0 ro0 K w vs hw hvs=>(h.2 w0 ro0 K w vs hw hvs).mono fun e w' h=>h.imp id fun ⟨_,_,_,_,_,_,h⟩=>h.elim⟩
end Go.Abs
end
section
namespace Go.Abs
open Go Go.RowKit
section
/-- A value as a callee sees it that changes nothing: the state's blocks are read-only rows. -/
def frz (H:List Blk):Nat→AV→AV
 | 0,v=>if noRef v then v else .any
 | n+1,v=>if noRef v then v else match v with
  | .ptr b off=>match H[b]? with
   | some (.cells c)=>.rptr ((c.drop off).map (frz H n))
   | _=>.any
  | .ms b off len sz=>match H[b]? with
   | some (.cells c)=>if off+len*sz≤c.length∧((chunk sz len (c.drop off)).map (·.map (frz H n))).all (·.all AV.atom)=true then .sl sz ((chunk sz len (c.drop off)).map (·.map (frz H n))) .none else .any
   | _=>.any
  | .rptr c=>.rptr (c.map (frz H n))
  | .sl sz rows _=>if (rows.map (·.map (frz H n))).all (·.all AV.atom)=true then .sl sz (rows.map (·.map (frz H n))) .none else .any
  | .fn f a b=>.fn f (a.map (frz H n)) (b.map (frz H n))
  | .agg c=>.agg (c.map (frz H n))
  | .tup c=>.tup (c.map (frz H n))
  | _=>.any
section
variable {P:Program} {G:Nat→AV} {w0:World} {ro0:Nat→Nat→Option Value} {K:Kn} {σ:St} {w w':World}
theorem CellsAt.mapRel {K K':Kn} (hro:∀ b o v,K.ro b o=some v→K'.ro b o=some v) {f:AV→AV} (hf:∀ a v,VRel K a v→VRel K' (f a) v):∀ (c:List AV) {B off:Nat},CellsAt K B off c→CellsAt K' B off (c.map f)
 | [],_,_,_=>by simp [CellsAt]
 | a::r,B,off,h=>by
  simp only [CellsAt,List.map_cons] at h ⊢
  obtain⟨⟨v,h1,h2⟩,h3⟩:=h
  exact⟨⟨v,hro _ _ _ h1,hf a v h2⟩,CellsAt.mapRel hro hf r h3⟩
theorem RowsAt.mapRel {K K':Kn} (hro:∀ b o v,K.ro b o=some v→K'.ro b o=some v) {f:AV→AV} (hf:∀ a v,VRel K a v→VRel K' (f a) v):∀ (c:List (List AV)) {B off sz:Nat},(c.map (·.map f)).all (·.all AV.atom)=true→RowsAt K B off sz c→RowsAt K' B off sz (c.map (·.map f))
 | [],_,_,_,_,_=>by simp [RowsAt]
 | a::r,B,off,sz,ha,h=>by
  simp only [RowsAt,List.map_cons,List.all_cons,Bool.and_eq_true] at h ha ⊢
  obtain⟨⟨h1,h2,h3⟩,h4⟩:=h
  exact⟨⟨by simpa using h1,ha.1,CellsAt.mapRel hro hf a h3⟩,RowsAt.mapRel hro hf r ha.2 h4⟩
/-- All of memory, read-only. -/
def roAll (w:World):Nat→Nat→Option Value:=fun b o=>w.cell? ⟨b,o,none⟩
theorem frz_gen (h:WRel G w0 ro0 K σ w) {ro':Nat→Nat→Option Value} (hro:∀ b o v,K.ro b o=some v→ro' b o=some v) (hnew:∀ B o v,w0.heap.size≤B→K.ro B o=none→w.cell? ⟨B,o,none⟩=some v→ro' B o=some v) :
 ∀ (n:Nat) {a:AV} {v:Value},VRel K a v→VRel (K0 ro') (frz σ.H n a) v:=by
 have base:∀ {a:AV} {v:Value},noRef a=true→VRel K a v→VRel (K0 ro') a v:=fun hn hv=>(VRel.toK0 _ hn hv).mono (K0_mono' hro)
 intro n
 induction n with
 | zero=>
  intro a v hv
  unfold frz
  split
  · rename_i hn;exact base hn hv
  · simp [VRel]
 | succ n ih=>
  intro a v hv
  unfold frz
  split
  · rename_i hn;exact base hn hv
  · cases a with
    | ptr b off=>
     simp only
     split
     · rename_i c hb
       simp only [VRel] at hv ⊢
       obtain⟨B,hm,rfl⟩:=hv
       obtain⟨B',g1,g2,g3,⟨cs,el,g4,g5,g6,g7⟩,g8⟩:=h.blk b _ hb
       rw [hm] at g1;cases g1
       refine⟨B,off,rfl,CellsAt.intro B _ _ fun i x e=>?_⟩
       rw [List.getElem?_map,Option.map_eq_some_iff] at e
       obtain⟨y,e1,rfl⟩:=e
       rw [List.getElem?_drop] at e1
       obtain⟨u,u1,u2⟩:=g7 _ _ e1
       refine⟨u,hnew _ _ _ g2 (g8 _) ?_,ih u2⟩
       simp only [World.cell?,g4]
       exact u1
     · simp [VRel]
    | ms b off len sz=>
     simp only
     split
     · rename_i c hb
       split
       · rename_i hl
         obtain⟨hl,hat⟩:=hl
         simp only [VRel] at hv ⊢
         obtain⟨B,cap,hm,rfl,h1,h2⟩:=hv
         obtain⟨B',g1,g2,g3,⟨cs,el,g4,g5,g6,g7⟩,g8⟩:=h.blk b _ hb
         rw [hm] at g1;cases g1
         obtain⟨k1,k2⟩:=chunk_spec sz len (c.drop off) (by simp;omega)
         refine .inr ⟨B,off,cap,by simp [k1],by simpa [k1] using h1,RowsAt.intro B sz _ off fun i r e=>?_,trivial⟩
         have hatr:=List.all_eq_true.1 hat r (List.mem_of_getElem? e)
         rw [List.getElem?_map,Option.map_eq_some_iff] at e
         obtain⟨r0,e0,rfl⟩:=e
         obtain⟨e1,e2⟩:=k2 i r0 e0
         have hmul:(i+1)*sz≤len*sz:=Nat.mul_le_mul_right _ (by omega)
         rw [Nat.add_mul,Nat.one_mul] at hmul
         refine⟨by rw [e1];simp;omega,hatr,CellsAt.intro B _ _ fun j x ex=>?_⟩
         rw [List.getElem?_map,Option.map_eq_some_iff] at ex
         obtain⟨y,ey,rfl⟩:=ex
         rw [e1,List.getElem?_take] at ey
         split at ey
         · rw [List.getElem?_drop,List.getElem?_drop] at ey
           obtain⟨u,u1,u2⟩:=g7 _ _ ey
           refine⟨u,hnew _ _ _ g2 (g8 _) ?_,ih u2⟩
           simp only [World.cell?,g4]
           simpa [Nat.add_assoc] using u1
         · cases ey
       · simp [VRel]
     · simp [VRel]
    | rptr c=>
     simp only [VRel] at hv ⊢
     obtain⟨B,off,h1,h2⟩:=hv
     exact⟨B,off,h1,CellsAt.mapRel hro (fun a v=>ih) c h2⟩
    | sl sz rows tok=>
     simp only
     split
     · rename_i hat
       simp only [VRel] at hv ⊢
       rcases hv with ⟨h1,h2,h3⟩|⟨B,off,cap,h1,h2,h3,h4⟩
       · subst h2;obtain⟨a0,h1,_⟩:=h1;exact .inl ⟨⟨a0,h1,.inr trivial⟩,rfl,trivial⟩
       · exact .inr ⟨B,off,cap,by simpa using h1,by simpa using h2,RowsAt.mapRel hro (fun a v=>ih) rows hat h3,trivial⟩
     · simp [VRel]
    | fn f a b=>
     simp only [VRel] at hv ⊢
     obtain⟨va,vb,h1,h2,h3⟩:=hv
     exact⟨va,vb,h1,VRels.mapRel (fun a v=>ih) a h2,VRels.mapRel (fun a v=>ih) b h3⟩
    | agg c=>
     simp only [VRel] at hv ⊢
     obtain⟨vs,h1,h2⟩:=hv
     exact⟨vs,h1,VRels.mapRel (fun a v=>ih) c h2⟩
    | tup c=>
     simp only [VRel] at hv ⊢
     obtain⟨vs,h1,h2⟩:=hv
     exact⟨vs,h1,VRels.mapRel (fun a v=>ih) c h2⟩
    | _=>simp [VRel]
theorem frz_rel (h:WRel G w0 ro0 K σ w) (n:Nat) {a:AV} {v:Value} (hv:VRel K a v):VRel (K0 (roAll w)) (frz σ.H n a) v :=
 frz_gen h (ro':=roAll w) (fun b o v e=>h.ro b o v e) (fun _ _ _ _ _ e=>e) n hv
theorem frz_end (h:WRel G w0 ro0 K σ w) (n:Nat) {a:AV} {v:Value} (hv:VRel K a v):VRel (K0 (roEnd w0 w K.ro)) (frz σ.H n a) v :=
 frz_gen h (ro':=roEnd w0 w K.ro) (fun b o v e=>roEnd_le _ _ _ _ _ _ e) (fun B o v hb hr e=>by simp only [roEnd,hr];rw [if_pos hb];exact e) n hv
/-- Values that refer to no memory. -/
def flat1:AV→Bool
 | .bool _ | .int .. | .str _ | .nilp | .nilm | .nilf=>true
 | .sl _ rows tok=>rows.isEmpty&&(match tok with | .chain .. =>false | _=>true)
 | _=>false
def flat:AV→Bool
 | .agg c=>c.all flat1
 | .tup c=>c.all flat1
 | v=>flat1 v
theorem flat1_rel {K K':Kn} {a:AV} {v:Value} (hf:flat1 a=true) (hs:∀ sz rows tok,a=.sl sz rows tok→v=.slice none 0 0) (h:VRel K a v):VRel K' a v:=by
 cases a<;>simp only [flat1] at hf<;>try (cases hf;done)
 case sl sz rows tok=>
  have:=hs _ _ _ rfl
  subst this
  simp only [VRel] at h ⊢
  rcases h with h|⟨B,off,cap,h1,_⟩
  · exact .inl h
  · cases h1
 all_goals simpa [VRel] using h
/-- Values that are no slices, too. -/
def bare1:AV→Bool
 | .bool _ | .int .. | .str _ | .nilp | .nilm | .nilf=>true
 | _=>false
def bare:AV→Bool
 | .agg c=>c.all bare1
 | .tup c=>c.all bare1
 | v=>bare1 v
theorem bare1_rel {K K':Kn} {a:AV} {v:Value} (hf:bare1 a=true) (h:VRel K a v):VRel K' a v:=by
 cases a<;>simp only [bare1] at hf<;>first | (cases hf;done) | simpa [VRel] using h
theorem bares_rel {K K':Kn}:∀ (l:List AV) {vs:List Value},l.all bare1=true→VRels K l vs→VRels K' l vs
 | [],_,_,h=>by simpa [VRels] using h
 | a::r,_,hf,h=>by
  simp only [VRels,List.all_cons,Bool.and_eq_true] at h hf ⊢
  obtain⟨v,vr,h1,h2,h3⟩:=h
  exact⟨v,vr,h1,bare1_rel hf.1 h2,bares_rel r hf.2 h3⟩
theorem bare_rel {K K':Kn} {a:AV} {v:Value} (hf:bare a=true) (h:VRel K a v):VRel K' a v:=by
 unfold bare at hf
 split at hf
 · simp only [VRel] at h ⊢
   obtain⟨vs,h1,h2⟩:=h
   exact⟨vs,h1,bares_rel _ hf h2⟩
 · simp only [VRel] at h ⊢
   obtain⟨vs,h1,h2⟩:=h
   exact⟨vs,h1,bares_rel _ hf h2⟩
 · exact bare1_rel hf h
/-- A call that changes nothing. -/
def PCall (P:Program) (G:Nat→AV) (g:FuncId) (args:List AV) (σ:St) (r:AV):Prop :=
 (noRefs (args.map plain)=true∧Pure P G g (args.map plain) r)∨(bare r=true∧Pure P G g (args.map (frz σ.H 8)) r)
theorem WRel.keep (hw:WRel G w0 ro0 K σ w) {ro':Nat→Nat→Option Value} (hb:Below w.heap.size w w') (h1:∀ b o v,K.ro b o=some v→ro' b o=some v) (h2:∀ b o v,ro' b o=some v→w'.cell? ⟨b,o,none⟩=some v)
 (h3:∀ b o v,ro' b o=some v→b<w.heap.size→K.ro b o=some v):K.le { K with ro:=ro' }∧WRel G w0 ro0 { K with ro:=ro' } σ w':=by
 have hle:K.le { K with ro:=ro' }:=⟨h1,fun _ _ e=>e,Nat.le_refl _,fun t C _ e=>⟨C,e,.inl rfl⟩,fun _ _ _=>rfl,fun _ _ e=>e,fun _ _ e=>e⟩
 have hsz:=hw.size_le
 refine⟨hle,hw.below.trans (hb.mono hsz),fun g=>(hw.glob g).mono (K0_mono hle),h2,fun b o v e hlt=>hw.new b o v (h3 b o v e (by omega)) hlt,?_,hw.inj,hw.mlt,?_,hw.chd,hw.chinj,hw.nch,fun i B cs el fr e1 e2=>by
  rw [hb.block B (hw.m_lt e1).1] at e2
  exact hw.bsz i B cs el fr e1 e2,fun B x e=>by
  obtain⟨g1,g2,g3,g4⟩:=hw.fx B x e
  exact⟨by rw [hb.block B (Array.getElem?_eq_some_iff.1 g1).1];exact g1,g2,g3,g4⟩,hw.rwl⟩
 · intro i b e
   obtain⟨B,a1,a2,a3,a4,a5⟩:=hw.blk i b e
   refine⟨B,a1,a2,Nat.lt_of_lt_of_le a3 hb.size,by rw [hb.block B a3];exact a4.mono hle,fun o=>?_⟩
   cases hr:ro' B o with
   | none=>exact hr
   | some u=>have:=h3 B o u hr a3;rw [a5 o] at this;cases this
 · intro t k e
   obtain⟨C,a1,a2,a3,a4,⟨cs,el,a5,a6⟩,a7,a8⟩:=hw.ch t k e
   have hlt:=(hw.ch_lt a1).1
   refine⟨C,a1,a2,a3,a4,⟨cs,el,by rw [hb.block _ hlt];exact a5,a6⟩,fun o ho=>?_,a8⟩
   cases hr:ro' C.B o with
   | none=>exact hr
   | some u=>have:=h3 C.B o u hr hlt;rw [a7 o ho] at this;cases this
theorem pcall (hw:WRel G w0 ro0 K σ w) {g:FuncId} {args:List AV} {r:AV} (hp:PCall P G g args σ r) {vs:Array Value} (hvs:VRels K args vs.toList) :
 Calls P g vs w fun e w'=>∃ v' K',e=.returned v'∧K.le K'∧WRel G w0 ro0 K' σ w'∧VRel K' r v':=by
 rcases hp with ⟨hno,hp⟩|⟨hfl,hp⟩
 · have hvs':VRels (K0 K.ro) (args.map plain) vs.toList:=VRels.toK0 _ hno (VRels.mapRel (fun _ _=>plain_rel) _ hvs)
   refine (hp.2 w K.ro vs hw.glob hw.ro hvs').mono ?_
   rintro e w' ⟨v',ro',rfl,hb,h1,h2,h3,h4⟩
   obtain⟨hle,hw'⟩:=hw.keep hb h1 h2 h3
   exact⟨v',{ K with ro:=ro' },rfl,hle,hw',h4.mono (K0_le _)⟩
 · have hvs':VRels (K0 (roAll w)) (args.map (frz σ.H 8)) vs.toList:=VRels.mapRel (fun _ _=>frz_rel hw 8) _ hvs
   have hro:∀ b o v,K.ro b o=some v→roAll w b o=some v:=hw.ro
   refine (hp.2 w (roAll w) vs (fun g=>(hw.glob g).mono (K0_mono' hro)) (fun _ _ _ e=>e) hvs').mono ?_
   rintro e w' ⟨v',ro',rfl,hb,h1,h2,h3,h4⟩
   obtain⟨hle,hw'⟩:=hw.keep (ro':=K.ro) hb (fun _ _ _ e=>e) (fun b o v e=>h2 b o v (h1 b o v (hro b o v e))) (fun _ _ _ e _=>e)
   exact⟨v',_,rfl,hle,hw',bare_rel hfl h4⟩
theorem PCall.bodied {g:FuncId} {args:List AV} {r:AV} (h:PCall P G g args σ r):bodied P g=true:=by
 rcases h with h|h
 · exact h.2.1
 · exact h.2.1
theorem PCall.acall {G:Glo} {g:FuncId} {args:List AV} {r:AV} {Q:AV→St→Prop} (h:PCall P G g args σ r) (hq:Q r σ):ACall P G g args σ Q :=
 ⟨h.bodied,fun w0 ro0 K w vs hw hvs=>(pcall hw h hvs).mono fun e w' ⟨v',K',h1,h2,h3,h4⟩=>.inl ⟨v',r,σ,K',h1,h2,h3,h4,hq⟩⟩
end
end
end Go.Abs
end
