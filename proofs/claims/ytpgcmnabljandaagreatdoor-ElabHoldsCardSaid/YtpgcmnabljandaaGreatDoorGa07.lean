/- A part of the proof: AbsCtl2 AbsCall AbsX. -/
import Derived.Test.YtpgcmnabljandaaGreatDoorGa06
set_option linter.unusedVariables false
set_option linter.unusedSimpArgs false
section
namespace Go.Abs
open Go Go.RowKit
def pl1:AV→AV
 | .sl sz rows (.chain _ _)=>.sl sz rows .none
 | v=>v
def pl2:AV→AV
 | .agg c=>.agg (c.map pl1)
 | v=>pl1 v
def plain:AV→AV
 | .tup c=>.tup (c.map pl2)
 | v=>pl2 v
def chunk (sz:Nat):Nat→List AV→List (List AV)
 | 0,_=>[]
 | n+1,c=>c.take sz::chunk sz n (c.drop sz)
def fin1 (H:List Blk):AV→AV
 | .ms b off len sz=>match H[b]? with
  | some (.cells c)=>if off+len*sz≤c.length then .sl sz (chunk sz len (c.drop off)) .none else .any
  | _=>.any
 | v=>pl1 v
def fin2 (H:List Blk):AV→AV
 | .agg c=>.agg (c.map (fin1 H))
 | v=>fin1 H v
def fin (H:List Blk):AV→AV
 | .tup c=>.tup (c.map (fin2 H))
 | v=>fin2 H v
theorem pl1_rel {K:Kn} {v:Value}:∀ {a:AV},VRel K a v→VRel K (pl1 a) v:=by
 intro a h
 unfold pl1
 split
 · rename_i sz rows t k
   simp only [VRel] at h ⊢
   rcases h with ⟨_,_,h⟩|⟨B,off,cap,h1,h2,h3,_⟩
   · exact h.elim
   · exact .inr ⟨B,off,cap,h1,h2,h3,trivial⟩
 · exact h
theorem VRels.mapRel {K K':Kn} {f:AV→AV} (hf:∀ a v,VRel K a v→VRel K' (f a) v):∀ (l:List AV) {vs:List Value},VRels K l vs→VRels K' (l.map f) vs
 | [],_,h=>by simpa [VRels] using h
 | a::r,_,h=>by
  simp only [VRels,List.map_cons] at h ⊢
  obtain⟨v,vr,h1,h2,h3⟩:=h
  exact⟨v,vr,h1,hf a v h2,VRels.mapRel hf r h3⟩
theorem pl2_rel {K:Kn} {v:Value}:∀ {a:AV},VRel K a v→VRel K (pl2 a) v:=by
 intro a h
 unfold pl2
 split
 · simp only [VRel] at h ⊢
   obtain⟨vs,h1,h2⟩:=h
   exact⟨vs,h1,VRels.mapRel (fun _ _=>pl1_rel) _ h2⟩
 · exact pl1_rel h
theorem plain_rel {K:Kn} {v:Value}:∀ {a:AV},VRel K a v→VRel K (plain a) v:=by
 intro a h
 unfold plain
 split
 · simp only [VRel] at h ⊢
   obtain⟨vs,h1,h2⟩:=h
   exact⟨vs,h1,VRels.mapRel (fun _ _=>pl2_rel) _ h2⟩
 · exact pl2_rel h
theorem chunk_spec (sz:Nat):∀ (n:Nat) (c:List AV),n*sz≤c.length→(chunk sz n c).length=n∧∀ (i:Nat) (r:List AV),(chunk sz n c)[i]?=some r→r=(c.drop (i*sz)).take sz∧i<n
 | 0,c,_=>⟨rfl,by simp [chunk]⟩
 | n+1,c,h=>by
  rw [Nat.add_mul] at h
  obtain⟨h1,h2⟩:=chunk_spec sz n (c.drop sz) (by simp;omega)
  refine⟨by simp [chunk,h1],fun i r e=>?_⟩
  cases i with
  | zero=>simp [chunk] at e;subst e;simp
  | succ i=>
   simp only [chunk,List.getElem?_cons_succ] at e
   obtain⟨h3,h4⟩:=h2 i r e
   refine⟨?_,by omega⟩
   rw [h3,List.drop_drop,Nat.add_mul,Nat.one_mul,Nat.add_comm sz]
section
variable {P:Program} {G:Nat→AV} {w0:World} {ro0:Nat→Nat→Option Value} {K:Kn} {σ:St} {w w':World}
open Classical in
noncomputable def roEnd (w0 w:World) (ro:Nat→Nat→Option Value):Nat→Nat→Option Value :=
 fun b o=>match ro b o with
  | some v=>some v
  | none=>if w0.heap.size≤b then w.cell? ⟨b,o,none⟩ else none
theorem roEnd_le (w0 w:World) (ro:Nat→Nat→Option Value) (b o:Nat) (v:Value) (h:ro b o=some v):roEnd w0 w ro b o=some v:=by simp [roEnd,h]
theorem Kn.le_end (K:Kn) (w0 w:World):K.le { K with ro:=roEnd w0 w K.ro } :=
 ⟨fun b o v e=>roEnd_le w0 w K.ro b o v e,fun _ _ e=>e,Nat.le_refl _,fun t C _ e=>⟨C,e,.inl rfl⟩,fun _ _ _=>rfl,fun _ _ e=>e,fun _ _ e=>e⟩
theorem WRel.end_ro (h:WRel G w0 ro0 K σ w):(∀ b o v,roEnd w0 w K.ro b o=some v→w.cell? ⟨b,o,none⟩=some v)∧(∀ b o v,roEnd w0 w K.ro b o=some v→b<w0.heap.size→ro0 b o=some v):=by
 constructor
 · intro b o v e
   simp only [roEnd] at e
   split at e
   · rename_i u hu;cases e;exact h.ro _ _ _ hu
   · split at e
     · exact e
     · cases e
 · intro b o v e hb
   simp only [roEnd] at e
   split at e
   · rename_i u hu;cases e;exact h.new _ _ _ hu hb
   · rw [if_neg (by omega)] at e;cases e
theorem fin1_rel (h:WRel G w0 ro0 K σ w) {a:AV} {v:Value} (ha:VRel K a v):VRel { K with ro:=roEnd w0 w K.ro } (fin1 σ.H a) v:=by
 have hle:=Kn.le_end K w0 w
 unfold fin1
 split
 · rename_i b off len sz
   split
   · rename_i c hb
     split
     · rename_i hl
       simp only [VRel] at ha ⊢
       obtain⟨B,cap,hm,rfl,h1,h2⟩:=ha
       obtain⟨B',g1,g2,g3,⟨cs,el,g4,g5,g6,g7⟩,g8⟩:=h.blk b _ hb
       rw [hm] at g1;cases g1
       obtain⟨k1,k2⟩:=chunk_spec sz len (c.drop off) (by simp;omega)
       refine .inr ⟨B,off,cap,by rw [k1],by rw [k1];exact h1,RowsAt.intro B sz _ off fun i r e=>?_,trivial⟩
       obtain⟨e1,e2⟩:=k2 i r e
       have hmul:(i+1)*sz≤len*sz:=Nat.mul_le_mul_right _ (by omega)
       rw [Nat.add_mul,Nat.one_mul] at hmul
       refine⟨by rw [e1];simp;omega,?_,CellsAt.intro B r _ fun j x ex=>?_⟩
       · rw [List.all_eq_true] at g5 ⊢
         intro x hx
         rw [e1] at hx
         exact g5 x (List.mem_of_mem_drop (List.mem_of_mem_drop (List.mem_of_mem_take hx)))
       · rw [e1,List.getElem?_take] at ex
         split at ex
         · rw [List.getElem?_drop,List.getElem?_drop] at ex
           obtain⟨u,u1,u2⟩:=g7 _ _ ex
           refine⟨u,?_,u2.mono hle⟩
           show roEnd w0 w K.ro B (off+i*sz+j)=some u
           simp only [roEnd,g8]
           rw [if_pos g2]
           simp only [World.cell?,g4]
           simpa [Nat.add_assoc] using u1
         · cases ex
     · simp [VRel]
   · simp [VRel]
 · exact (pl1_rel ha).mono hle
theorem fin2_rel (h:WRel G w0 ro0 K σ w) {a:AV} {v:Value} (ha:VRel K a v):VRel { K with ro:=roEnd w0 w K.ro } (fin2 σ.H a) v:=by
 unfold fin2
 split
 · simp only [VRel] at ha ⊢
   obtain⟨vs,h1,h2⟩:=ha
   exact⟨vs,h1,VRels.mapRel (fun _ _=>fin1_rel h) _ h2⟩
 · exact fin1_rel h ha
theorem fin_rel (h:WRel G w0 ro0 K σ w) {a:AV} {v:Value} (ha:VRel K a v):VRel { K with ro:=roEnd w0 w K.ro } (fin σ.H a) v:=by
 unfold fin
 split
 · simp only [VRel] at ha ⊢
   obtain⟨vs,h1,h2⟩:=ha
   exact⟨vs,h1,VRels.mapRel (fun _ _=>fin2_rel h) _ h2⟩
 · exact fin2_rel h ha
end
def bodied (P : Program) (g : FuncId) : Bool := P.funcs[g]?.any (fun fn => fn.body.isSome && fn.name != "runtime.NumGoroutine")
def Pure (P:Program) (G:Nat→AV) (f:FuncId) (args:List AV) (r:AV):Prop :=
 bodied P f=true∧∀ (w0:World) (ro:Nat→Nat→Option Value) (vs:Array Value),(∀ g,VRel (K0 ro) (G g) (.pointer (some ⟨g,0,none⟩)))→(∀ b o v,ro b o=some v→w0.cell? ⟨b,o,none⟩=some v)→VRels (K0 ro) args vs.toList →
  Calls P f vs w0 fun e w'=>∃ v ro',e=.returned v∧Below w0.heap.size w0 w'∧(∀ b o v,ro b o=some v→ro' b o=some v)∧(∀ b o v,ro' b o=some v→w'.cell? ⟨b,o,none⟩=some v) ∧
   (∀ b o v,ro' b o=some v→b<w0.heap.size→ro b o=some v)∧VRel (K0 ro') r v
def mark (D:Nat):Deferred:={ target:=.collected D,args:=#[] }
def Dfr (K:Kn) (ds:List Deferred) (K':Kn) (ds':List Deferred):Prop :=
 ∃ Ds:List Nat,Ds.Nodup∧ds'=Ds.map mark++ds∧∀ D∈Ds,K.fx D=none∧K'.fx D=some (.deferred (some []))
theorem Dfr.same {K K':Kn} {ds ds':List Deferred} (h:ds'=ds):Dfr K ds K' ds':=⟨[],List.nodup_nil,by simp [h],by simp⟩
theorem Dfr.trans {K K1 K2:Kn} {ds ds1 ds2:List Deferred} (h1:K.le K1) (h2:K1.le K2) (a:Dfr K ds K1 ds1) (b:Dfr K1 ds1 K2 ds2):Dfr K ds K2 ds2:=by
 obtain⟨D1,n1,e1,f1⟩:=a
 obtain⟨D2,n2,e2,f2⟩:=b
 refine⟨D2++D1,?_,by rw [e2,e1];simp,fun D hD=>?_⟩
 · refine List.nodup_append.2 ⟨n2,n1,fun x hx y hy e=>?_⟩
   subst e
   have:=(f2 x hx).1
   rw [(f1 x hy).2] at this
   cases this
 · rcases List.mem_append.1 hD with hD|hD
   · obtain⟨g1,g2⟩:=f2 D hD
     refine⟨?_,g2⟩
     cases e:K.fx D with
     | none=>rfl
     | some o=>rw [h1.fx D o e] at g1;cases g1
   · obtain⟨g1,g2⟩:=f1 D hD
     exact⟨g1,h2.fx _ _ g2⟩
def APost (G:Nat→AV) (w0:World) (ro0:Nat→Nat→Option Value) (K:Kn) (N:Nat) (ds:List Deferred) (Q:Exit→Env→St→Prop):Exit→Act→World→Prop :=
 fun e a w=>∃ K' env σ,K.le K'∧WRel G w0 ro0 K' σ w∧ERel K' N env a∧Dfr K ds K' a.defers∧Q e env σ
def AWp (P:Program) (G:Nat→AV) (N:Nat) (c:Code) (env:Env) (σ:St) (Q:Exit→Env→St→Prop):Prop :=
 ∀ (w0:World) (ro0:Nat→Nat→Option Value) (K:Kn) (a:Act) (w:World),WRel G w0 ro0 K σ w→ERel K N env a→c.wp P (APost G w0 ro0 K N a.defers Q) a w
def ACall (P:Program) (G:Nat→AV) (f:FuncId) (args:List AV) (σ:St) (Q:AV→St→Prop):Prop :=
 bodied P f=true∧∀ (w0:World) (ro0:Nat→Nat→Option Value) (K:Kn) (w:World) (vs:Array Value),WRel G w0 ro0 K σ w→VRels K args vs.toList →
  Calls P f vs w fun e w'=>∃ v' v σ' K',e=.returned v'∧K.le K'∧WRel G w0 ro0 K' σ' w'∧VRel K' v v'∧Q v σ'
section
variable {P:Program} {G:Nat→AV} {N:Nat} {env:Env} {σ:St} {Q:Exit→Env→St→Prop}
theorem APost.mono {w0:World} {ro0:Nat→Nat→Option Value} {K:Kn} {ds:List Deferred} {Q':Exit→Env→St→Prop} {e:Exit} {a:Act} {w:World} (h:APost G w0 ro0 K N ds Q e a w) (hq:∀ e env σ,Q e env σ→Q' e env σ):APost G w0 ro0 K N ds Q' e a w:=by
 obtain⟨K',env',σ',h1,h2,h3,hd,h4⟩:=h
 exact⟨K',env',σ',h1,h2,h3,hd,hq _ _ _ h4⟩
theorem AWp.mono {c:Code} {Q':Exit→Env→St→Prop} (h:AWp P G N c env σ Q) (hq:∀ e env σ,Q e env σ→Q' e env σ):AWp P G N c env σ Q' :=
 fun w0 ro0 K a w hw he=>wp_mono (h w0 ro0 K a w hw he) fun e a w x=>x.mono hq
theorem AWp.skip (h:Q .normal env σ):AWp P G N .skip env σ Q:=fun w0 ro0 K a w hw he=>wp_skip ⟨K,env,σ,Kn.le_refl K,hw,he,.same rfl,h⟩
theorem AWp.ret (h:Q .ret env σ):AWp P G N .ret env σ Q:=fun w0 ro0 K a w hw he=>wp_ret ⟨K,env,σ,Kn.le_refl K,hw,he,.same rfl,h⟩
theorem AWp.exit {id:Nat} (h:Q (.exit id) env σ):AWp P G N (.exit id) env σ Q:=fun w0 ro0 K a w hw he=>wp_exit ⟨K,env,σ,Kn.le_refl K,hw,he,.same rfl,h⟩
def aThen (next:Env→St→Prop) (Q:Exit→Env→St→Prop):Exit→Env→St→Prop
 | .normal,env,σ=>next env σ
 | e,env,σ=>Q e env σ
theorem APost.after {w0:World} {ro0:Nat→Nat→Option Value} {K K':Kn} (hle:K.le K') {ds ds':List Deferred} (hd:Dfr K ds K' ds') {e:Exit} {a:Act} {w:World} (h:APost G w0 ro0 K' N ds' Q e a w):APost G w0 ro0 K N ds Q e a w:=by
 obtain⟨K1,env',σ',h1,h2,h3,hd',h4⟩:=h
 exact⟨K1,env',σ',Kn.le_trans hle h1,h2,h3,hd.trans hle h1 hd',h4⟩
theorem AWp.seq {x y:Code} (h:AWp P G N x env σ (aThen (fun env σ=>AWp P G N y env σ Q) Q)):AWp P G N (.seq x y) env σ Q:=by
 intro w0 ro0 K a w hw he
 refine wp_seq (wp_mono (h w0 ro0 K a w hw he) ?_)
 intro e a' w' hp
 obtain⟨K',env',σ',h1,h2,h3,hd,h4⟩:=hp
 cases e with
 | normal=>exact wp_mono (h4 w0 ro0 K' a' w' h2 h3) fun e a w x=>x.after h1 hd
 | exit id=>exact⟨K',env',σ',h1,h2,h3,hd,h4⟩
 | goto l=>exact⟨K',env',σ',h1,h2,h3,hd,h4⟩
 | ret=>exact⟨K',env',σ',h1,h2,h3,hd,h4⟩
 | panic c=>exact⟨K',env',σ',h1,h2,h3,hd,h4⟩
 | outgrown=>exact⟨K',env',σ',h1,h2,h3,hd,h4⟩
theorem AWp.cond {c:Operand} {x y:Code} {b:Bool} (hc:ev G env c=.bool b) (ht:b=true→AWp P G N x env σ Q) (hf:b=false→AWp P G N y env σ Q):AWp P G N (.cond c x y) env σ Q:=by
 intro w0 ro0 K a w hw he
 have:=ev_rel hw he c
 rw [hc] at this
 simp only [VRel] at this
 exact wp_cond_split this (fun e=>ht e w0 ro0 K a w hw he) (fun e=>hf e w0 ro0 K a w hw he)
def aBlock (id:Nat) (Q:Exit→Env→St→Prop):Exit→Env→St→Prop
 | .exit id',env,σ=>if id'=id then Q .normal env σ else Q (.exit id') env σ
 | e,env,σ=>Q e env σ
theorem AWp.block {id:Nat} {c:Code} (h:AWp P G N c env σ (aBlock id Q)):AWp P G N (.block id c) env σ Q:=by
 intro w0 ro0 K a w hw he
 refine wp_block (wp_mono (h w0 ro0 K a w hw he) ?_)
 intro e a' w' hp
 obtain⟨K',env',σ',h1,h2,h3,hd,h4⟩:=hp
 cases e with
 | exit id'=>
  simp only [aBlock] at h4
  simp only [Exit.inBlock]
  split
  · rename_i e;rw [if_pos e] at h4;exact⟨K',env',σ',h1,h2,h3,hd,h4⟩
  · rename_i e;rw [if_neg e] at h4;exact⟨K',env',σ',h1,h2,h3,hd,h4⟩
 | normal=>exact⟨K',env',σ',h1,h2,h3,hd,h4⟩
 | goto l=>exact⟨K',env',σ',h1,h2,h3,hd,h4⟩
 | ret=>exact⟨K',env',σ',h1,h2,h3,hd,h4⟩
 | panic c=>exact⟨K',env',σ',h1,h2,h3,hd,h4⟩
 | outgrown=>exact⟨K',env',σ',h1,h2,h3,hd,h4⟩
theorem AWp.loop {c:Code} (I:Nat→Env→St→Prop) (n₀:Nat) (h₀:I n₀ env σ)
 (round:∀ n env σ,I n env σ→AWp P G N c env σ (aThen (fun env' σ'=>∃ n',n' < n∧I n' env' σ') Q)):AWp P G N (.loop c) env σ Q:=by
 intro w0 ro0 K a w hw he
 refine wp_loop_ghost (fun n X w=>∃ K' env' σ',K.le K'∧WRel G w0 ro0 K' σ' w∧ERel K' N env' X∧Dfr K a.defers K' X.defers∧I n env' σ') n₀ ⟨K,env,σ,Kn.le_refl K,hw,he,.same rfl,h₀⟩ ?_
 intro n a' w' hI
 obtain⟨K',env',σ',h1,h2,h3,hd,h4⟩:=hI
 refine wp_mono (round n env' σ' h4 w0 ro0 K' a' w' h2 h3) ?_
 intro e a2 w2 hp
 obtain⟨K2,env2,σ2,g1,g2,g3,gd,g4⟩:=hp
 have gd:=hd.trans h1 g1 gd
 cases e with
 | normal=>
  obtain⟨n',hn,hi⟩:=g4
  exact⟨n',hn,K2,env2,σ2,Kn.le_trans h1 g1,g2,g3,gd,hi⟩
 | exit id=>exact⟨K2,env2,σ2,Kn.le_trans h1 g1,g2,g3,gd,g4⟩
 | goto l=>exact⟨K2,env2,σ2,Kn.le_trans h1 g1,g2,g3,gd,g4⟩
 | ret=>exact⟨K2,env2,σ2,Kn.le_trans h1 g1,g2,g3,gd,g4⟩
 | panic c=>exact⟨K2,env2,σ2,Kn.le_trans h1 g1,g2,g3,gd,g4⟩
 | outgrown=>exact⟨K2,env2,σ2,Kn.le_trans h1 g1,g2,g3,gd,g4⟩
end
end Go.Abs
end
section
namespace Go.Abs
open Go Go.RowKit
section
def frz (H:List Blk):Nat→AV→AV
 | 0,v=>if noRef v then v else .any
 | n+1,v=>if noRef v then v else match v with
  | .ptr b off=>match H[b]? with
   | some (.cells c)=>.rptr ((c.drop off).map (frz H n))
   | _=>.any
  | .ms b off len sz=>match H[b]? with
   | some (.cells c)=>if off+len*sz≤c.length∧((chunk sz len (c.drop off)).map (·.map (frz H n))).all (·.all AV.atom)=true then .sl sz ((chunk sz len (c.drop off)).map (·.map (frz H n))) .none else .any
   | _=>.any
  | .rptr c=>.rptr (c.map (frz H n))
  | .sl sz rows _=>if (rows.map (·.map (frz H n))).all (·.all AV.atom)=true then .sl sz (rows.map (·.map (frz H n))) .none else .any
  | .fn f a b=>.fn f (a.map (frz H n)) (b.map (frz H n))
  | .agg c=>.agg (c.map (frz H n))
  | .tup c=>.tup (c.map (frz H n))
  | _=>.any
section
variable {P:Program} {G:Nat→AV} {w0:World} {ro0:Nat→Nat→Option Value} {K:Kn} {σ:St} {w w':World}
theorem CellsAt.mapRel {K K':Kn} (hro:∀ b o v,K.ro b o=some v→K'.ro b o=some v) {f:AV→AV} (hf:∀ a v,VRel K a v→VRel K' (f a) v):∀ (c:List AV) {B off:Nat},CellsAt K B off c→CellsAt K' B off (c.map f)
 | [],_,_,_=>by simp [CellsAt]
 | a::r,B,off,h=>by
  simp only [CellsAt,List.map_cons] at h ⊢
  obtain⟨⟨v,h1,h2⟩,h3⟩:=h
  exact⟨⟨v,hro _ _ _ h1,hf a v h2⟩,CellsAt.mapRel hro hf r h3⟩
theorem RowsAt.mapRel {K K':Kn} (hro:∀ b o v,K.ro b o=some v→K'.ro b o=some v) {f:AV→AV} (hf:∀ a v,VRel K a v→VRel K' (f a) v):∀ (c:List (List AV)) {B off sz:Nat},(c.map (·.map f)).all (·.all AV.atom)=true→RowsAt K B off sz c→RowsAt K' B off sz (c.map (·.map f))
 | [],_,_,_,_,_=>by simp [RowsAt]
 | a::r,B,off,sz,ha,h=>by
  simp only [RowsAt,List.map_cons,List.all_cons,Bool.and_eq_true] at h ha ⊢
  obtain⟨⟨h1,h2,h3⟩,h4⟩:=h
  exact⟨⟨by simpa using h1,ha.1,CellsAt.mapRel hro hf a h3⟩,RowsAt.mapRel hro hf r ha.2 h4⟩
def roAll (w:World):Nat→Nat→Option Value:=fun b o=>w.cell? ⟨b,o,none⟩
theorem frz_gen (h:WRel G w0 ro0 K σ w) {ro':Nat→Nat→Option Value} (hro:∀ b o v,K.ro b o=some v→ro' b o=some v) (hnew:∀ B o v,w0.heap.size≤B→K.ro B o=none→w.cell? ⟨B,o,none⟩=some v→ro' B o=some v) :
 ∀ (n:Nat) {a:AV} {v:Value},VRel K a v→VRel (K0 ro') (frz σ.H n a) v:=by
 have base:∀ {a:AV} {v:Value},noRef a=true→VRel K a v→VRel (K0 ro') a v:=fun hn hv=>(VRel.toK0 _ hn hv).mono (K0_mono' hro)
 intro n
 induction n with
 | zero=>
  intro a v hv
  unfold frz
  split
  · rename_i hn;exact base hn hv
  · simp [VRel]
 | succ n ih=>
  intro a v hv
  unfold frz
  split
  · rename_i hn;exact base hn hv
  · cases a with
    | ptr b off=>
     simp only
     split
     · rename_i c hb
       simp only [VRel] at hv ⊢
       obtain⟨B,hm,rfl⟩:=hv
       obtain⟨B',g1,g2,g3,⟨cs,el,g4,g5,g6,g7⟩,g8⟩:=h.blk b _ hb
       rw [hm] at g1;cases g1
       refine⟨B,off,rfl,CellsAt.intro B _ _ fun i x e=>?_⟩
       rw [List.getElem?_map,Option.map_eq_some_iff] at e
       obtain⟨y,e1,rfl⟩:=e
       rw [List.getElem?_drop] at e1
       obtain⟨u,u1,u2⟩:=g7 _ _ e1
       refine⟨u,hnew _ _ _ g2 (g8 _) ?_,ih u2⟩
       simp only [World.cell?,g4]
       exact u1
     · simp [VRel]
    | ms b off len sz=>
     simp only
     split
     · rename_i c hb
       split
       · rename_i hl
         obtain⟨hl,hat⟩:=hl
         simp only [VRel] at hv ⊢
         obtain⟨B,cap,hm,rfl,h1,h2⟩:=hv
         obtain⟨B',g1,g2,g3,⟨cs,el,g4,g5,g6,g7⟩,g8⟩:=h.blk b _ hb
         rw [hm] at g1;cases g1
         obtain⟨k1,k2⟩:=chunk_spec sz len (c.drop off) (by simp;omega)
         refine .inr ⟨B,off,cap,by simp [k1],by simpa [k1] using h1,RowsAt.intro B sz _ off fun i r e=>?_,trivial⟩
         have hatr:=List.all_eq_true.1 hat r (List.mem_of_getElem? e)
         rw [List.getElem?_map,Option.map_eq_some_iff] at e
         obtain⟨r0,e0,rfl⟩:=e
         obtain⟨e1,e2⟩:=k2 i r0 e0
         have hmul:(i+1)*sz≤len*sz:=Nat.mul_le_mul_right _ (by omega)
         rw [Nat.add_mul,Nat.one_mul] at hmul
         refine⟨by rw [e1];simp;omega,hatr,CellsAt.intro B _ _ fun j x ex=>?_⟩
         rw [List.getElem?_map,Option.map_eq_some_iff] at ex
         obtain⟨y,ey,rfl⟩:=ex
         rw [e1,List.getElem?_take] at ey
         split at ey
         · rw [List.getElem?_drop,List.getElem?_drop] at ey
           obtain⟨u,u1,u2⟩:=g7 _ _ ey
           refine⟨u,hnew _ _ _ g2 (g8 _) ?_,ih u2⟩
           simp only [World.cell?,g4]
           simpa [Nat.add_assoc] using u1
         · cases ey
       · simp [VRel]
     · simp [VRel]
    | rptr c=>
     simp only [VRel] at hv ⊢
     obtain⟨B,off,h1,h2⟩:=hv
     exact⟨B,off,h1,CellsAt.mapRel hro (fun a v=>ih) c h2⟩
    | sl sz rows tok=>
     simp only
     split
     · rename_i hat
       simp only [VRel] at hv ⊢
       rcases hv with ⟨h1,h2,h3⟩|⟨B,off,cap,h1,h2,h3,h4⟩
       · subst h2;obtain⟨a0,h1,_⟩:=h1;exact .inl ⟨⟨a0,h1,.inr trivial⟩,rfl,trivial⟩
       · exact .inr ⟨B,off,cap,by simpa using h1,by simpa using h2,RowsAt.mapRel hro (fun a v=>ih) rows hat h3,trivial⟩
     · simp [VRel]
    | fn f a b=>
     simp only [VRel] at hv ⊢
     obtain⟨va,vb,h1,h2,h3⟩:=hv
     exact⟨va,vb,h1,VRels.mapRel (fun a v=>ih) a h2,VRels.mapRel (fun a v=>ih) b h3⟩
    | agg c=>
     simp only [VRel] at hv ⊢
     obtain⟨vs,h1,h2⟩:=hv
     exact⟨vs,h1,VRels.mapRel (fun a v=>ih) c h2⟩
    | tup c=>
     simp only [VRel] at hv ⊢
     obtain⟨vs,h1,h2⟩:=hv
     exact⟨vs,h1,VRels.mapRel (fun a v=>ih) c h2⟩
    | _=>simp [VRel]
theorem frz_rel (h:WRel G w0 ro0 K σ w) (n:Nat) {a:AV} {v:Value} (hv:VRel K a v):VRel (K0 (roAll w)) (frz σ.H n a) v :=
 frz_gen h (ro':=roAll w) (fun b o v e=>h.ro b o v e) (fun _ _ _ _ _ e=>e) n hv
theorem frz_end (h:WRel G w0 ro0 K σ w) (n:Nat) {a:AV} {v:Value} (hv:VRel K a v):VRel (K0 (roEnd w0 w K.ro)) (frz σ.H n a) v :=
 frz_gen h (ro':=roEnd w0 w K.ro) (fun b o v e=>roEnd_le _ _ _ _ _ _ e) (fun B o v hb hr e=>by simp only [roEnd,hr];rw [if_pos hb];exact e) n hv
def bare1:AV→Bool
 | .bool _ | .int .. | .str _ | .nilp | .nilm | .nilf=>true
 | _=>false
def bare:AV→Bool
 | .agg c=>c.all bare1
 | .tup c=>c.all bare1
 | v=>bare1 v
theorem bare1_rel {K K':Kn} {a:AV} {v:Value} (hf:bare1 a=true) (h:VRel K a v):VRel K' a v:=by
 cases a<;>simp only [bare1] at hf<;>first | (cases hf;done) | simpa [VRel] using h
theorem bares_rel {K K':Kn}:∀ (l:List AV) {vs:List Value},l.all bare1=true→VRels K l vs→VRels K' l vs
 | [],_,_,h=>by simpa [VRels] using h
 | a::r,_,hf,h=>by
  simp only [VRels,List.all_cons,Bool.and_eq_true] at h hf ⊢
  obtain⟨v,vr,h1,h2,h3⟩:=h
  exact⟨v,vr,h1,bare1_rel hf.1 h2,bares_rel r hf.2 h3⟩
theorem bare_rel {K K':Kn} {a:AV} {v:Value} (hf:bare a=true) (h:VRel K a v):VRel K' a v:=by
 unfold bare at hf
 split at hf
 · simp only [VRel] at h ⊢
   obtain⟨vs,h1,h2⟩:=h
   exact⟨vs,h1,bares_rel _ hf h2⟩
 · simp only [VRel] at h ⊢
   obtain⟨vs,h1,h2⟩:=h
   exact⟨vs,h1,bares_rel _ hf h2⟩
 · exact bare1_rel hf h
def PCall (P:Program) (G:Nat→AV) (g:FuncId) (args:List AV) (σ:St) (r:AV):Prop :=
 (noRefs (args.map plain)=true∧Pure P G g (args.map plain) r)∨(bare r=true∧Pure P G g (args.map (frz σ.H 8)) r)
theorem WRel.keep (hw:WRel G w0 ro0 K σ w) {ro':Nat→Nat→Option Value} (hb:Below w.heap.size w w') (h1:∀ b o v,K.ro b o=some v→ro' b o=some v) (h2:∀ b o v,ro' b o=some v→w'.cell? ⟨b,o,none⟩=some v)
 (h3:∀ b o v,ro' b o=some v→b<w.heap.size→K.ro b o=some v):K.le { K with ro:=ro' }∧WRel G w0 ro0 { K with ro:=ro' } σ w':=by
 have hle:K.le { K with ro:=ro' }:=⟨h1,fun _ _ e=>e,Nat.le_refl _,fun t C _ e=>⟨C,e,.inl rfl⟩,fun _ _ _=>rfl,fun _ _ e=>e,fun _ _ e=>e⟩
 have hsz:=hw.size_le
 refine⟨hle,hw.below.trans (hb.mono hsz),fun g=>(hw.glob g).mono (K0_mono hle),h2,fun b o v e hlt=>hw.new b o v (h3 b o v e (by omega)) hlt,?_,hw.inj,hw.mlt,?_,hw.chd,hw.chinj,hw.nch,fun i B cs el fr e1 e2=>by
  rw [hb.block B (hw.m_lt e1).1] at e2
  exact hw.bsz i B cs el fr e1 e2,fun B x e=>by
  obtain⟨g1,g2,g3,g4⟩:=hw.fx B x e
  exact⟨by rw [hb.block B (Array.getElem?_eq_some_iff.1 g1).1];exact g1,g2,g3,g4⟩,hw.rwl⟩
 · intro i b e
   obtain⟨B,a1,a2,a3,a4,a5⟩:=hw.blk i b e
   refine⟨B,a1,a2,Nat.lt_of_lt_of_le a3 hb.size,by rw [hb.block B a3];exact a4.mono hle,fun o=>?_⟩
   cases hr:ro' B o with
   | none=>exact hr
   | some u=>have:=h3 B o u hr a3;rw [a5 o] at this;cases this
 · intro t k e
   obtain⟨C,a1,a2,a3,a4,⟨cs,el,a5,a6⟩,a7,a8⟩:=hw.ch t k e
   have hlt:=(hw.ch_lt a1).1
   refine⟨C,a1,a2,a3,a4,⟨cs,el,by rw [hb.block _ hlt];exact a5,a6⟩,fun o ho=>?_,a8⟩
   cases hr:ro' C.B o with
   | none=>exact hr
   | some u=>have:=h3 C.B o u hr hlt;rw [a7 o ho] at this;cases this
theorem pcall (hw:WRel G w0 ro0 K σ w) {g:FuncId} {args:List AV} {r:AV} (hp:PCall P G g args σ r) {vs:Array Value} (hvs:VRels K args vs.toList) :
 Calls P g vs w fun e w'=>∃ v' K',e=.returned v'∧K.le K'∧WRel G w0 ro0 K' σ w'∧VRel K' r v':=by
 rcases hp with ⟨hno,hp⟩|⟨hfl,hp⟩
 · have hvs':VRels (K0 K.ro) (args.map plain) vs.toList:=VRels.toK0 _ hno (VRels.mapRel (fun _ _=>plain_rel) _ hvs)
   refine (hp.2 w K.ro vs hw.glob hw.ro hvs').mono ?_
   rintro e w' ⟨v',ro',rfl,hb,h1,h2,h3,h4⟩
   obtain⟨hle,hw'⟩:=hw.keep hb h1 h2 h3
   exact⟨v',{ K with ro:=ro' },rfl,hle,hw',h4.mono (K0_le _)⟩
 · have hvs':VRels (K0 (roAll w)) (args.map (frz σ.H 8)) vs.toList:=VRels.mapRel (fun _ _=>frz_rel hw 8) _ hvs
   have hro:∀ b o v,K.ro b o=some v→roAll w b o=some v:=hw.ro
   refine (hp.2 w (roAll w) vs (fun g=>(hw.glob g).mono (K0_mono' hro)) (fun _ _ _ e=>e) hvs').mono ?_
   rintro e w' ⟨v',ro',rfl,hb,h1,h2,h3,h4⟩
   obtain⟨hle,hw'⟩:=hw.keep (ro':=K.ro) hb (fun _ _ _ e=>e) (fun b o v e=>h2 b o v (h1 b o v (hro b o v e))) (fun _ _ _ e _=>e)
   exact⟨v',_,rfl,hle,hw',bare_rel hfl h4⟩
theorem PCall.bodied {g:FuncId} {args:List AV} {r:AV} (h:PCall P G g args σ r):bodied P g=true:=by
 rcases h with h|h
 · exact h.2.1
 · exact h.2.1
theorem PCall.acall {g:FuncId} {args:List AV} {r:AV} {Q:AV→St→Prop} (h:PCall P G g args σ r) (hq:Q r σ):ACall P G g args σ Q :=
 ⟨h.bodied,fun w0 ro0 K w vs hw hvs=>(pcall hw h hvs).mono fun e w' ⟨v',K',h1,h2,h3,h4⟩=>⟨v',r,σ,K',h1,h2,h3,h4,hq⟩⟩
end
end
section
def entryA (σ:St):AV→Option AV
 | .iter b=>match σ.H[b]? with
  | some (.miter (some mb) _ seen stepped)=>match σ.H[mb]? with
   | some (.map es clock)=>match seen.getLast? with
    | some st=>if clock=stepped then (es.find? (fun e=>e.2.2==st)).map fun e=>.tup [e.1,e.2.1] else none
    | none=>none
   | _=>none
  | _=>none
 | _=>none
def nilIs:AV→AV→Option (List Bool)
 | .sl _ (_::_) _,.sl _ [] .nil=>some [false]
 | .sl _ [] .nil,.sl _ [] .nil=>some [true]
 | .sl _ [] _,.sl _ [] .nil=>some [true,false]
 | .ms ..,.sl _ [] .nil=>some [false]
 | .nilp,.nilp=>some [true]
 | .ptr ..,.nilp=>some [false]
 | .rptr _,.nilp=>some [false]
 | .nilm,.nilm=>some [true]
 | .map _,.nilm=>some [false]
 | .nilf,.nilf=>some [true]
 | .fn ..,.nilf=>some [false]
 | _,_=>none
def TD.isSl:TD→Bool | .sl _=>true | _=>false
def TD.isPtr:TD→Bool | .ptr _=>true | _=>false
def TD.isMap:TD→Bool | .map .. =>true | _=>false
def TD.isFn:TD→Bool | .fn=>true | _=>false
theorem TD.isSl_spec {d:TD} (h:d.isSl=true):∃ e,d=.sl e:=by cases d<;>simp [TD.isSl] at h;exact⟨_,rfl⟩
theorem TD.isPtr_spec {d:TD} (h:d.isPtr=true):∃ e,d=.ptr e:=by cases d<;>simp [TD.isPtr] at h;exact⟨_,rfl⟩
theorem TD.isMap_spec {d:TD} (h:d.isMap=true):∃ k e,d=.map k e:=by cases d<;>simp [TD.isMap] at h;exact⟨_,_,rfl⟩
theorem TD.isFn_spec {d:TD} (h:d.isFn=true):d=.fn:=by cases d<;>simp [TD.isFn] at h;rfl
def nilFits (d:TD):AV→Bool
 | .sl .. =>d.isSl
 | .ms .. =>d.isSl
 | .nilp=>d.isPtr
 | .ptr .. =>d.isPtr
 | .rptr _=>d.isPtr
 | .nilm=>d.isMap
 | .map _=>d.isMap
 | .nilf=>d.isFn
 | .fn .. =>d.isFn
 | _=>false
def nilCmp (D:Nat→Option TI) (neg:Bool) (t:Nat) (x y:AV) (σ:St):Option (List (AV×St)) :=
 match nilIs x y with
 | some l=>if nilFits (plainTD D t) x then some (l.map fun b=>(.bool (b != neg),σ)) else none
 | none=>none
def srcA (σ:St) (j:TI) (x:AV):Option (Nat×List AV) :=
 match x with
 | .sl sz rows _=>if sz=j.size∨rows=[] then some (rows.length,rows.flatten) else none
 | .ms b off len sz=>if sz=j.size then (match σ.H[b]? with
  | some (.cells c)=>(cut c off (len*sz)).map fun s=>(len,s)
  | _=>none) else none
 | _=>none
def appendM (D:Nat→Option TI) (σ:St) (t u:Nat) (s x:AV):Option (AV×St) :=
 match D t with
 | some i=>match i.d with
  | .sl e=>match D e with
   | some j=>
    if 0<j.size∧j.zero.length=j.size∧j.bytes≤65536 then
     match plainTD D u with
     | .int _=>match s,x with
      | .sl _ [] .nil,.int _ n=>if 0<n∧n≤1073741824∧j.zero.all AV.atom=true then some (.ms σ.H.length 0 n.toNat j.size,σ.push (.cells (List.replicate n.toNat j.zero).flatten)) else none
      | _,_=>none
     | .sl _=>match srcA σ j x with
      | some (n,src)=>
       if n=0 then none else
       match s with
       | .sl sz rows tok=>match tok with
        | .nil=>if rows.length+n≤1073741824 then some (.ms σ.H.length 0 (rows.length+n) j.size,σ.push (.cells (rows.flatten++src))) else none
        | .tight=>if (sz=j.size∨rows=[])∧rows.length+n≤1073741824 then some (.ms σ.H.length 0 (rows.length+n) j.size,σ.push (.cells (rows.flatten++src))) else none
        | _=>none
       | .ms b off len sz=>match σ.H[b]? with
        | some (.cells c)=>if sz=j.size∧off=0∧len+n≤1073741824∧len*sz≤c.length then
         some (.ms σ.H.length 0 (len+n) sz,{ σ with H:=σ.H.set b .dead++[.cells (c.take (len*sz)++src)] })
         else none
        | _=>none
       | _=>none
      | none=>none
     | _=>none
    else none
   | none=>none
  | _=>none
 | none=>none
def appendX (D:Nat→Option TI) (σ:St) (t u:Nat) (s x:AV):Option (AV×St) :=
 match appendM D σ t u s x with
 | some p=>some p
 | none=>match s,x with
  | .ms b off len sz,.sl sz' [] tok=>(match plainTD D t,plainTD D u with
   | .sl e,.sl _=>(match D e with | some j=>some (.ms b off len sz,σ) | none=>none)
   | _,_=>none)
  | _,_=>none
def clearA (D:Nat→Option TI) (σ:St) (t:Nat) (x:AV):Option St :=
 match D t with
 | some i=>match i.d,x with
  | .sl e,.sl _ [] _=>some σ
  | .sl e,.ms b off len sz=>match D e,σ.H[b]? with
   | some j,some (.cells c)=>if sz=j.size∧j.zero.length=j.size∧0<j.size∧j.zero.all AV.atom=true∧off+len*sz≤c.length then some { σ with H:=σ.H.set b (.cells (putAt c off (List.replicate len j.zero).flatten)) } else none
   | _,_=>none
  | _,_=>none
 | none=>none
def capA (D:Nat→Option TI) (t:Nat) (x:AV):Option AV :=
 match D t with
 | some i=>match i.d,x with
  | .sl _,.sl _ [] .nil=>some (.int .i64 0)
  | _,_=>none
 | none=>none
def semX (D:Nat→Option TI) (G:Nat→AV) (mu:Bool) (env:Env) (σ:St):Op→Option (List (AV×St))
 | .next it false=>nextsA σ (ev G env it)
 | .entry it=>(entryA σ (ev G env it)).map fun v=>[(v,σ)]
 | .insert t m k v=>(mapUpdateA D σ t (ev G env m) (ev G env k) (ev G env v)).map fun σ'=>[(.tup [],σ')]
 | .binOp o t x y _=>match o with
  | .eql=>nilCmp D false t (ev G env x) (ev G env y) σ
  | .neq=>nilCmp D true t (ev G env x) (ev G env y) σ
  | _=>none
 | .call { callee:=.builtin b,args:=args,argTypes:=ts }=>match b,ts.toList,args.toList with
  | .append,[t,u],[s,x]=>match mu with
   | true=>(appendX D σ t u (ev G env s) (ev G env x)).map fun p=>[p]
   | false=>none
  | .clear,[t],[x]=>(clearA D σ t (ev G env x)).map fun σ'=>[(.tup [],σ')]
  | .cap,[t],[x]=>(capA D t (ev G env x)).map fun v=>[(v,σ)]
  | _,_,_=>none
 | _=>none
section
variable {P:Program} {G:Nat→AV} {w0:World} {ro0:Nat→Nat→Option Value} {K:Kn} {σ:St} {w w':World} {N:Nat} {env:Env} {a:Act}
theorem entry_sound (h:WRel G w0 ro0 K σ w) {x:Value} {a v:AV} (hx:VRel K a x) (hf:entryA σ a=some v):∃ v',(Instr.entry x).run P w=.ok v' w∧VRel K v v':=by
 unfold entryA at hf
 split at hf
 case h_2=>cases hf
 rename_i b
 simp only [VRel] at hx
 obtain⟨B,hm,rfl⟩:=hx
 split at hf
 case h_2=>cases hf
 rename_i mb since seen stepped hb
 obtain⟨B',h1,hB0,hBl,h4,_⟩:=h.blk b _ hb
 rw [hm] at h1;cases h1
 obtain⟨mB,h5,h6⟩:=h4
 simp only at h6
 obtain⟨M,hmM,rfl⟩:=h6
 split at hf
 case h_2=>cases hf
 rename_i es clock hes
 obtain⟨M',g1,g2,g3,⟨es',g4,g5,g6⟩,g8⟩:=h.blk mb _ hes
 rw [hmM] at g1;cases g1
 have hF:F2 (ERelM K) es es'.toList:=F2.of_get (by simpa using g5.symm) fun i e he=>by
  obtain⟨k,v,n⟩:=e
  obtain⟨e',k1,k2,k3,k4⟩:=g6 i k v n he
  exact⟨e',by simpa using k1,k2,k3,k4⟩
 split at hf
 case h_2=>cases hf
 rename_i st hst
 split at hf
 case isFalse=>cases hf
 rename_i hcl
 subst hcl
 obtain⟨e,he,rfl⟩:=Option.map_eq_some_iff.1 hf
 have find:∀ {l:List (AV×AV×Nat)} {m:List MapEntry},F2 (ERelM K) l m→l.find? (fun e=>e.2.2==st)=some e→∃ e',m.find? (fun e=>e.born==st)=some e'∧ERelM K e e':=by
  intro l m hF
  induction hF with
  | nil=>intro he;simp at he
  | cons hr t ih=>
   rename_i a b l m
   intro he
   rw [List.find?_cons] at he ⊢
   rw [hr.2.2]
   split at he
   · rename_i hb;cases he;exact⟨b,rfl,hr⟩
   · exact ih he
 obtain⟨e',f1,f2,f3,f4⟩:=find hF he
 refine⟨.tuple #[e'.key,e'.val],?_,by simp only [VRel];exact⟨_,rfl,by simp only [VRels];exact⟨_,_,rfl,f2,_,_,rfl,f3,rfl⟩⟩⟩
 have hbk:seen.toArray.back?=some st:=by simpa using hst
 have hfd:es'.find? (fun e=>e.born==st)=some e':=by rw [← Array.find?_toList];exact f1
 simp [Instr.entry,getObj,Sem.run,h5,g4,hbk,hfd]
theorem plainTD_spec {t:Nat} {d:TD} (h:plainTD (Dof P) t=d) (hd:d≠.other):∃ d',P.underlying t=some d'∧tdOf P d'=d:=by
 unfold plainTD at h
 split at h
 · rename_i i hD
   obtain⟨inf,d',z,hi,hu,_,rfl⟩:=Dof_spec hD
   exact⟨d',hu,h⟩
 · exact absurd h.symm hd
theorem td_ptr {d:TypeDesc} {e:Nat} (h:tdOf P d=.ptr e):d=.pointer e:=by
 cases d<;>simp [tdOf] at h
 · exact h▸rfl
 · split at h<;>cases h
theorem td_fn {d:TypeDesc} (h:tdOf P d=.fn):∃ a b c,d=.func a b c:=by
 cases d<;>simp only [tdOf] at h<;>first | exact⟨_,_,_,rfl⟩ | (cases h;done) | (split at h<;>cases h)
theorem eq_slice {t e:Nat} (hu:P.underlying t=some (.slice e)) (bx:Option Addr) (n c:Nat):(Op.equal t (.slice bx n c) (.slice none 0 0)).run P w=.ok bx.isNone w:=by
 show (Op.equalIn (9999+1) t _ _).run P w=_
 rw [Op.equalIn]
 simp only [Sem.run_bind,run_underlying hu,Result.andThen_ok]
 cases bx<;>rfl
theorem eq_ptr {t e:Nat} (hu:P.underlying t=some (.pointer e)) (bx:Option Addr):(Op.equal t (.pointer bx) (.pointer none)).run P w=.ok bx.isNone w:=by
 show (Op.equalIn (9999+1) t _ _).run P w=_
 rw [Op.equalIn]
 simp only [Sem.run_bind,run_underlying hu,Result.andThen_ok]
 cases bx<;>rfl
theorem eq_map {t k e:Nat} (hu:P.underlying t=some (.map k e)) (bx:Option Nat):(Op.equal t (.map bx) (.map none)).run P w=.ok bx.isNone w:=by
 show (Op.equalIn (9999+1) t _ _).run P w=_
 rw [Op.equalIn]
 simp only [Sem.run_bind,run_underlying hu,Result.andThen_ok]
 cases bx<;>rfl
theorem eq_fn0 {t:Nat} {a b:Array TypeId} {c:Bool} (hu:P.underlying t=some (.func a b c)):(Op.equal t .nilFunc .nilFunc).run P w=.ok true w:=by
 show (Op.equalIn (9999+1) t _ _).run P w=_
 rw [Op.equalIn]
 simp only [Sem.run_bind,run_underlying hu,Result.andThen_ok]
 rfl
theorem eq_fn1 {t:Nat} {a b:Array TypeId} {c:Bool} (hu:P.underlying t=some (.func a b c)) (f:Fn) (x y:Array Value):(Op.equal t (.func f x y) .nilFunc).run P w=.ok false w:=by
 show (Op.equalIn (9999+1) t _ _).run P w=_
 rw [Op.equalIn]
 simp only [Sem.run_bind,run_underlying hu,Result.andThen_ok]
 rfl
def refV:Value→Bool
 | .slice .. =>true
 | .pointer _=>true
 | .map _=>true
 | .nilFunc=>true
 | .func .. =>true
 | _=>false
theorem nilCmp_run {t:Nat} {x y:AV} {l:List Bool} {x' y':Value} (hx:VRel K x x') (hy:VRel K y y') (hl:nilIs x y=some l) (hfit:nilFits (plainTD (Dof P) t) x=true) :
 ∃ b∈l,(Op.equal t x' y').run P w=.ok b w∧refV x'=true:=by
 have nils:∀ {sz:Nat},VRel K (.sl sz [] .nil) y'→y'=.slice none 0 0:=by
  intro sz h
  simp only [VRel] at h
  rcases h with ⟨⟨a0,h1,ha0⟩,_⟩|⟨B,off,cap,h1,h2,h3,h4⟩
  · rw [h1,ha0.resolve_right (by simp)]
  · simp [TokOk] at h4
 have slT:(plainTD (Dof P) t).isSl=true→∃ e,P.underlying t=some (.slice e):=by
  intro he
  obtain⟨e,he⟩:=TD.isSl_spec he
  obtain⟨d',hu,hd'⟩:=plainTD_spec he (by simp)
  exact⟨e,by rw [hu,td_sl hd']⟩
 have ptrT:(plainTD (Dof P) t).isPtr=true→∃ e,P.underlying t=some (.pointer e):=by
  intro he
  obtain⟨e,he⟩:=TD.isPtr_spec he
  obtain⟨d',hu,hd'⟩:=plainTD_spec he (by simp)
  exact⟨e,by rw [hu,td_ptr hd']⟩
 have mapT:(plainTD (Dof P) t).isMap=true→∃ k e,P.underlying t=some (.map k e):=by
  intro he
  obtain⟨k,e,he⟩:=TD.isMap_spec he
  obtain⟨d',hu,hd'⟩:=plainTD_spec he (by simp)
  exact⟨k,e,by rw [hu,td_map hd']⟩
 have fnT:(plainTD (Dof P) t).isFn=true→∃ a b c,P.underlying t=some (.func a b c):=by
  intro he
  obtain⟨d',hu,hd'⟩:=plainTD_spec (TD.isFn_spec he) (by simp)
  obtain⟨a,b,c,rfl⟩:=td_fn hd'
  exact⟨a,b,c,hu⟩
 have slOf:∀ {sz rows tok},VRel K (.sl sz rows tok) x'→∃ bx n c,x'=.slice bx n c∧(rows≠[]→bx.isNone=false)∧(tok=.nil→bx=none):=by
  intro sz rows tok h
  simp only [VRel] at h
  rcases h with ⟨⟨a0,h1,ha0⟩,h2,_⟩|⟨B,off,cap,h1,h2,h3,h4⟩
  · exact⟨a0,0,0,h1,fun hne=>absurd h2 hne,fun ht=>ha0.resolve_right (by rw [ht];simp)⟩
  · exact⟨_,_,_,h1,fun _=>rfl,fun ht=>by subst ht;simp [TokOk] at h4⟩
 unfold nilIs at hl
 split at hl
 case h_12=>cases hl
 all_goals cases hl
 all_goals simp only [nilFits] at hfit
 · obtain⟨e,hu⟩:=slT hfit
   have:=nils hy;subst this
   obtain⟨bx,n,c,rfl,h1,h2⟩:=slOf hx
   exact⟨false,by simp,by rw [eq_slice hu,h1 (by simp)],rfl⟩
 · obtain⟨e,hu⟩:=slT hfit
   have:=nils hy;subst this
   obtain⟨bx,n,c,rfl,h1,h2⟩:=slOf hx
   exact⟨true,by simp,by rw [eq_slice hu,h2 rfl];rfl,rfl⟩
 · obtain⟨e,hu⟩:=slT hfit
   have:=nils hy;subst this
   obtain⟨bx,n,c,rfl,h1,h2⟩:=slOf hx
   exact⟨bx.isNone,by cases bx<;>simp,eq_slice hu _ _ _,rfl⟩
 · obtain⟨e,hu⟩:=slT hfit
   have:=nils hy;subst this
   simp only [VRel] at hx
   obtain⟨B,cap,hm,rfl,_⟩:=hx
   exact⟨false,by simp,by rw [eq_slice hu];rfl,rfl⟩
 · obtain⟨e,hu⟩:=ptrT hfit
   simp only [VRel] at hx hy
   subst hx;subst hy
   exact⟨true,by simp,by rw [eq_ptr hu];rfl,rfl⟩
 · obtain⟨e,hu⟩:=ptrT hfit
   simp only [VRel] at hx hy
   obtain⟨B,hm,rfl⟩:=hx
   subst hy
   exact⟨false,by simp,by rw [eq_ptr hu];rfl,rfl⟩
 · obtain⟨e,hu⟩:=ptrT hfit
   simp only [VRel] at hx hy
   obtain⟨B,off,rfl,_⟩:=hx
   subst hy
   exact⟨false,by simp,by rw [eq_ptr hu];rfl,rfl⟩
 · obtain⟨k,e,hu⟩:=mapT hfit
   simp only [VRel] at hx hy
   subst hx;subst hy
   exact⟨true,by simp,by rw [eq_map hu];rfl,rfl⟩
 · obtain⟨k,e,hu⟩:=mapT hfit
   simp only [VRel] at hx hy
   obtain⟨B,hm,rfl⟩:=hx
   subst hy
   exact⟨false,by simp,by rw [eq_map hu];rfl,rfl⟩
 · obtain⟨u1,u2,u3,hu⟩:=fnT hfit
   simp only [VRel] at hx hy
   subst hx;subst hy
   exact⟨true,by simp,eq_fn0 hu,rfl⟩
 · obtain⟨u1,u2,u3,hu⟩:=fnT hfit
   simp only [VRel] at hx hy
   obtain⟨va,vb,rfl,_,_⟩:=hx
   subst hy
   exact⟨false,by simp,eq_fn1 hu _ _ _,rfl⟩
theorem nilCmp_sound (h:WRel G w0 ro0 K σ w) {t:Nat} {x y:AV} {l:List (AV×St)} {x' y':Value} (hx:VRel K x x') (hy:VRel K y y') {neg:Bool} (hf:nilCmp (Dof P) neg t x y σ=some l) (ox oy:Operand) :
 ∃ v σ',(v,σ')∈l∧σ'=σ∧∃ v',(do eqGuard (if neg then .neq else .eql) t ox oy x' y';binOp (if neg then .neq else .eql) t x' y':Sem Value).run P w=.ok v' w∧VRel K v v':=by
 unfold nilCmp at hf
 split at hf
 · rename_i bs hbs
   split at hf
   · rename_i hfit
     simp only [Option.some.injEq] at hf
     subst hf
     obtain⟨b,hb,hrun,h1⟩:=nilCmp_run (w:=w) hx hy hbs hfit
     refine⟨.bool (b != neg),σ,List.mem_map.2 ⟨b,hb,rfl⟩,rfl,.bool (b != neg),?_,by simp [VRel]⟩
     cases neg<;>cases x'<;>simp only [refV] at h1<;>first | (cases h1;done) | skip
     all_goals
      simp only [Bool.false_eq_true,if_false,if_true]
      rw [Sem.run_bind]
      simp only [eqGuard,pure,Sem.run,Result.andThen_ok]
      simp [binOp,hrun]
   · cases hf
 · cases hf
end
end
end Go.Abs
end
