import Derived.Test.YtkodonalmdmgpaaGreatDoorSv08
import Derived.TacticsIn
import Derived.OrdersIn
import Derived.RangeFuncIn
import Derived.RangeFuncRecord
import Derived.Scope
set_option linter.all false
set_option linter.defProp false
section
namespace Go.Abs
open Go Go.RowKit
section
/-- How a body is looked at. 'mu': appends make rows of the state's own; 'fk': regions that go by a plan (and the calls in them that may change the state); 'lw': regions whose last call may change the state; 'bw': functions known to walk a row from its last element on, and the elements' size. -/
structure Opts where
 mu:Bool
 fk:List (Nat×Sch×List Nat)
 lw:List Nat
 bw:List (Nat×Nat):=[]
def o0:Opts:=⟨false,[],[],[]⟩
/-- Of a round's body. -/
def codeOkI (N:Nat):Code→Bool
 | .skip | .exit _=>true
 | .region _ ops false=>slotsOk N ops
 | .seq x y=>codeOkI N x&&codeOkI N y
 | .cond _ x y=>codeOkI N x&&codeOkI N y
 | .block _ c=>codeOkI N c
 | _=>false
/-- The slots and the orders of a body: checked once. -/
def codeOk (N:Nat) (o:Opts):Code→Bool
 | .skip | .ret | .exit _=>true
 | .region id ops d=>slotsOk N ops&&(!d||(match o.fk.lookup id with
  | some (s,ac)=>schOk ops o.mu ac s (Array.replicate ops.size false)&&decide (schLen s≤ops.size)
  | none=>drawOk ops o.mu (o.lw.contains id)))
 | .seq x y=>codeOk N o x&&codeOk N o y
 | .cond _ x y=>codeOk N o x&&codeOk N o y
 | .block _ c=>codeOk N o c
 | .loop c=>codeOk N o c
 | .rangeFunc _ ps x y=>(match ps.toList with
  | [p,q]=>decide (p<N)&&decide (q<N)
  | [p]=>decide (p<N)
  | _=>false)&&codeOkI N x&&codeOkI N y
 | .scope c=>codeOk N o c
 | .label _=>true
 | _=>false
/-- Both ways. -/
def vcIf (c:Bool) (A B:Prop):Prop:=(c=true→A)∧(c=false→B)
/-- One operation with its guard. A guard that is not known is split. -/
def vcG (P:Program) (G:Glo) (mu d:Bool) (ops:Array Oper) (o:Oper) (env:Env) (σ:St) (k:Env→AV→St→Prop):Prop :=
 match o.guard with
 | none=>vcOp P G mu d o.op env σ (k env)
 | some (j,b)=>match (ops[j]?).bind (·.dst) with
  | some t=>match env t with
   | .bool c=>vcIf (c==b) (vcOp P G mu d o.op (upd env (some t) (.bool b)) σ (k (upd env (some t) (.bool b)))) (k (upd env (some t) (.bool (!b))) (.tup []) σ)
   | .tup []=>k env (.tup []) σ
   | _=>False
  | none=>k env (.tup []) σ
def isCallV:Op→Bool
 | .call { callee:=.value _,.. }=>true
 | _=>false
def isNil {α:Type}:List α→Bool
 | []=>true
 | _=>false
/-- The operations of a region, one behind the other. -/
def vcR (P:Program) (G:Glo) (mu:Bool) (ops:Array Oper) (d lw:Bool):List Oper→Env→St→(Env→St→Prop)→Prop
 | [],env,σ,Q=>Q env σ
 | o::rest,env,σ,Q=>vcG P G mu (d&&!(lw&&isNil rest&&isCallV o.op)) ops o env σ (fun env v σ'=>vcR P G mu ops d lw rest (upd env o.dst v) σ' Q)
mutual
/-- The operations of a region, by a plan. -/
def vcS (P:Program) (G:Glo) (mu:Bool) (ac:List Nat) (ops:Array Oper):Sch→Env→St→(Env→St→Prop)→Prop
 | .done,env,σ,Q=>Q env σ
 | .step k _ s,env,σ,Q=>match ops[k]? with
  | some o=>vcG P G mu (clsB mu ac k o.op != 9) ops o env σ (fun env v σ'=>vcS P G mu ac ops s (upd env o.dst v) σ' Q)
  | none=>False
 | .fork a,env,σ,Q=>vcAlts P G mu ac ops a env σ Q
def vcAlts (P:Program) (G:Glo) (mu:Bool) (ac:List Nat) (ops:Array Oper):Alts→Env→St→(Env→St→Prop)→Prop
 | .nil,_,_,_=>True
 | .cons k s r,env,σ,Q=>(match ops[k]? with
  | some o=>vcG P G mu (clsB mu ac k o.op != 9) ops o env σ (fun env v σ'=>vcS P G mu ac ops s (upd env o.dst v) σ' Q)
  | none=>False)∧vcAlts P G mu ac ops r env σ Q
end
/-- The fence of an activation, or of a round. -/
abbrev FR (ro:Option Nat):Fence:={ Fence.wide with round:=ro }
theorem upd_same {env:Env} {t:Nat} {v:AV} (h:env t=v):upd env (some t) v=env:=by
 funext i
 simp only [upd]
 split
 · rename_i e;rw [e,h]
 · rfl
section
variable {P:Program} {G:Glo} {N:Nat} {env:Env} {σ σ':St} {w0:World} {ro0:Nat→Nat→Option Value} {K:Kn} {a:Act} {w:World} {ops:Array Oper} {o:Oper} {v:AV} {mu d:Bool} {ac:List Nat}
/-- What a guard comes to: the operation is skipped, or it runs. -/
theorem vcG_spec {k:Env→AV→St→Prop} (h:vcG P G mu d ops o env σ k):(wantedA ops env o=some false∧k env (.tup []) σ)∨(wantedA ops env o=some true∧vcOp P G mu d o.op env σ (k env)):=by
 unfold vcG at h
 split at h
 · rename_i hg
   exact .inr ⟨by simp [wantedA,hg],h⟩
 · rename_i j b hg
   split at h
   · rename_i t ht
     split at h
     · rename_i c hc
       by_cases hcb:c=b
       · have:=h.1 (by simp [hcb])
         rw [hcb] at hc
         rw [upd_same hc] at this
         exact .inr ⟨by simp [wantedA,hg,ht,hc],this⟩
       · have hcb':c = !b:=by cases c<;>cases b<;>simp_all
         have:=h.2 (by simp [hcb])
         rw [hcb'] at hc
         rw [upd_same hc] at this
         exact .inl ⟨by simp [wantedA,hg,ht,hc],this⟩
     · rename_i hc
       exact .inl ⟨by simp [wantedA,hg,ht,hc],h⟩
     · exact h.elim
   · rename_i ht
     exact .inl ⟨by simp [wantedA,hg,ht],h⟩
theorem vcR_sound (hs:slotsOk N ops=true) {lw:Bool} {Q:Env→St→Prop}:∀ (l:List Oper) (env:Env) (σ:St) (K:Kn) (a:Act) (w:World),(∀ o∈l,o∈ops.toList)→vcR P G mu ops false lw l env σ Q→WRel G w0 ro0 K σ w→ERel K N env a →
 ∀ {Q':Exit→Act→World→Prop},(∀ K' env' σ' a' w',K.le K'→WRel G w0 ro0 K' σ' w'→ERel K' N env' a'→a'.defers=a.defers→Q env' σ'→Q' .normal a' w') →
 (∀ c K' σ' a' w',K.le K'→WRel G w0 ro0 K' σ' w'→a'.defers=a.defers→G.X c σ'→Q' (.panic c) a' w')→wpList P ops Q' l a w
 | [],env,σ,K,a,w,_,h,hw,he,Q',hq,_=>hq K env σ a w (Kn.le_refl K) hw he rfl h
 | o::rest,env,σ,K,a,w,hm,h,hw,he,Q',hq,hp=>by
  have hd:=slots_dst hs (hm o (by simp))
  have hgd:=slots_guard hs o
  have hrest:∀ x∈rest,x∈ops.toList:=fun x hx=>hm x (by simp [hx])
  have cont:∀ (v:AV) (σ':St) (K1:Kn) (a1:Act) (w1:World),vcR P G mu ops false lw rest (upd env o.dst v) σ' Q→K.le K1→WRel G w0 ro0 K1 σ' w1→ERel K1 N (upd env o.dst v) a1→a1.defers=a.defers→wpList P ops Q' rest a1 w1 :=
   fun v σ' K1 a1 w1 hv hle h1 h2 hds=>vcR_sound hs rest _ σ' K1 a1 w1 hrest hv h1 h2 (fun K' env' σ'' a' w' hle' x1 x2 xd=>hq K' env' σ'' a' w' (Kn.le_trans hle hle') x1 x2 (xd.trans hds)) fun c K' σ'' a' w' hle' x1 xd=>hp c K' σ'' a' w' (Kn.le_trans hle hle') x1 (xd.trans hds)
  simp only [vcR,Bool.false_and] at h
  unfold wpList
  rcases vcG_spec h with ⟨hwant,h⟩|⟨hwant,h⟩
  · have:=wanted_rel he hgd hwant
    rw [if_neg (by simp [this])]
    exact cont _ σ K _ w h (Kn.le_refl K) hw (he.put hd (by simp only [VRel];exact⟨#[],rfl,by simp [VRels]⟩)) Act.put_defers'
  · have:=wanted_rel he hgd hwant
    rw [if_pos this]
    exact .inl (op_wide hw he hd h (fun v σ' K' a' w' hv h1 h2 h3 hds=>cont v σ' K' a' w' hv h1 h2 h3 hds) fun c σ' K' w' hx h1 h2=>hp c K' σ' _ w' h1 h2 rfl hx)
/-- One operation inside a fence. -/
theorem op_wideIn (hX:G.NoX) {ro:Option Nat} {n:Nat} (hw:WRel G w0 ro0 K σ w) (he:ERel K N env a) (hd:∀ d,o.dst=some d→d<N) {R:AV→St→Prop} (h:vcOp P G mu false o.op env σ R) {next:Act→World→Prop} {Q:Exit→Act→World→Prop}
 (hn:∀ v v' σ' K' w',R v σ'→K.le K'→WRel G w0 ro0 K' σ' w'→ERel K' N (upd env o.dst v) (a.put o.dst v')→next (a.put o.dst v') w'):o.wpIn (FR ro) n P a w next Q:=by
 have hnd:∀ c,o.op≠.defer c:=by
  intro c e
  rw [e] at h
  simp [vcOp,vcX,pickX,semX,sem] at h
 refine⟨fun _ _=>trivial,?_⟩
 rw [Oper.semAt_eq _ _ _ hnd]
 have did:∀ v σ',R v σ'→Did P G w0 ro0 K w (execOp a.eval o) v σ'→o.uponIn (FR ro) n P a next Q ((execOp a.eval o).run P w):=by
  intro v σ' hr hdid
  obtain⟨v',w',K',hrun,h1,h2,h3⟩:=hdid
  rcases hrun with hrun|⟨hrun,rfl⟩
  · rw [hrun];exact hn v v' σ' K' w' hr h1 h2 ((he.mono h1).put hd h3)
  · rw [hrun];exact hn v _ σ' K' w' hr h1 h2 ((he.mono h1).put hd h3)
 unfold vcOp at h
 split at h
 · rename_i f args ts hop
   split at h
   · rename_i g first cap hf
     have hac:ACall P G g (callArgs first (opds G env args.toList) cap) σ R:=h
     obtain⟨vs,hr,hvs⟩:=exec_call hw he hop hf hac.1
     rw [hr,Oper.uponIn_enter]
     refine⟨fun e=>by simp [Fence.wide] at e,?_⟩
     refine CallsIn.mono (F:=FR ro) (show CallsIn (FR ro) (n-1) P g vs w _ from (callsIn_wide (n:=n-1)).2 (hac.2 w0 ro0 K w vs hw hvs)) ?_
     rintro e w' (⟨v',v,σ',K',rfl,h1,h2,h3,h4⟩|⟨c,σ',K',rfl,h1,h2,h3⟩)
     · exact hn v v' σ' K' w' h4 h1 h2 ((he.mono h1).put hd h3)
     · exact (hX c σ' h3).elim
   · exact h.elim
 · simp only [vcX,pickX] at h
   split at h
   · rename_i l hl
     obtain⟨v,σ',h1,h2⟩:=semX_sound hw he o hl
     exact did v σ' (h v σ' h1) h2
   · split at h
     · rename_i v σ' hs
       exact did v σ' h (sem_sound hw he o hs)
     · exact h.elim
/-- Operations inside a fence, with what follows them; slots that they do not write stay. -/
theorem vcR_soundIn (hX:G.NoX) (hs:slotsOk N ops=true) {ro:Option Nat} {n:Nat} {lw:Bool} {Q:Env→St→Prop} {more:List Oper}:∀ (l:List Oper) (env:Env) (σ:St) (K:Kn) (a:Act) (w:World),(∀ o∈l,o∈ops.toList)→vcR P G mu ops false lw l env σ Q→WRel G w0 ro0 K σ w→ERel K N env a →
 ∀ {Q':Exit→Act→World→Prop},(∀ K' env' σ' a' w',K.le K'→WRel G w0 ro0 K' σ' w'→ERel K' N env' a'→a'.defers=a.defers→(∀ t,(∀ o∈l,o.dst≠some t)→a'.tmps.getD t undef=a.tmps.getD t undef)→Q env' σ'→wpListIn (FR ro) n P ops Q' more a' w')→wpListIn (FR ro) n P ops Q' (l++more) a w
 | [],env,σ,K,a,w,_,h,hw,he,Q',hq=>hq K env σ a w (Kn.le_refl K) hw he rfl (fun _ _=>rfl) h
 | o::rest,env,σ,K,a,w,hm,h,hw,he,Q',hq=>by
  have hd:=slots_dst hs (hm o (by simp))
  have hgd:=slots_guard hs o
  have hrest:∀ x∈rest,x∈ops.toList:=fun x hx=>hm x (by simp [hx])
  have cont:∀ (v:AV) (v':Value) (σ':St) (K1:Kn) (w1:World),vcR P G mu ops false lw rest (upd env o.dst v) σ' Q→K.le K1→WRel G w0 ro0 K1 σ' w1→ERel K1 N (upd env o.dst v) (a.put o.dst v')→wpListIn (FR ro) n P ops Q' (rest++more) (a.put o.dst v') w1 :=
   fun v v' σ' K1 w1 hv hle h1 h2=>vcR_soundIn hX hs rest _ σ' K1 _ w1 hrest hv h1 h2 fun K' env' σ'' a' w' hle' x1 x2 xd xk=>hq K' env' σ'' a' w' (Kn.le_trans hle hle') x1 x2 (xd.trans Act.put_defers') fun t ht=>by
    rw [xk t fun x hx=>ht x (by simp [hx])]
    have hne:=ht o (by simp)
    unfold Act.put
    split
    · rename_i d hdd
      have:d≠t:=fun e=>hne (by rw [hdd,e])
      simp [this]
    · rfl
  simp only [vcR,Bool.false_and] at h
  rw [List.cons_append]
  unfold wpListIn
  rcases vcG_spec h with ⟨hwant,h⟩|⟨hwant,h⟩
  · have:=wanted_rel he hgd hwant
    rw [if_neg (by simp [this])]
    exact⟨fun _ _=>trivial,cont _ _ σ K w h (Kn.le_refl K) hw (he.put hd (by simp only [VRel];exact⟨#[],rfl,by simp [VRels]⟩))⟩
  · have:=wanted_rel he hgd hwant
    rw [if_pos this]
    exact op_wideIn hX hw he hd h fun v v' σ' K' w' hv h1 h2 h3=>cont v v' σ' K' w' hv h1 h2 h3
theorem vcOp_true {R:AV→St→Prop} (h:vcOp P G mu true o.op env σ R):∃ v σ',OpA P G o env σ v σ'∧R v σ':=by
 unfold vcOp at h
 split at h
 · rename_i f args ts hop
   split at h
   · rename_i g first cap hf
     obtain⟨r,h1,h2⟩:=h
     exact⟨r,σ,.inr ⟨f,args,ts,g,first,cap,hop,hf,h1,rfl⟩,h2⟩
   · exact h.elim
 · simp only [vcX,pickX] at h
   split at h
   · rename_i v σ' hs
     exact⟨v,σ',.inl hs,h⟩
   · exact h.elim
/-- One step of a plan. -/
theorem plan_step {R:Env→St→Prop} {i:Nat} {oi:Oper} {dp:List Nat} (hi:ops[i]?=some oi) {fuel:Nat} {listed:Array Bool} (hs:stepOk ops mu ac listed i dp=true)
 (h:vcG P G mu (clsB mu ac i oi.op != 9) ops oi env σ (fun env v σ'=>AnyB P G ops mu ac R fuel (listed.setIfInBounds i true) (upd env oi.dst v) σ')):AnyB P G ops mu ac R (fuel+1) listed env σ:=by
 simp only [stepOk,hi,Bool.and_eq_true] at hs
 obtain⟨⟨hr,hd⟩,hall⟩:=hs
 have hr':i∈Region.ready .any ops listed:=by simpa using hr
 have rest:∀ (j:Nat) (oj:Oper),ops[j]?=some oj→j≠i→listed.getD j true=false→j∉dp→clsB mu ac i oi.op≠9∧freeB ops oi oj (clsB mu ac i oi.op) (clsB mu ac j oj.op)=true∧(clsB mu ac j oj.op≠9∨clsB mu ac i oi.op=0):=by
  intro j oj hoj hji hun hnd
  have:=List.all_eq_true.1 hall j (List.mem_range.2 (Array.getElem?_eq_some_iff.1 hoj).1)
  simp only [hoj,Bool.or_eq_true,beq_iff_eq,Bool.and_eq_true,bne_iff_ne,ne_eq] at this
  rcases this with ((h1|h1)|h1)|h1
  · exact absurd h1 hji
  · rw [hun] at h1;cases h1
  · exact absurd (by simpa using h1) hnd
  · exact⟨h1.1,h1.2.1,h1.2.2⟩
 by_cases h9:clsB mu ac i oi.op=9
 · have solo:∀ (j:Nat) (oj:Oper),ops[j]?=some oj→j≠i→listed.getD j true=false→j∈dp:=by
    intro j oj hoj hji hun
    apply Classical.byContradiction
    intro hnd
    exact (rest j oj hoj hji hun hnd).1 h9
   rw [h9] at h
   refine AnyB.solo hi hd solo hr' ?_
   rcases vcG_spec h with ⟨hwant,h⟩|⟨hwant,h⟩
   · exact .inl ⟨_,σ,.inl ⟨hwant,rfl,rfl⟩,h⟩
   · exact .inr ⟨h9,hwant,h⟩
 · have hd1:(clsB mu ac i oi.op != 9)=true:=by simpa using h9
   rw [hd1] at h
   rcases vcG_spec h with ⟨hwant,h⟩|⟨hwant,h⟩
   · exact AnyB.first hi fuel listed env σ σ hd (fun j oj a b c e=>(rest j oj a b c e).2) hr' (.inl ⟨hwant,rfl,rfl⟩) h
   · obtain⟨v,σ',h1,h2⟩:=vcOp_true h
     exact AnyB.first hi fuel listed env σ σ' hd (fun j oj a b c e=>(rest j oj a b c e).2) hr' (.inr ⟨hwant,h1⟩) h2
theorem vcG.imp {k k':Env→AV→St→Prop} (h:vcG P G mu d ops o env σ k) (hk:∀ env v σ,k env v σ→k' env v σ):vcG P G mu d ops o env σ k':=by
 unfold vcG at h ⊢
 cases hg:o.guard with
 | none=>simp only [hg] at h ⊢;exact vcOp.imp h (hk _)
 | some p=>
  obtain⟨j,b⟩:=p
  simp only [hg] at h ⊢
  cases ht:(ops[j]?).bind (·.dst) with
  | none=>simp only [ht] at h ⊢;exact hk _ _ _ h
  | some t=>
   simp only [ht] at h ⊢
   generalize env t=x at h ⊢
   match x,h with
   | .bool c,h=>exact⟨fun e=>vcOp.imp (h.1 e) (hk _),fun e=>hk _ _ _ (h.2 e)⟩
   | .tup [],h=>exact hk _ _ _ h
/-- Operations that may run in the order in which they stand. -/
theorem lex_any {lw:Bool} {Q:Env→St→Prop} {mu:Bool}:∀ (l:List Oper) (k:Nat) (listed:Array Bool) (env:Env) (σ:St),(∀ j:Nat,l[j]?=ops[k+j]?)→k+l.length=ops.size→lexB ops mu (if lw then [ops.size-1] else []) l.length k listed=true →
 vcR P G mu ops true lw l env σ Q→AnyB P G ops mu (if lw then [ops.size-1] else []) Q l.length listed env σ
 | [],k,listed,env,σ,_,_,hB,h=>⟨by simpa [lexB] using hB,h⟩
 | o::l,k,listed,env,σ,hl,hlen,hB,h=>by
  have h0:ops[k]?=some o:=by simpa using (hl 0).symm
  simp only [List.length_cons,lexB,Bool.and_eq_true] at hB
  obtain⟨hst,hB'⟩:=hB
  simp only [vcR,Bool.true_and] at h
  have ih:=fun env σ h=>lex_any (lw:=lw) (Q:=Q) (mu:=mu) l (k+1) (listed.setIfInBounds k true) env σ (fun j=>by have:=hl (j+1);simpa [Nat.add_assoc,Nat.add_comm 1 j] using this) (by simp only [List.length_cons] at hlen;omega) hB' h
  have hst0:=hst
  simp only [stepOk,h0,Bool.and_eq_true] at hst
  obtain⟨⟨hr,hd⟩,hall⟩:=hst
  have hr':k∈Region.ready .any ops listed:=by simpa using hr
  have rest:∀ (j:Nat) (oj:Oper),ops[j]?=some oj→j≠k→listed.getD j true=false→j∉dpOf ops k→clsB mu (if lw then [ops.size-1] else []) k o.op≠9∧freeB ops o oj (clsB mu (if lw then [ops.size-1] else []) k o.op) (clsB mu (if lw then [ops.size-1] else []) j oj.op)=true∧(clsB mu (if lw then [ops.size-1] else []) j oj.op≠9∨clsB mu (if lw then [ops.size-1] else []) k o.op=0):=by
   intro j oj hoj hji hun hnd
   have:=List.all_eq_true.1 hall j (List.mem_range.2 (Array.getElem?_eq_some_iff.1 hoj).1)
   simp only [hoj,Bool.or_eq_true,beq_iff_eq,Bool.and_eq_true,bne_iff_ne,ne_eq] at this
   rcases this with ((h1|h1)|h1)|h1
   · exact absurd h1 hji
   · rw [hun] at h1;cases h1
   · exact absurd (by simpa using h1) hnd
   · exact⟨h1.1,h1.2.1,h1.2.2⟩
  have stp:∀ v σ',StepA P G ops o env σ v σ'→AnyB P G ops mu (if lw then [ops.size-1] else []) Q l.length (listed.setIfInBounds k true) (upd env o.dst v) σ'→AnyB P G ops mu (if lw then [ops.size-1] else []) Q (l.length+1) listed env σ:=by
   intro v σ' h1 h2
   by_cases h9:clsB mu (if lw then [ops.size-1] else []) k o.op=9
   · refine AnyB.solo h0 hd (fun j oj hoj hji hun=>?_) hr' (.inl ⟨v,σ',h1,h2⟩)
     apply Classical.byContradiction
     intro hnd
     exact (rest j oj hoj hji hun hnd).1 h9
   · exact AnyB.first h0 l.length listed env σ σ' hd (fun j oj a b c e=>(rest j oj a b c e).2) hr' h1 h2
  cases hdd : !(lw&&isNil l&&isCallV o.op) with
  | true=>
   rw [hdd] at h
   rcases vcG_spec h with ⟨hwant,h⟩|⟨hwant,h⟩
   · exact stp _ _ (.inl ⟨hwant,rfl,rfl⟩) (ih _ _ h)
   · obtain⟨v,σ',h1,h2⟩:=vcOp_true h
     exact stp _ _ (.inr ⟨hwant,h1⟩) (ih _ _ h2)
  | false=>
   rw [hdd] at h
   simp only [Bool.not_eq_false',Bool.and_eq_true] at hdd
   obtain⟨⟨hlw,hnil⟩,hcall⟩:=hdd
   have hnil:l=[]:=by cases l with | nil=>rfl | cons _ _=>simp [isNil] at hnil
   rcases vcG_spec h with ⟨hwant,h⟩|⟨hwant,h⟩
   · exact stp _ _ (.inl ⟨hwant,rfl,rfl⟩) (ih _ _ h)
   · -- the last operation
     have h9:clsB mu (if lw then [ops.size-1] else []) k o.op=9:=by
      subst hnil
      simp only [List.length_cons,List.length_nil] at hlen
      have hk1:k=ops.size-1:=by omega
      unfold isCallV at hcall
      split at hcall
      · rename_i f args ts e
        rw [e];simp [clsB,hlw,hk1]
      · cases hcall
     refine AnyB.solo h0 hd (fun j oj hoj hji hun=>?_) hr' (.inr ⟨h9,hwant,vcOp.imp h fun v σ' hv=>ih _ _ hv⟩)
     apply Classical.byContradiction
     intro hnd
     exact (rest j oj hoj hji hun hnd).1 h9
mutual
theorem vcS_any {Q:Env→St→Prop}:∀ (s:Sch) (fuel:Nat) (listed:Array Bool) (env:Env) (σ:St),schOk ops mu ac s listed=true→schLen s≤fuel→vcS P G mu ac ops s env σ Q→AnyB P G ops mu ac Q fuel listed env σ
 | .done,fuel,listed,env,σ,hk,_,h=>by
  simp only [schOk] at hk
  have hr:Region.ready .any ops listed=[]:=by simpa using hk
  cases fuel with
  | zero=>exact⟨hr,h⟩
  | succ fuel=>exact⟨fun _=>h,fun i hi=>by rw [hr] at hi;cases hi⟩
 | .step k dp s,fuel,listed,env,σ,hk,hf,h=>by
  simp only [schLen] at hf
  obtain⟨f,rfl⟩:∃ f,fuel=f+1:=⟨fuel-1,by omega⟩
  simp only [schOk,Bool.and_eq_true] at hk
  simp only [vcS] at h
  split at h
  · rename_i o ho
    exact plan_step ho hk.1 (vcG.imp h fun env v σ' hv=>vcS_any s f _ _ _ hk.2 (by omega) hv)
  · exact h.elim
 | .fork al,fuel,listed,env,σ,hk,hf,h=>by
  simp only [schLen] at hf
  obtain⟨f,rfl⟩:∃ f,fuel=f+1:=⟨fuel-1,by omega⟩
  simp only [schOk,Bool.and_eq_true,Bool.not_eq_true'] at hk
  simp only [vcS] at h
  refine⟨fun h0=>by rw [h0] at hk;simp at hk,fun i hi=>?_⟩
  exact vcAlts_any al f listed env σ _ hk.2 (by omega) h i hi
theorem vcAlts_any {Q:Env→St→Prop}:∀ (al:Alts) (fuel:Nat) (listed:Array Bool) (env:Env) (σ:St) (need:List Nat),altsOk ops mu ac al listed need=true→altsLen al≤fuel→vcAlts P G mu ac ops al env σ Q→∀ i∈need,∃ o,ops[i]?=some o ∧
 ((∃ v σ',StepA P G ops o env σ v σ'∧AnyB P G ops mu ac Q fuel (listed.setIfInBounds i true) (upd env o.dst v) σ') ∨
  (clsB mu ac i o.op=9∧wantedA ops env o=some true∧vcOp P G mu false o.op env σ (fun v σ'=>AnyB P G ops mu ac Q fuel (listed.setIfInBounds i true) (upd env o.dst v) σ')))
 | .nil,fuel,listed,env,σ,need,hk,_,_,i,hi=>by
  simp only [altsOk] at hk
  have:need=[]:=by simpa using hk
  rw [this] at hi;cases hi
 | .cons k s r,fuel,listed,env,σ,need,hk,hf,h,i,hi=>by
  simp only [altsLen] at hf
  simp only [altsOk,Bool.and_eq_true] at hk
  simp only [vcAlts] at h
  by_cases hik:i=k
  · subst hik
    obtain⟨h,_⟩:=h
    split at h
    · rename_i o ho
      refine⟨o,ho,?_⟩
      have h':=vcG.imp h fun env v σ' hv=>vcS_any s fuel _ _ _ hk.1.2 (by omega) hv
      by_cases h9:clsB mu ac i o.op=9
      · rw [h9] at h'
        rcases vcG_spec h' with ⟨hwant,h'⟩|⟨hwant,h'⟩
        · exact .inl ⟨_,σ,.inl ⟨hwant,rfl,rfl⟩,h'⟩
        · exact .inr ⟨h9,hwant,h'⟩
      · have hd1:(clsB mu ac i o.op != 9)=true:=by simpa using h9
        rw [hd1] at h'
        rcases vcG_spec h' with ⟨hwant,h'⟩|⟨hwant,h'⟩
        · exact .inl ⟨_,σ,.inl ⟨hwant,rfl,rfl⟩,h'⟩
        · obtain⟨v,σ',h1,h2⟩:=vcOp_true h'
          exact .inl ⟨v,σ',.inr ⟨hwant,h1⟩,h2⟩
    · exact h.elim
  · exact vcAlts_any r fuel listed env σ _ hk.2 (by omega) h.2 i (List.mem_filter.2 ⟨hi,by simpa using hik⟩)
end
end
/-- Function gb is one that walks a row of structs from its last to its first: called with 'yield' and the place of a slice it calls 'yield' with each index and element. -/
def BwOk (P:Program) (G:Glo) (gb:FuncId) (k:Nat):Prop :=
 bodied P gb=true∧∀ (w0:World) (ro0:Nat→Nat→Option Value) (b L B:Nat) (K:Kn) (σ:St) (w:World) (sz:Nat) (rows:List (List AV)) (tok:Tok) (S:Nat→St→Prop),
  WRel G w0 ro0 K σ w→K.m b=some B→σ.H[b]?=some (.cells [.sl sz rows tok])→rows.length<2 ^ 62→S rows.length σ →
  (∀ i σ' K' w',S (i+1) σ'→K.le K'→WRel G w0 ro0 K' σ' w'→∃ rows tok r,σ'.H[b]?=some (.cells [.sl k rows tok])∧rows[i]?=some r∧∀ v,VRel K' (.agg r) v →
    ∃ f tmps asn body,(Instr.yield L #[.int .i64 i,v]).run P w'=.ok (.round L f tmps asn body) w' ∧
     RoundIn Fence.wide 0 P L f tmps asn body w' (fun e w''=>e=.returned (.bool true)∧∃ K'' σ'',K'.le K''∧WRel G w0 ro0 K'' σ'' w''∧S i σ'')) →
  CallsIn Fence.wide 0 P gb #[.func (.yield L) #[] #[],.pointer (some ⟨B,0,none⟩)] w (fun e w'=>(∃ v,e=.returned v)∧∃ K' σ',K.le K'∧WRel G w0 ro0 K' σ' w'∧S 0 σ')
/-- Function gb, with what it has captured, calls 'yield' with these values, one behind the other. -/
def FwOk (P:Program) (G:Glo) (gb:FuncId) (cap:List AV) (pre:St→Prop) (vals:List AV):Prop :=
 bodied P gb=true∧∀ (w0:World) (ro0:Nat→Nat→Option Value) (L:Nat) (K:Kn) (σ:St) (w:World) (vcap:Array Value) (S:Nat→St→Prop),
  WRel G w0 ro0 K σ w→VRels K cap vcap.toList→(∀ i σ,S i σ→pre σ)→S 0 σ →
  (∀ i x σ' K' w',vals[i]?=some x→S i σ'→K.le K'→WRel G w0 ro0 K' σ' w'→∀ v,VRel K' x v →
    ∃ f tmps asn body,(Instr.yield L #[v]).run P w'=.ok (.round L f tmps asn body) w' ∧
     RoundIn Fence.wide 0 P L f tmps asn body w' (fun e w''=>e=.returned (.bool true)∧∃ K'' σ'',K'.le K''∧WRel G w0 ro0 K'' σ'' w''∧S (i+1) σ'')) →
  CallsIn Fence.wide 0 P gb (#[.func (.yield L) #[] #[]]++vcap) w (fun e w'=>(∃ v,e=.returned v)∧∃ K' σ',K.le K'∧WRel G w0 ro0 K' σ' w'∧S vals.length σ')
/-- No jump leaves a scope. -/
def aScope (Q:Exit→Env→St→Prop):Exit→Env→St→Prop
 | .goto _,_,_=>False
 | e,env,σ=>Q e env σ
/-- The rounds, from the last row on. -/
def rounds (A B:Env→St→(Exit→Env→St→Prop)→Prop) (k b pi pe:Nat) (env:Env):Nat→St→(St→Prop)→Prop
 | 0,σ,Q=>Q σ
 | i+1,σ,Q=>match σ.H[b]? with
  | some (.cells [.sl sz rows _])=>sz=k∧match rows[i]? with
   | some r=>A (upd (upd env (some pi) (.int .i64 i)) (some pe) (.agg r)) σ (fun e env' σ'=>e=.normal∧B env' σ' (fun e _ σ''=>e=.normal∧rounds A B k b pi pe env i σ'' Q))
   | none=>False
  | _=>False
def vcC (P:Program) (G:Glo) (o:Opts):Code→Env→St→(Exit→Env→St→Prop)→Prop
 | .skip,env,σ,Q=>Q .normal env σ
 | .ret,env,σ,Q=>Q .ret env σ
 | .exit id,env,σ,Q=>Q (.exit id) env σ
 | .seq x y,env,σ,Q=>vcC P G o x env σ (aThen (fun env σ=>vcC P G o y env σ Q) Q)
 | .cond c x y,env,σ,Q=>match ev G env c with
  | .bool b=>vcIf b (vcC P G o x env σ Q) (vcC P G o y env σ Q)
  | _=>False
 | .block id c,env,σ,Q=>vcC P G o c env σ (aBlock id Q)
 | .region id ops d,env,σ,Q=>match d,o.fk.lookup id with
  | true,some (s,ac)=>vcS P G o.mu ac ops s env σ (fun env σ=>Q .normal env σ)
  | d,_=>vcR P G o.mu ops d (o.lw.contains id) ops.toList env σ (fun env σ=>Q .normal env σ)
 | .loop c,env,σ,Q=>∃ (I:Nat→Env→St→Prop) (n:Nat),I n env σ∧∀ n env σ,I n env σ→vcC P G o c env σ (aThen (fun env' σ'=>∃ n',n' < n∧I n' env' σ') Q)
 | .rangeFunc g ps x y,env,σ,Q=>match ps.toList,ev G env g with
  | [pi,pe],.fn gb [] [.ptr b 0]=>∃ k,G.NoX∧BwOk P G gb k∧(match σ.H[b]? with
   | some (.cells [.sl _ rows _])=>rows.length<2 ^ 62∧rounds (fun env σ Q=>vcC P G o x env σ Q) (fun env σ Q=>vcC P G o y env σ Q) k b pi pe env rows.length σ (fun σ=>Q .normal env σ)
   | _=>False)
  | [pe],.fn gb [] cap=>∃ (pre:St→Prop) (vals:List AV) (J:Nat→St→Prop),G.NoX∧FwOk P G gb cap pre vals∧(∀ i σ,J i σ→pre σ)∧J 0 σ ∧
   (∀ i v σ,vals[i]?=some v→J i σ→vcC P G o x (upd env (some pe) v) σ (fun e env' σ'=>e=.normal∧vcC P G o y env' σ' (fun e _ σ''=>e=.normal∧J (i+1) σ''))) ∧
   ∀ σ,J vals.length σ→Q .normal env σ
  | _,_=>False
 | .scope c,env,σ,Q=>vcC P G o c env σ (aScope Q)
 | .label _,env,σ,Q=>Q .normal env σ
 | _,_,_,_=>False
section
variable {P:Program} {G:Glo} {N:Nat} {env:Env} {σ:St} {ops:Array Oper} {mu:Bool} {ac:List Nat}
theorem AWp.any {id:Nat} {Q:Exit→Env→St→Prop} (hm:P.follows .mixedOrders=true) (hs:slotsOk N ops=true) (h:AnyB P G ops mu ac (fun env σ=>Q .normal env σ) ops.size (Array.replicate ops.size false) env σ) :
 AWp P G N (.region id ops true) env σ Q:=by
 intro w0 ro0 K a w hw he
 refine wp_region_any hm ?_
 exact anyB_sound hs (Q:=APost G w0 ro0 K N a.defers Q) ops.size (Array.replicate ops.size false) env σ K a { w with drawn:=w.drawn+1 }
  (fun K' env' σ' a' w' h1 h2 h3 hd h4=>.inl ⟨K',env',σ',h1,h2,h3,.same hd,h4⟩) (fun c K' σ' a' w' h1 h2 hd hx=>.inr ⟨c,K',σ',rfl,h1,h2,.same hd,hx⟩) hw.drew he h
end
/-- What a piece of a round does. -/
def AWpI (ro:Option Nat) (P:Program) (G:Glo) (N:Nat) (c:Code) (env:Env) (σ:St) (Q:Exit→Env→St→Prop):Prop :=
 ∀ (w0:World) (ro0:Nat→Nat→Option Value) (K:Kn) (a:Act) (w:World),WRel G w0 ro0 K σ w→ERel K N env a→c.wpIn (FR ro) 0 P (APost G w0 ro0 K N a.defers Q) a w
section
variable {P:Program} {G:Glo} {N:Nat} {ro:Option Nat} {env:Env} {σ:St} {Q:Exit→Env→St→Prop}
theorem AWpI.seq {x y:Code} (h:AWpI ro P G N x env σ (aThen (fun env σ=>AWpI ro P G N y env σ Q) Q)):AWpI ro P G N (.seq x y) env σ Q:=by
 intro w0 ro0 K a w hw he
 refine wpIn_seq (wpIn_mono (h w0 ro0 K a w hw he) ?_)
 intro e a' w' hp
 rcases hp with ⟨K',env',σ',h1,h2,h3,hd,h4⟩|⟨c,K',σ',rfl,hp⟩
 case inr=>exact .inr ⟨c,K',σ',rfl,hp⟩
 cases e with
 | normal=>exact wpIn_mono (h4 w0 ro0 K' a' w' h2 h3) fun e a w x=>x.after h1 hd
 | _=>exact .inl ⟨K',env',σ',h1,h2,h3,hd,h4⟩
theorem AWpI.block {id:Nat} {c:Code} (h:AWpI ro P G N c env σ (aBlock id Q)):AWpI ro P G N (.block id c) env σ Q:=by
 intro w0 ro0 K a w hw he
 refine wpIn_block (wpIn_mono (h w0 ro0 K a w hw he) ?_)
 intro e a' w' hp
 rcases hp with ⟨K',env',σ',h1,h2,h3,hd,h4⟩|⟨c,K',σ',rfl,hp⟩
 case inr=>exact .inr ⟨c,K',σ',rfl,hp⟩
 cases e with
 | exit id'=>
  simp only [aBlock] at h4
  simp only [Exit.inBlock]
  split
  · rename_i e;rw [if_pos e] at h4;exact .inl ⟨K',env',σ',h1,h2,h3,hd,h4⟩
  · rename_i e;rw [if_neg e] at h4;exact .inl ⟨K',env',σ',h1,h2,h3,hd,h4⟩
 | _=>exact .inl ⟨K',env',σ',h1,h2,h3,hd,h4⟩
theorem AWpI.mono {c:Code} {Q':Exit→Env→St→Prop} (h:AWpI ro P G N c env σ Q) (hq:∀ e env σ,Q e env σ→Q' e env σ):AWpI ro P G N c env σ Q' :=
 fun w0 ro0 K a w hw he=>wpIn_mono (h w0 ro0 K a w hw he) fun e a w x=>x.mono hq
end
theorem vcC_soundI {P:Program} {G:Glo} {N:Nat} {ro:Option Nat} {o:Opts} (hX:G.NoX):∀ (c:Code) {env:Env} {σ:St} {Q:Exit→Env→St→Prop},codeOkI N c=true→vcC P G o c env σ Q→AWpI ro P G N c env σ Q
 | .skip,env,σ,_,_,h=>fun w0 ro0 K a w hw he=>wpIn_skip (.inl ⟨K,env,σ,Kn.le_refl K,hw,he,.same rfl,h⟩)
 | .exit id,env,σ,_,_,h=>fun w0 ro0 K a w hw he=>wpIn_exit (.inl ⟨K,env,σ,Kn.le_refl K,hw,he,.same rfl,h⟩)
 | .seq x y,env,σ,Q,hk,h=>by
  simp only [codeOkI,Bool.and_eq_true] at hk
  exact AWpI.seq (AWpI.mono (vcC_soundI hX x hk.1 (by simpa only [vcC] using h)) fun e env σ hq=>by
   cases e<;>first | exact vcC_soundI hX y hk.2 hq | exact hq)
 | .cond c x y,env,σ,Q,hk,h=>by
  simp only [codeOkI,Bool.and_eq_true] at hk
  simp only [vcC] at h
  split at h
  · rename_i b hb
    intro w0 ro0 K a w hw he
    have:=ev_rel hw he c
    rw [hb] at this
    simp only [VRel] at this
    exact wpIn_cond_split this (fun e=>vcC_soundI hX x hk.1 (h.1 e) w0 ro0 K a w hw he) (fun e=>vcC_soundI hX y hk.2 (h.2 e) w0 ro0 K a w hw he)
  · exact h.elim
 | .block id c,_,_,_,hk,h=>AWpI.block (vcC_soundI hX c hk (by simpa only [vcC] using h))
 | .region id ops false,env,σ,Q,hk,h=>by
  have h':vcR P G o.mu ops false (o.lw.contains id) ops.toList env σ (fun env σ=>Q .normal env σ):=by
   simp only [vcC] at h
   exact h
  intro w0 ro0 K a w hw he
  have:=wpIn_region_list (F:=FR ro) (n:=0) (P:=P) (id:=id) (ops:=ops) (a:=a) (w:=w) (Q:=APost G w0 ro0 K N a.defers Q) (by
   have:=vcR_soundIn hX (w0:=w0) (ro0:=ro0) (by simpa only [codeOkI] using hk) (ro:=ro) (n:=0) (more:=[]) ops.toList env σ K a w (by simp) h' hw he (Q':=APost G w0 ro0 K N a.defers Q) fun K' env' σ' a' w' h1 h2 h3 hd _ h4=>.inl ⟨K',env',σ',h1,h2,h3,.same hd,h4⟩
   simpa using this)
  exact this
 | .region id ops true,_,_,_,hk,_=>by simp [codeOkI] at hk
 | .ret,_,_,_,hk,_=>by simp [codeOkI] at hk
 | .loop c,_,_,_,hk,_=>by simp [codeOkI] at hk
 | .rangeFunc ..,_,_,_,hk,h=>by simp [codeOkI] at hk
 | .scope c,_,_,_,hk,h=>by simp [codeOkI] at hk
 | .label l,_,_,_,hk,h=>by simp [codeOkI] at hk
 | .goto l,_,_,_,hk,h=>by simp [codeOkI] at hk
 | .refuse w,_,_,_,hk,h=>by simp [codeOkI] at hk
theorem bodied_run {P:Program} {g:FuncId} (hb:bodied P g=true) (args:Array Value) (w:World):(callFunc g args).run P w=.ok (.enter g args) w:=by
 cases hg:P.funcs[g]? with
 | none=>simp [bodied,hg] at hb
 | some fn=>
  simp [bodied,hg] at hb
  obtain⟨b1,b2⟩:=hb
  have hbn:¬ fn.body=none:=by intro e;simp [e] at b1
  simp [callFunc,hg,b2,hbn]
/-- **A range over a row, from its last element on.** -/
theorem AWp.range {P:Program} {G:Glo} (hX:G.NoX) {N:Nat} {env:Env} {σ:St} {Q:Exit→Env→St→Prop} {o:Opts} {g:Operand} {pi pe:Nat} {x y:Code} {gb b k:Nat} {sz:Nat} {rows:List (List AV)} {tok:Tok}
 (hpi:pi<N) (hpe:pe<N) (hx:codeOkI N x=true) (hy:codeOkI N y=true) (hg:ev G env g=.fn gb [] [.ptr b 0]) (hbw:BwOk P G gb k) (hlen:rows.length<2 ^ 62) (hb:σ.H[b]?=some (.cells [.sl sz rows tok]))
 (h:rounds (fun env σ Q=>vcC P G o x env σ Q) (fun env σ Q=>vcC P G o y env σ Q) k b pi pe env rows.length σ (fun σ=>Q .normal env σ)):AWp P G N (.rangeFunc g #[pi,pe] x y) env σ Q:=by
 intro w0 ro0 K a w hw he
 refine (wpIn_wide (n:=0)).1 (wpIn_rangeFunc fun fn hfn=>?_)
 have hv:=ev_rel hw he g
 rw [hg] at hv
 simp only [VRel,VRels] at hv
 obtain⟨va,vb,e1,e2,v1,vr,e3,⟨B,hB,e4⟩,e5⟩:=hv
 have ea:va = #[]:=Array.eq_empty_of_size_eq_zero (by rw [← Array.length_toList,e2];rfl)
 have eb:vb = #[.pointer (some ⟨B,0,none⟩)]:=by rw [← Array.toArray_toList (xs:=vb),e3,e4,e5]
 subst ea eb
 obtain⟨rec,hrec⟩:∃ rec:LoopState→Option Code→Loop,rec=fun st pe'=>{ state:=st,pending:=pe',fn,tmps:=a.tmps,params:=#[pi,pe],assign:=x,body:=y,defers:=w.heap.size }:=⟨_,rfl⟩
 obtain⟨W1,hW1⟩:∃ W1,(w.alloc (.deferred (some []))).alloc (.loop (rec .ready none))=W1:=⟨_,rfl⟩
 have hw1:=hw.allocFix (.deferred (some []))
 have hw2:=hw1.allocFix (.loop (rec .ready none))
 rw [hW1,World.size_alloc] at hw2
 obtain⟨K2,hK2⟩:∃ K2,((K.withFx fun b=>if b=w.heap.size then some (.deferred (some [])) else K.fx b).withFx fun b=>if b=w.heap.size+1 then some (.loop (rec .ready none)) else (K.withFx fun b=>if b=w.heap.size then some (.deferred (some [])) else K.fx b).fx b)=K2:=⟨_,rfl⟩
 rw [hK2] at hw2
 have hleK:K.le K2:=by
  rw [← hK2]
  refine Kn.le_trans (Kn.le_fx fun B o e=>?_) (Kn.le_fx fun B o e=>?_)
  · have:=hw.fx_lt e
    rw [if_neg (by omega)];exact e
  · have:=hw1.fx_lt e
    rw [World.size_alloc] at this
    rw [if_neg (by omega)];exact e
 have hL2:K2.fx (w.heap.size+1)=some (.loop (rec .ready none)):=by rw [← hK2];simp [Kn.withFx]
 have hD2:K2.fx w.heap.size=some (.deferred (some [])):=by rw [← hK2];simp [Kn.withFx]
 refine⟨w.heap.size+1,[mark w.heap.size],W1,{ target:=.fn (.func gb) #[.pointer (some ⟨B,0,none⟩)],args:=#[.func (.yield (w.heap.size+1)) #[] #[]] },W1,gb,
  #[.func (.yield (w.heap.size+1)) #[] #[]]++#[.pointer (some ⟨B,0,none⟩)],W1,?_,?_,fun _ _=>trivial,?_,fun e=>by simp [Fence.wide] at e,?_⟩
 · rw [← hW1,hrec];exact run_enterLoop_outer _ _ _ _ _
 · simp only [resolve,e1]
   simp [go_sem]
 · simp [invoke,go_sem,bodied_run hbw.1]
 · refine CallsIn.mono (hbw.2 w0 ro0 b (w.heap.size+1) B K2 σ W1 sz rows tok (fun i σ=>rounds (fun env σ Q=>vcC P G o x env σ Q) (fun env σ Q=>vcC P G o y env σ Q) k b pi pe env i σ (fun σ=>Q .normal env σ)) hw2 (hleK.m _ _ hB) hb hlen h ?_) ?_
   · -- one round
     intro i σ' K' w' hr hle' hw'
     simp only [rounds] at hr
     split at hr
     · rename_i sz' rows' tok' hb'
       obtain⟨hszk,hr⟩:=hr
       subst hszk
       split at hr
       · rename_i r hri
         refine⟨rows',tok',r,hb',hri,fun v hv=>?_⟩
         have hLf:=hle'.fx _ _ hL2
         have hl:=(hw'.fx _ _ hLf).1
         refine⟨fn,_,x,y,by have:=run_yield (P:=P) (args:=#[.int .i64 i,v]) hl (by rw [hrec];rfl);rw [hrec] at this;exact this,roundIn_of_wpIn hfn ?_⟩
         have he':ERel K' N (upd (upd env (some pi) (.int .i64 i)) (some pe) (.agg r)) { tmps:=(a.tmps.setIfInBounds pi (.int .i64 i)).setIfInBounds pe v,defers:=[] }:=by
          have h0:=he.mono (Kn.le_trans hleK hle')
          have h1:=(h0.put (dst:=some pi) (fun d hd=>by cases hd;exact hpi) (v:=.int .i64 i) (v':=.int .i64 i) (by simp [VRel])).put (dst:=some pe) (fun d hd=>by cases hd;exact hpe) hv
          exact⟨h1.size,h1.val⟩
         have hasn:=vcC_soundI hX (ro:=some (w.heap.size+1)) x hx hr w0 ro0 K' _ w' hw' he'
         refine wpIn_mono (F:=FR (some (w.heap.size+1))) (show Code.wpIn (FR (some (w.heap.size+1))) 0 P x _ _ w' from by simpa using hasn) ?_
         rintro e a1 w1 (⟨K3,env3,σ3,g1,g2,g3,_,rfl,g4⟩|⟨_,_,σ3,_,_,_,_,g⟩)
         case inr=>exact (hX _ σ3 g).elim
         have hL3:=g1.fx _ _ hLf
         have hl3:=(g2.fx _ _ hL3).1
         refine⟨_,run_beginRound hl3 (by rw [hrec]),?_⟩
         have hw4:=g2.refix hL3 (by intros;intro e;cases e) (.loop { rec .ready none with state:=.busy })
         have hbody:=vcC_soundI hX (ro:=some (w.heap.size+1)) y hy g4 w0 ro0 _ a1 _ hw4 (g3.refx _)
         refine wpIn_mono (F:=FR (some (w.heap.size+1))) hbody ?_
         rintro e a5 w5 (⟨K5,env5,σ5,k1,k2,k3,_,rfl,k4⟩|⟨_,_,σ5,_,_,_,_,g⟩)
         case inr=>exact (hX _ σ5 g).elim
         have hL5:K5.fx (w.heap.size+1)=some (.loop { rec .ready none with state:=.busy }):=k1.fx _ _ (by simp [Kn.withFx])
         have hl5:=(k2.fx _ _ hL5).1
         have hw6:=k2.refix hL5 (by intros;intro e;cases e) (.loop (rec .ready none))
         refine⟨.bool true,w5.putObj (w.heap.size+1) (.loop (rec .ready none)),?_,rfl,_,σ5,?_,hw6,k4⟩
         · have:=run_endRound (P:=P) none hl5
           rw [hrec] at this ⊢
           exact this
         · refine Kn.le_trans g1 (Kn.le_swap k1 fun B o e=>?_)
           by_cases hBL:B=w.heap.size+1
           · subst hBL;rw [hL3] at e;simp [e]
           · rw [if_neg hBL]
             refine k1.fx B o ?_
             simp only [Kn.withFx,if_neg hBL]
             exact e
       · exact hr.elim
     · exact hr.elim
   · -- behind the rounds
     rintro e w' ⟨⟨v,rfl⟩,K',σ',hle',hw',hS⟩
     have hLf:=hle'.fx _ _ hL2
     have hl:=(hw'.fx _ _ hLf).1
     have hw3:=(hw'.refix hLf (by intros;intro e;cases e) (.loop { rec .ready none with state:=.exhausted })).unfix (f:=fun B=>if B=w.heap.size+1 then none else K'.fx B) (by
      intro B o e
      by_cases hBL:B=w.heap.size+1
      · rw [if_pos hBL] at e;cases e
      · rw [if_neg hBL] at e;simp only [Kn.withFx,if_neg hBL];exact e)
     refine⟨none,w'.putObj (w.heap.size+1) (.loop { rec .ready none with state:=.exhausted }),?_,?_⟩
     · have:=run_endLoop (P:=P) hl (by rw [hrec];simp)
       rw [hrec] at this ⊢
       exact this
     · have hle3:K.le (K'.withFx fun B=>if B=w.heap.size+1 then none else K'.fx B):=by
        have:(K.withFx K.fx).le K':=Kn.le_trans hleK hle'
        refine Kn.le_swap this fun B o e=>?_
        have:=hw.fx_lt e
        rw [if_neg (by omega)]
        exact hle'.fx _ _ (hleK.fx _ _ e)
       have hfin:rounds (fun env σ Q=>vcC P G o x env σ Q) (fun env σ Q=>vcC P G o y env σ Q) k b pi pe env 0 σ' (fun σ=>Q .normal env σ):=hS
       simp only [rounds] at hfin
       refine .inl ⟨_,env,σ',hle3,hw3,⟨he.size,(he.mono hle3).val⟩,⟨[w.heap.size],by simp,rfl,fun D hD=>?_⟩,hfin⟩
       simp only [List.mem_singleton] at hD
       subst hD
       refine⟨?_,?_⟩
       · cases e:K.fx w.heap.size with
         | none=>rfl
         | some o=>have:=hw.fx_lt e;omega
       · simp only [Kn.withFx]
         rw [if_neg (by omega)]
         exact hle'.fx _ _ hD2
/-- **A range over values that a function hands on.** -/
theorem AWp.rangeF {P:Program} {G:Glo} (hX:G.NoX) {N:Nat} {env:Env} {σ:St} {Q:Exit→Env→St→Prop} {o:Opts} {g:Operand} {pe:Nat} {x y:Code} {gb:Nat} {cap vals:List AV} {pre:St→Prop} {J:Nat→St→Prop}
 (hpe:pe<N) (hx:codeOkI N x=true) (hy:codeOkI N y=true) (hg:ev G env g=.fn gb [] cap) (hfw:FwOk P G gb cap pre vals) (hpre:∀ i σ,J i σ→pre σ) (hJ:J 0 σ)
 (hs:∀ i v σ,vals[i]?=some v→J i σ→vcC P G o x (upd env (some pe) v) σ (fun e env' σ'=>e=.normal∧vcC P G o y env' σ' (fun e _ σ''=>e=.normal∧J (i+1) σ'')))
 (hq:∀ σ,J vals.length σ→Q .normal env σ):AWp P G N (.rangeFunc g #[pe] x y) env σ Q:=by
 intro w0 ro0 K a w hw he
 refine (wpIn_wide (n:=0)).1 (wpIn_rangeFunc fun fn hfn=>?_)
 have hv:=ev_rel hw he g
 rw [hg] at hv
 simp only [VRel,VRels] at hv
 obtain⟨va,vb,e1,e2,e3⟩:=hv
 have ea:va = #[]:=Array.eq_empty_of_size_eq_zero (by rw [← Array.length_toList,e2];rfl)
 subst ea
 obtain⟨rec,hrec⟩:∃ rec:LoopState→Option Code→Loop,rec=fun st pe'=>{ state:=st,pending:=pe',fn,tmps:=a.tmps,params:=#[pe],assign:=x,body:=y,defers:=w.heap.size }:=⟨_,rfl⟩
 obtain⟨W1,hW1⟩:∃ W1,(w.alloc (.deferred (some []))).alloc (.loop (rec .ready none))=W1:=⟨_,rfl⟩
 have hw1:=hw.allocFix (.deferred (some []))
 have hw2:=hw1.allocFix (.loop (rec .ready none))
 rw [hW1,World.size_alloc] at hw2
 obtain⟨K2,hK2⟩:∃ K2,((K.withFx fun b=>if b=w.heap.size then some (.deferred (some [])) else K.fx b).withFx fun b=>if b=w.heap.size+1 then some (.loop (rec .ready none)) else (K.withFx fun b=>if b=w.heap.size then some (.deferred (some [])) else K.fx b).fx b)=K2:=⟨_,rfl⟩
 rw [hK2] at hw2
 have hleK:K.le K2:=by
  rw [← hK2]
  refine Kn.le_trans (Kn.le_fx fun B o e=>?_) (Kn.le_fx fun B o e=>?_)
  · have:=hw.fx_lt e
    rw [if_neg (by omega)];exact e
  · have:=hw1.fx_lt e
    rw [World.size_alloc] at this
    rw [if_neg (by omega)];exact e
 have hL2:K2.fx (w.heap.size+1)=some (.loop (rec .ready none)):=by rw [← hK2];simp [Kn.withFx]
 have hD2:K2.fx w.heap.size=some (.deferred (some [])):=by rw [← hK2];simp [Kn.withFx]
 refine⟨w.heap.size+1,[mark w.heap.size],W1,{ target:=.fn (.func gb) vb,args:=#[.func (.yield (w.heap.size+1)) #[] #[]] },W1,gb,
  #[.func (.yield (w.heap.size+1)) #[] #[]]++vb,W1,?_,?_,fun _ _=>trivial,?_,fun e=>by simp [Fence.wide] at e,?_⟩
 · rw [← hW1,hrec];exact run_enterLoop_outer _ _ _ _ _
 · simp only [resolve,e1]
   simp [go_sem]
 · simp [invoke,go_sem,bodied_run hfw.1]
 · refine CallsIn.mono (hfw.2 w0 ro0 (w.heap.size+1) K2 σ W1 vb J hw2 (VRels.mono hleK _ e3) hpre hJ ?_) ?_
   · -- one round
     intro i xv σ' K' w' hxv hr0 hle' hw' v hv
     have hr:=hs i xv σ' hxv hr0
     have hLf:=hle'.fx _ _ hL2
     have hl:=(hw'.fx _ _ hLf).1
     refine⟨fn,_,x,y,by have:=run_yield (P:=P) (args:=#[v]) hl (by rw [hrec];rfl);rw [hrec] at this;exact this,roundIn_of_wpIn hfn ?_⟩
     · have he':ERel K' N (upd env (some pe) xv) { tmps:=a.tmps.setIfInBounds pe v,defers:=[] }:=by
        have h0:=he.mono (Kn.le_trans hleK hle')
        have h1:=h0.put (dst:=some pe) (fun d hd=>by cases hd;exact hpe) hv
        exact⟨h1.size,h1.val⟩
       have hasn:=vcC_soundI hX (ro:=some (w.heap.size+1)) x hx hr w0 ro0 K' _ w' hw' he'
       refine wpIn_mono (F:=FR (some (w.heap.size+1))) (show Code.wpIn (FR (some (w.heap.size+1))) 0 P x _ _ w' from by simpa using hasn) ?_
       rintro e a1 w1 (⟨K3,env3,σ3,g1,g2,g3,_,rfl,g4⟩|⟨_,_,σ3,_,_,_,_,g⟩)
       case inr=>exact (hX _ σ3 g).elim
       have hL3:=g1.fx _ _ hLf
       have hl3:=(g2.fx _ _ hL3).1
       refine⟨_,run_beginRound hl3 (by rw [hrec]),?_⟩
       have hw4:=g2.refix hL3 (by intros;intro e;cases e) (.loop { rec .ready none with state:=.busy })
       have hbody:=vcC_soundI hX (ro:=some (w.heap.size+1)) y hy g4 w0 ro0 _ a1 _ hw4 (g3.refx _)
       refine wpIn_mono (F:=FR (some (w.heap.size+1))) hbody ?_
       rintro e a5 w5 (⟨K5,env5,σ5,k1,k2,k3,_,rfl,k4⟩|⟨_,_,σ5,_,_,_,_,g⟩)
       case inr=>exact (hX _ σ5 g).elim
       have hL5:K5.fx (w.heap.size+1)=some (.loop { rec .ready none with state:=.busy }):=k1.fx _ _ (by simp [Kn.withFx])
       have hl5:=(k2.fx _ _ hL5).1
       have hw6:=k2.refix hL5 (by intros;intro e;cases e) (.loop (rec .ready none))
       refine⟨.bool true,w5.putObj (w.heap.size+1) (.loop (rec .ready none)),?_,rfl,_,σ5,?_,hw6,k4⟩
       · have:=run_endRound (P:=P) none hl5
         rw [hrec] at this ⊢
         exact this
       · refine Kn.le_trans g1 (Kn.le_swap k1 fun B o e=>?_)
         by_cases hBL:B=w.heap.size+1
         · subst hBL;rw [hL3] at e;simp [e]
         · rw [if_neg hBL]
           refine k1.fx B o ?_
           simp only [Kn.withFx,if_neg hBL]
           exact e
   · -- behind the rounds
     rintro e w' ⟨⟨v,rfl⟩,K',σ',hle',hw',hS⟩
     have hLf:=hle'.fx _ _ hL2
     have hl:=(hw'.fx _ _ hLf).1
     have hw3:=(hw'.refix hLf (by intros;intro e;cases e) (.loop { rec .ready none with state:=.exhausted })).unfix (f:=fun B=>if B=w.heap.size+1 then none else K'.fx B) (by
      intro B o e
      by_cases hBL:B=w.heap.size+1
      · rw [if_pos hBL] at e;cases e
      · rw [if_neg hBL] at e;simp only [Kn.withFx,if_neg hBL];exact e)
     refine⟨none,w'.putObj (w.heap.size+1) (.loop { rec .ready none with state:=.exhausted }),?_,?_⟩
     · have:=run_endLoop (P:=P) hl (by rw [hrec];simp)
       rw [hrec] at this ⊢
       exact this
     · have hle3:K.le (K'.withFx fun B=>if B=w.heap.size+1 then none else K'.fx B):=by
        have:(K.withFx K.fx).le K':=Kn.le_trans hleK hle'
        refine Kn.le_swap this fun B o e=>?_
        have:=hw.fx_lt e
        rw [if_neg (by omega)]
        exact hle'.fx _ _ (hleK.fx _ _ e)
       have hfin:=hq σ' hS
       refine .inl ⟨_,env,σ',hle3,hw3,⟨he.size,(he.mono hle3).val⟩,⟨[w.heap.size],by simp,rfl,fun D hD=>?_⟩,hfin⟩
       simp only [List.mem_singleton] at hD
       subst hD
       refine⟨?_,?_⟩
       · cases e:K.fx w.heap.size with
         | none=>rfl
         | some o=>have:=hw.fx_lt e;omega
       · simp only [Kn.withFx]
         rw [if_neg (by omega)]
         exact hle'.fx _ _ hD2
theorem vcC_sound {P:Program} {G:Glo} {N:Nat} {o:Opts} (hm:P.follows .mixedOrders=true):∀ (c:Code) {env:Env} {σ:St} {Q:Exit→Env→St→Prop},codeOk N o c=true→vcC P G o c env σ Q→AWp P G N c env σ Q
 | .skip,_,_,_,_,h=>AWp.skip h
 | .ret,_,_,_,_,h=>AWp.ret h
 | .exit id,_,_,_,_,h=>AWp.exit h
 | .seq x y,env,σ,Q,hk,h=>by
  simp only [codeOk,Bool.and_eq_true] at hk
  exact AWp.seq (AWp.mono (vcC_sound hm x hk.1 (by simpa only [vcC] using h)) fun e env σ hq=>by
   cases e<;>first | exact vcC_sound hm y hk.2 hq | exact hq)
 | .cond c x y,env,σ,Q,hk,h=>by
  simp only [codeOk,Bool.and_eq_true] at hk
  simp only [vcC] at h
  split at h
  · rename_i b hb
    exact AWp.cond hb (fun e=>vcC_sound hm x hk.1 (h.1 e)) (fun e=>vcC_sound hm y hk.2 (h.2 e))
  · exact h.elim
 | .block id c,_,_,_,hk,h=>AWp.block (vcC_sound hm c hk (by simpa only [vcC] using h))
 | .region id ops false,env,σ,Q,hk,h=>by
  simp only [codeOk,Bool.and_eq_true] at hk
  have h':vcR P G o.mu ops false (o.lw.contains id) ops.toList env σ (fun env σ=>Q .normal env σ):=by
   simp only [vcC] at h
   exact h
  intro w0 ro0 K a w hw he
  have:=wp_region_lit (P:=P) (id:=id) (l:=ops.toList) (a:=a) (w:=w) (Q:=APost G w0 ro0 K N a.defers Q) (vcR_sound (by simpa using hk.1) ops.toList env σ K a w (by simp) (by simpa using h') hw he (fun K' env' σ' a' w' h1 h2 h3 hd h4=>.inl ⟨K',env',σ',h1,h2,h3,.same hd,h4⟩) fun c K' σ' a' w' h1 h2 hd hx=>.inr ⟨c,K',σ',rfl,h1,h2,.same hd,hx⟩)
  simpa using this
 | .region id ops true,env,σ,Q,hk,h=>by
  simp only [codeOk,Bool.and_eq_true,Bool.or_eq_true,Bool.not_true,Bool.false_eq_true,false_or] at hk
  simp only [vcC] at h
  cases hl:o.fk.lookup id with
  | none=>
   rw [hl] at hk h
   simp only at hk h
   refine AWp.any hm hk.1 (mu:=o.mu) (ac:=if o.lw.contains id then [ops.size-1] else []) ?_
   have:=lex_any (P:=P) (G:=G) (ops:=ops) (lw:=o.lw.contains id) (mu:=o.mu) ops.toList 0 (Array.replicate ops.size false) env σ (by simp) (by simp) (by simpa [drawOk] using hk.2) h
   simpa using this
  | some p=>
   obtain⟨s,ac⟩:=p
   rw [hl] at hk h
   simp only [Bool.and_eq_true,decide_eq_true_eq] at hk h
   exact AWp.any hm hk.1 (mu:=o.mu) (ac:=ac) (vcS_any s ops.size _ env σ hk.2.1 hk.2.2 h)
 | .loop c,_,_,_,hk,h=>by
  simp only [vcC] at h
  obtain⟨I,n,h0,hr⟩:=h
  exact AWp.loop I n h0 fun n env σ hI=>vcC_sound hm c hk (hr n env σ hI)
 | .rangeFunc g ps x y,env,σ,Q,hk,h=>by
  simp only [codeOk,Bool.and_eq_true] at hk
  obtain⟨⟨hk1,hk2⟩,hk3⟩:=hk
  simp only [vcC] at h
  split at h
  · rename_i pi pe gb b hps hg
    obtain⟨k,hX,hbw,h⟩:=h
    rw [hps] at hk1
    simp only [Bool.and_eq_true,decide_eq_true_eq] at hk1
    split at h
    · rename_i sz rows tok hb
      have:ps = #[pi,pe]:=by rw [← Array.toArray_toList (xs:=ps),hps]
      subst this
      exact AWp.range hX hk1.1 hk1.2 hk2 hk3 hg hbw h.1 hb h.2
    · exact h.elim
  · rename_i pe gb cap hps hg
    obtain⟨pre,vals,J,hX,hfw,hpre,hJ,hs,hq⟩:=h
    rw [hps] at hk1
    simp only [decide_eq_true_eq] at hk1
    have:ps = #[pe]:=by rw [← Array.toArray_toList (xs:=ps),hps]
    subst this
    exact AWp.rangeF hX hk1 hk2 hk3 hg hfw hpre hJ hs hq
  · exact h.elim
 | .scope c,env,σ,Q,hk,h=>by
  simp only [codeOk] at hk
  intro w0 ro0 K a w hw he
  refine wp_scope_straight (wp_mono (vcC_sound hm c hk (by simpa only [vcC] using h) w0 ro0 K a w hw he) ?_)
  rintro e a' w' (⟨K',env',σ',h1,h2,h3,hd,h4⟩|⟨ch,K',σ',rfl,hp⟩)
  · cases e with
    | goto l=>exact h4.elim
    | _=>exact .inl ⟨K',env',σ',h1,h2,h3,hd,h4⟩
  · exact .inr ⟨ch,K',σ',rfl,hp⟩
 | .label l,env,σ,Q,hk,h=>fun w0 ro0 K a w hw he=>wp_label (.inl ⟨K,env,σ,Kn.le_refl K,hw,he,.same rfl,h⟩)
 | .goto l,_,_,_,hk,h=>by simp [codeOk] at hk
 | .refuse w,_,_,_,hk,h=>by simp [codeOk] at hk
section
variable {P:Program} {G:Glo} {σ:St} {f:FuncId} {args args':List AV} {r r':AV}
theorem Pure.sub (h:Pure P G f args' r') (ha:LeqL args args') (hr:Leq r' r):Pure P G f args r :=
 ⟨h.1,fun w0 ro vs hg hro hvs=>(h.2 w0 ro vs hg hro (LeqL.rel _ _ ha hvs)).mono fun e w' ⟨v,ro',h1,h2,h3,h4,h5,h6⟩=>⟨v,ro',h1,h2,h3,h4,h5,Leq.rel _ _ hr h6⟩⟩
theorem Pure.less (h:Pure P G f args' r) (ha:LeqL args args'):Pure P G f args r:=h.sub ha (Leq.refl r)
/-- A call of a function whose contract is known: what is handed over may hold references to the state's own blocks if the result holds none. -/
theorem ACall.pure {Q:AV→St→Prop} (h:Pure P G f args' r) (hno:noRefs (args.map plain)=true) (ha:LeqL (args.map plain) args') (hq:Q r σ):ACall P G f args σ Q :=
 PCall.acall (.inl ⟨hno,h.less ha⟩) hq
theorem ACall.lent {Q:AV→St→Prop} (h:Pure P G f args' r) (hb:bare r=true) (ha:LeqL (args.map (frz σ.H 8)) args') (hq:Q r σ):ACall P G f args σ Q :=
 PCall.acall (.inr ⟨hb,h.less ha⟩) hq
theorem PCall.pure (h:Pure P G f args' r) (hno:noRefs (args.map plain)=true) (ha:LeqL (args.map plain) args'):PCall P G f args σ r:=.inl ⟨hno,h.less ha⟩
theorem PCall.lent (h:Pure P G f args' r) (hb:bare r=true) (ha:LeqL (args.map (frz σ.H 8)) args'):PCall P G f args σ r:=.inr ⟨hb,h.less ha⟩
theorem vcCall.of {d:Bool} {Q:AV→St→Prop} (h:PCall P G f args σ r) (hq:Q r σ):vcCall P G d f args σ Q:=by
 cases d
 · exact h.acall hq
 · exact⟨r,h,hq⟩
theorem vcCall.pure {d:Bool} {Q:AV→St→Prop} (h:Pure P G f args' r) (hno:noRefs (args.map plain)=true) (ha:LeqL (args.map plain) args') (hq:Q r σ):vcCall P G d f args σ Q:=.of (.pure h hno ha) hq
theorem vcCall.lent {d:Bool} {Q:AV→St→Prop} (h:Pure P G f args' r) (hb:bare r=true) (ha:LeqL (args.map (frz σ.H 8)) args') (hq:Q r σ):vcCall P G d f args σ Q:=.of (.lent h hb ha) hq
/-- Where a pure function's body may end: its results are 'r'. 'deep': they are frozen to their depth. -/
def fnEnd (P:Program) (deep:Bool) (rs:List ResultVar) (r:AV) (env:Env) (σ:St):Prop :=
 match resA (Dof P) rs env σ with
 | some l=>match deep with
  | false=>noRef (fin σ.H (tupA l))=true∧Leq (fin σ.H (tupA l)) r
  | true=>noRef (frz σ.H 8 (tupA l))=true∧Leq (frz σ.H 8 (tupA l)) r
 | none=>False
def fnPost (P:Program) (deep:Bool) (rs:List ResultVar) (r:AV):Exit→Env→St→Prop
 | .ret,env,σ=>fnEnd P deep rs r env σ
 | .normal,env,σ=>fnEnd P deep rs r env σ
 | _,_,_=>False
theorem Pure.vcO {G : Nat → AV} {fn : Func} {c : Code} (o : Opts) (deep : Bool) (hm : P.follows .mixedOrders = true) (hf : P.funcs[f]? = some fn) (hb : fn.body = some c) (hk : (codeOk fn.ntmps o c && decide (args.length ≤ fn.ntmps) && fn.name != "runtime.NumGoroutine") = true)
 (h:vcC P G o c (envOf args) ⟨[],[]⟩ (fnPost P deep fn.results.toList r)):Pure P G f args r:=by
 simp only [Bool.and_eq_true,decide_eq_true_eq,bne_iff_ne,ne_eq] at hk
 refine Pure.of_body (quiet_noX G) hf hb hk.2 hk.1.2 (AWp.mono (vcC_sound hm c hk.1.1 h) fun e env σ hq=>?_)
 have key:fnEnd P deep fn.results.toList r env σ→∃ l,resA (Dof P) fn.results.toList env σ=some l∧((noRef (fin σ.H (tupA l))=true∧Leq (fin σ.H (tupA l)) r)∨(noRef (frz σ.H 8 (tupA l))=true∧Leq (frz σ.H 8 (tupA l)) r)):=fun h=>by
  unfold fnEnd at h
  split at h
  · rename_i l hl
    cases deep
    · exact⟨l,hl,.inl h⟩
    · exact⟨l,hl,.inr h⟩
  · exact h.elim
 cases e with
 | ret=>exact⟨.inl rfl,key hq⟩
 | normal=>exact⟨.inr rfl,key hq⟩
 | _=>exact hq.elim
theorem Pure.vc {G : Nat → AV} {fn : Func} {c : Code} (hm : P.follows .mixedOrders = true) (hf : P.funcs[f]? = some fn) (hb : fn.body = some c) (hk : (codeOk fn.ntmps o0 c && decide (args.length ≤ fn.ntmps) && fn.name != "runtime.NumGoroutine") = true)
 (h:vcC P G o0 c (envOf args) ⟨[],[]⟩ (fnPost P false fn.results.toList r)):Pure P G f args r:=Pure.vcO o0 false hm hf hb hk h
end
end
end Go.Abs
end
