import Derived.Test.YtkodonalmdmgpaaGreatDoorSv05
import Derived.Test.YtkodonalmdmgpaaGreatDoorSv06
import Derived.Test.YtkodonalmdmgpaaGreatDoorSv07
import Derived.RangeFuncRecord
import Derived.Sort.LoopGhostIn
set_option linter.all false
set_option linter.defProp false
section
namespace Go.Abs
open Go Go.RowKit
section
/-- Whether an operation's guard lets it run. -/
def wantedA (ops:Array Oper) (env:Env) (o:Oper):Option Bool :=
 match o.guard with
 | none=>some true
 | some (j,b)=>match (ops[j]?).bind (·.dst) with
  | some t=>match env t with
   | .bool c=>some (c==b)
   | .tup []=>some false
   | _=>none
  | none=>some false
/-- The arguments that a function value's call hands over. -/
def callArgs (first args cap:List AV):List AV:=first++args++cap
/-- One operation: from (env, σ) it yields v and leaves σ'. -/
def OpA (P:Program) (G:Nat→AV) (o:Oper) (env:Env) (σ:St) (v:AV) (σ':St):Prop :=
 sem (Dof P) G env σ o.op=some (v,σ') ∨
 ∃ f args ts g first cap,o.op=.call { callee:=.value f,args:=args,argTypes:=ts }∧ev G env f=.fn g first cap∧PCall P G g (callArgs first (opds G env args.toList) cap) σ v∧σ'=σ
/-- One operation with its guard. -/
def StepA (P:Program) (G:Nat→AV) (ops:Array Oper) (o:Oper) (env:Env) (σ:St) (v:AV) (σ':St):Prop :=
 (wantedA ops env o=some false∧v=.tup []∧σ'=σ)∨(wantedA ops env o=some true∧OpA P G o env σ v σ')
section
variable {P:Program} {G:Nat→AV} {N:Nat} {env:Env} {σ σ':St} {w0:World} {ro0:Nat→Nat→Option Value} {K:Kn} {a:Act} {w:World} {ops:Array Oper} {o:Oper} {v:AV}
theorem wanted_rel (he:ERel K N env a) {b:Bool} (hj:∀ j,o.guard=some (j,true)∨o.guard=some (j,false)→∀ t,(ops[j]?).bind (·.dst)=some t→t<N) (h:wantedA ops env o=some b) :
 Region.wanted o (yielded ops a.tmps)=b:=by
 unfold wantedA at h
 unfold Region.wanted
 split at h
 · rename_i hg;simp at h;subst h;simp [hg]
 · rename_i j c hg
   simp only [hg]
   split at h
   · rename_i t ht
     have htN:t<N:=hj j (by cases c<;>simp [hg]) t ht
     have hv:=he.val t
     have hsz:t<a.tmps.size:=by rw [he.size];exact htN
     simp only [yielded,ht,Option.bind_some]
     split at h
     · rename_i x hx
       simp at h;subst h
       rw [hx] at hv
       simp only [VRel] at hv
       have:a.tmps[t]?=some (.bool x):=by
        rw [Array.getElem?_eq_getElem hsz]
        simp [hsz] at hv
        rw [hv]
       simp only [this]
       cases x<;>cases c<;>rfl
     · rename_i hx
       simp at h;subst h
       rw [hx] at hv
       simp only [VRel,VRels] at hv
       obtain⟨vs,hv1,hv2⟩:=hv
       have:a.tmps[t]?=some (.tuple vs):=by
        rw [Array.getElem?_eq_getElem hsz]
        simp [hsz] at hv1
        rw [hv1]
       simp only [this]
       rfl
     · cases h
   · rename_i ht
     simp at h;subst h
     simp [yielded,ht]
theorem exec_call (hw:WRel G w0 ro0 K σ w) (he:ERel K N env a) {f:Operand} {args:Array Operand} {ts:Array TypeId} {g:FuncId} {first cap:List AV} (ho:o.op=.call { callee:=.value f,args:=args,argTypes:=ts })
 (hf:ev G env f=.fn g first cap) (hb:bodied P g=true) :
 ∃ vs:Array Value,(execOp a.eval o).run P w=.ok (.enter g vs) w∧VRels K (callArgs first (opds G env args.toList) cap) vs.toList:=by
 have hv:=ev_rel hw he f
 rw [hf] at hv
 simp only [VRel] at hv
 obtain⟨va,vb,e1,h1,h2⟩:=hv
 refine⟨va++args.map a.eval++vb,?_,?_⟩
 · cases hg:P.funcs[g]? with
   | none=>simp [bodied,hg] at hb
   | some fn=>
    simp [bodied,hg] at hb
    obtain⟨b1,b2⟩:=hb
    have hbn:¬ fn.body=none:=by intro e;simp [e] at b1
    simp [execOp,ho,resolve,e1,Deferred.ofValue,invoke,callFunc,hg,b2,hbn]
 · have:=opds_rel hw he args.toList
   simp only [callArgs,Array.toList_append,Array.toList_map]
   exact (h1.append this).append h2
theorem Act.put_defers' {a:Act} {d:Option Tmp} {v:Value}:(a.put d v).defers=a.defers:=by
 unfold Act.put;split<;>rfl
/-- One operation that may run, as the walk of a region has it. -/
theorem op_step (hw:WRel G w0 ro0 K σ w) (he:ERel K N env a) (hd:∀ d,o.dst=some d→d<N) (h:OpA P G o env σ v σ') {next:Act→World→Prop} {Q:Exit→Act→World→Prop}
 (hn:∀ K' a' w',K.le K'→WRel G w0 ro0 K' σ' w'→ERel K' N (upd env o.dst v) a'→a'.defers=a.defers→next a' w'):o.wp P a w next Q:=by
 rcases h with h|⟨f,args,ts,g,first,cap,ho,hf,hp,rfl⟩
 · obtain⟨v',w',K',hr,h1,h2,h3⟩:=sem_sound hw he o h
   unfold Oper.wp
   rcases hr with hr|⟨hr,rfl⟩
   · rw [hr];exact hn K' _ w' h1 h2 ((he.mono h1).put hd h3) Act.put_defers'
   · rw [hr];exact hn K' _ w' h1 h2 ((he.mono h1).put hd h3) Act.put_defers'
 · obtain⟨vs,hr,hvs⟩:=exec_call hw he ho hf hp.bodied
   unfold Oper.wp
   rw [hr,Oper.upon_enter]
   refine (pcall hw hp hvs).mono ?_
   rintro e w' ⟨v',K',rfl,h1,h2,h3⟩
   exact hn K' _ w' h1 h2 ((he.mono h1).put hd h3) Act.put_defers'
/-- The slots that a region writes are slots of the frame; a guard looks at one of them. -/
def slotsOk (N:Nat) (ops:Array Oper):Bool:=ops.toList.all fun o=>match o.dst with | some d=>decide (d<N) | none=>true
theorem slots_dst {N:Nat} {ops:Array Oper} (h:slotsOk N ops=true) {o:Oper} (ho:o∈ops.toList):∀ d,o.dst=some d→d<N:=by
 intro d hd
 have:=List.all_eq_true.1 h o ho
 simpa [hd] using this
theorem slots_guard {N:Nat} {ops:Array Oper} (h:slotsOk N ops=true) (o:Oper):∀ j,o.guard=some (j,true)∨o.guard=some (j,false)→∀ t,(ops[j]?).bind (·.dst)=some t→t<N:=by
 intro j _ t ht
 obtain⟨o',h1,h2⟩:=Option.bind_eq_some_iff.1 ht
 exact slots_dst h (List.mem_of_getElem? (by simpa using h1)) t h2
/-! ### A function's body -/
def envOf (args:List AV):Env:=fun t=>args.getD t (.tup [])
/-- A function's results out of its slots. -/
def resA (D:Nat→Option TI) (rs:List ResultVar) (env:Env) (σ:St):Option (List AV) :=
 match rs with
 | []=>some []
 | .tmp t::r=>(resA D r env σ).map (env t::·)
 | .cell x t::r=>match loadA D σ t (env x),resA D r env σ with
  | some v,some l=>some (v::l)
  | _,_=>none
def tupA:List AV→AV
 | [v]=>v
 | l=>.tup l
/-- One result. -/
def resOne (a:Act):ResultVar→Sem Value
 | .tmp t=>pure (a.tmps.getD t undef)
 | .cell x t=>do loadVar t (← asAddr (a.tmps.getD x undef))
theorem run_resOnes (hw:WRel G w0 ro0 K σ w) (he:ERel K N env a):∀ (rs:List ResultVar) (l:List AV),resA (Dof P) rs env σ=some l →
 ∃ vs:List Value,(rs.mapM (resOne a)).run P w=.ok vs w∧VRels K l vs
 | [],l,h=>by simp [resA] at h;subst h;exact⟨[],by simp,by simp [VRels]⟩
 | .tmp t::r,l,h=>by
  simp only [resA] at h
  obtain⟨l',hl',rfl⟩:=Option.map_eq_some_iff.1 h
  obtain⟨vs,h1,h2⟩:=run_resOnes hw he r l' hl'
  refine⟨a.tmps.getD t undef::vs,?_,by simp only [VRels];exact⟨_,_,rfl,he.val t,h2⟩⟩
  rw [List.mapM_cons,Sem.run_bind]
  simp only [resOne,pure,Sem.run,Result.andThen_ok,Sem.run_bind,h1]
 | .cell x t::r,l,h=>by
  simp only [resA] at h
  split at h
  · rename_i v l' hv hl'
    simp only [Option.some.injEq] at h
    subst h
    obtain⟨vs,h1,h2⟩:=run_resOnes hw he r l' hl'
    obtain⟨v',r1,r2⟩:=load_same hw (he.val x) hv
    have hx:=he.val x
    have hptr:∃ ad,a.tmps.getD x undef=.pointer (some ad):=by
     cases hxx:env x<;>rw [hxx] at hx hv<;>simp only [VRel] at hx<;>first
      | (obtain⟨B,_,e⟩:=hx;exact⟨_,e⟩)
      | (obtain⟨B,o,e,_⟩:=hx;exact⟨_,e⟩)
      | (unfold loadA at hv;split at hv<;>simp_all)
    obtain⟨ad,had⟩:=hptr
    refine⟨v'::vs,?_,by simp only [VRels];exact⟨_,_,rfl,r2,h2⟩⟩
    rw [had] at r1
    simp only [Instr.loadAt,Instr.sureAddr,pure,Sem.run_bind,Sem.run,Result.andThen_ok] at r1
    rw [List.mapM_cons,Sem.run_bind]
    simp only [resOne,had,asAddr,pure,Sem.run,Result.andThen_ok,Sem.run_bind,r1,h1]
  · cases h
theorem run_results (hw:WRel G w0 ro0 K σ w) (he:ERel K N env a) {fn:Func} {l:List AV} (h:resA (Dof P) fn.results.toList env σ=some l) :
 ∃ v,(results fn a.tmps).run P w=.ok v w∧VRel K (tupA l) v:=by
 obtain⟨vs,h1,h2⟩:=run_resOnes hw he _ _ h
 have hrun:(fn.results.mapM (resOne a)).run P w=.ok vs.toArray w:=by
  rw [Array.mapM_eq_mapM_toList]
  simp [h1]
 have hres:results fn a.tmps=(fn.results.mapM (resOne a)).bind fun vs=>Sem.pure (if h:vs.size=1 then vs[0] else .tuple vs):=by
  unfold results
  show Sem.bind _ _=_
  congr 2
 have hlen:=h2.length
 cases l with
 | nil=>
  simp only [VRels] at h2
  subst h2
  refine⟨.tuple #[],?_,by simp only [tupA,VRel];exact⟨#[],rfl,by simp [VRels]⟩⟩
  rw [hres,Sem.run_bind',hrun]
  rfl
 | cons x r=>
  cases r with
  | nil=>
   simp only [VRels] at h2
   obtain⟨v,vr,rfl,g1,rfl⟩:=h2
   refine⟨v,?_,g1⟩
   rw [hres,Sem.run_bind',hrun]
   rfl
  | cons y r=>
   refine⟨.tuple vs.toArray,?_,by simp only [tupA,VRel];exact⟨_,rfl,by simpa using h2⟩⟩
   rw [hres,Sem.run_bind',hrun]
   have:¬ vs.toArray.size=1:=by simp at hlen ⊢;omega
   simp only [Result.andThen_ok,dif_neg this,Sem.run]
theorem ERel.enter {args:List AV} {vs:Array Value} {n:Nat} (hvs:VRels K args vs.toList) (hn:args.length≤n) :
 ERel K n (envOf args) { tmps:=vs++Array.replicate (n-vs.size) undef,defers:=[] }:=by
 have hlen:=hvs.length
 simp only [Array.length_toList] at hlen
 refine⟨by simp;omega,fun t=>?_⟩
 simp only [envOf]
 by_cases ht:t<vs.size
 · have h1:args[t]?=some args[t]:=List.getElem?_eq_getElem (by omega)
   obtain⟨v,e1,e2⟩:=hvs.get t _ h1
   have e1':vs[t]?=some v:=by simpa using e1
   simp only [List.getD_eq_getElem?_getD,h1,Option.getD_some]
   rw [Array.getD_eq_getD_getElem?,Array.getElem?_append_left ht,e1']
   exact e2
 · have h1:args[t]?=none:=List.getElem?_eq_none (by omega)
   simp only [List.getD_eq_getElem?_getD,h1,Option.getD_none]
   rw [Array.getD_eq_getD_getElem?,Array.getElem?_append_right (by omega)]
   have:(Array.replicate (n-vs.size) undef)[t-vs.size]?.getD undef=undef:=by
    rw [Array.getElem?_replicate]
    split<;>rfl
   rw [this]
   exact⟨#[],rfl,by simp [VRels]⟩
/-- At a function's end the marks are taken, then the results. -/
theorem leaves_marks {u:FrameMode} (hu:u≠.run) {fn:Func} {R:Ending→World→Prop} {tmps:Array Value} {f0:Nat→Option Obj}:∀ (Ds:List Nat) (K:Kn) (w:World),WRel G w0 ro0 K σ w→Ds.Nodup→(∀ D∈Ds,K.fx D=some (.deferred (some []))∧f0 D=none) →
 (∀ B o,f0 B=some o→K.fx B=some o) →
 (∀ (w':World),WRel G w0 ro0 (K.withFx f0) σ w'→LeavesIn Fence.wide 0 P fn tmps R [] u w')→LeavesInM Fence.wide 0 P fn tmps R (Ds.map mark) u w
 | [],K,w,hw,_,_,hf,h=>h w (hw.unfix hf)
 | D::Ds,K,w,hw,hn,hD,hf,h=>by
  obtain⟨d1,d2⟩:=hD D (by simp)
  obtain⟨b1,_⟩:=hw.fx D _ d1
  have hw1:=hw.refix d1 (by intros;intro e;cases e) (.deferred none)
  refine⟨hu,.inl ⟨D,_,rfl,run_takeDeferred b1,?_⟩⟩
  refine leaves_marks hu Ds _ _ hw1 (List.nodup_cons.1 hn).2 (fun D' hD'=>?_) (fun B o e=>?_) h
  · have hne:¬ D'=D:=fun e=>(List.nodup_cons.1 hn).1 (e▸hD')
    simp only [Kn.withFx,if_neg hne]
    exact hD D' (by simp [hD'])
  · have hne:¬ B=D:=fun e'=>by subst e';rw [d2] at e;cases e
    simp only [Kn.withFx,if_neg hne]
    exact hf B o e
/-- A function's contract out of what its body does. -/
theorem calls_of_awp {G:Glo} {f:FuncId} {fn:Func} {c:Code} {vs:Array Value} {R:Ending→World→Prop} {Q:Exit→Env→St→Prop} (hf:P.funcs[f]?=some fn) (hb:fn.body=some c)
 (h:c.wp P (APost G w0 ro0 K fn.ntmps [] Q) { tmps:=vs++Array.replicate (fn.ntmps-vs.size) undef,defers:=[] } w)
 (hR:∀ e K' env σ a w',K.le K'→WRel G w0 ro0 K' σ w'→ERel K' fn.ntmps env a→Q e env σ→(e=.ret∨e=.normal)∧∃ v,(results fn a.tmps).run P w'=.ok v w'∧R (.returned v) w')
 (hX:∀ c K' σ w',K.le K'→WRel G w0 ro0 K' σ w'→G.X c σ→R (.panicked c) w'):Calls P f vs w R:=by
 refine (callsIn_wide (n:=0)).1 (callsIn_of_wp_marks hf hb trivial (wpIn_mono (wpIn_wide.2 h) ?_))
 rintro e a w' (⟨K',env,σ',h1,h2,h3,⟨Ds,n1,n2,n3⟩,hq⟩|⟨c,K',σ',rfl,h1,h2,⟨Ds,n1,n2,n3⟩,hq⟩)
 · have he:=(hR e K' env σ' a w' h1 h2 h3 hq).1
   have key:LeavesInM Fence.wide 0 P fn a.tmps R a.defers .returning w':=by
    rw [n2,List.append_nil]
    refine leaves_marks (by simp) (G:=G) (w0:=w0) (ro0:=ro0) (σ:=σ') (f0:=K.fx) Ds K' w' h2 n1 (fun D hD=>⟨(n3 D hD).2,(n3 D hD).1⟩) h1.fx fun w'' hw''=>?_
    exact (hR e _ env σ' a w'' (Kn.le_swap (K:=K) (f:=K.fx) h1 fun _ _ e=>e) hw'' (h3.refx K.fx) hq).2
   rcases he with rfl|rfl
   · exact key
   · exact key
 · show LeavesInM Fence.wide 0 P fn a.tmps R a.defers (.panicking c) w'
   rw [n2,List.append_nil]
   refine leaves_marks (by simp) (G:=G) (w0:=w0) (ro0:=ro0) (σ:=σ') (f0:=K.fx) Ds K' w' h2 n1 (fun D hD=>⟨(n3 D hD).2,(n3 D hD).1⟩) h1.fx fun w'' hw''=>?_
   exact hX c _ σ' w'' (Kn.le_swap (K:=K) (f:=K.fx) h1 fun _ _ e=>e) hw'' hq
/-- **The contract of a pure function, out of what its body does.** -/
theorem Pure.of_body {G : Glo} (hX : G.NoX) {f : FuncId} {fn : Func} {c : Code} {args : List AV} {r : AV} (hf : P.funcs[f]? = some fn) (hb : fn.body = some c) (hnm : fn.name ≠ "runtime.NumGoroutine") (hn : args.length ≤ fn.ntmps)
 (h:AWp P G fn.ntmps c (envOf args) ⟨[],[]⟩ (fun e env σ=>(e=.ret∨e=.normal)∧∃ l,resA (Dof P) fn.results.toList env σ=some l∧((noRef (fin σ.H (tupA l))=true∧Leq (fin σ.H (tupA l)) r)∨(noRef (frz σ.H 8 (tupA l))=true∧Leq (frz σ.H 8 (tupA l)) r)))):Pure P G f args r:=by
 refine⟨by simp [bodied,hf,hb,hnm],?_⟩
 intro w0 ro vs hg hro hvs
 have hw:WRel G w0 ro (K0 ro) ⟨[],[]⟩ w0:=⟨Below.refl _ _,hg,hro,fun b o v e _=>e,by simp,fun _ _ _ e=>by simp [K0] at e,fun _ _ e=>by simp [K0] at e,by simp,fun _ _ e=>by simp [K0] at e,
  fun _ _ _ _ e=>by simp [K0] at e,rfl,fun _ _ _ _ _ e=>by simp [K0] at e,fun _ _ e=>by simp [K0] at e,fun _ _ e=>by simp [K0] at e⟩
 have he:=ERel.enter hvs hn
 refine calls_of_awp hf hb (h w0 ro (K0 ro) _ w0 hw he) ?_ fun c _ σ _ _ _ hc=>(hX c σ hc).elim
 rintro e K' env σ a w h1 h2 h3 ⟨hend,l,hl,hfin⟩
 refine⟨hend,?_⟩
 obtain⟨v,hr,hv⟩:=run_results h2 h3 hl
 have hv3:VRel (K0 (roEnd w0 w K'.ro)) r v:=by
  rcases hfin with ⟨hno,hfin⟩|⟨hno,hfin⟩
  · exact Leq.rel _ _ hfin (VRel.toK0 _ hno (fin_rel h2 hv))
  · exact Leq.rel _ _ hfin (frz_end h2 8 hv)
 obtain⟨q1,q2⟩:=h2.end_ro
 exact⟨v,hr,v,roEnd w0 w K'.ro,rfl,h2.below,fun b o v e=>roEnd_le _ _ _ _ _ _ (h1.ro b o v e),q1,q2,hv3⟩
/-- The same of a call that shares the state. -/
theorem ACall.of_body {G : Glo} {f : FuncId} {fn : Func} {c : Code} {args : List AV} {Q : AV → St → Prop} (hf : P.funcs[f]? = some fn) (hb : fn.body = some c) (hnm : fn.name ≠ "runtime.NumGoroutine") (hn : args.length ≤ fn.ntmps)
 (h:AWp P G fn.ntmps c (envOf args) σ (fun e env σ'=>(e=.ret∨e=.normal)∧∃ l,resA (Dof P) fn.results.toList env σ'=some l∧Q (tupA l) σ')):ACall P G f args σ Q:=by
 refine⟨by simp [bodied,hf,hb,hnm],?_⟩
 intro w0 ro0 K w vs hw hvs
 refine calls_of_awp hf hb (h w0 ro0 K _ w hw (ERel.enter hvs hn)) ?_ fun c K' σ' w' h1 h2 hc=>.inr ⟨c,σ',K',rfl,h1,h2,hc⟩
 rintro e K' env σ' a w h1 h2 h3 ⟨hend,l,hl,hq⟩
 obtain⟨v,hr,hv⟩:=run_results h2 h3 hl
 exact⟨hend,v,hr,.inl ⟨v,tupA l,σ',K',rfl,h1,h2,hv,hq⟩⟩
end
end
section
/-- A call: where the order is drawn it must change nothing. -/
def vcCall (P:Program) (G:Glo) (d:Bool) (g:FuncId) (args:List AV) (σ:St) (Q:AV→St→Prop):Prop :=
 match d with
 | true=>∃ r,PCall P G g args σ r∧Q r σ
 | false=>ACall P G g args σ Q
/-- Where the order is drawn only the first operations may run. -/
def pickX {α:Type} (d:Bool) (l:Option α):Option α:=match d with
 | true=>none
 | false=>l
/-- The outcomes of an operation that is no call. -/
def vcX (l:Option (List (AV×St))) (s:Option (AV×St)) (Q:AV→St→Prop):Prop :=
 match l with
 | some l=>∀ v σ',(v,σ')∈l→Q v σ'
 | none=>match s with
  | some (v,σ')=>Q v σ'
  | none=>False
/-- One operation that runs. -/
def vcOp (P:Program) (G:Glo) (mu d:Bool) (op:Op) (env:Env) (σ:St) (Q:AV→St→Prop):Prop :=
 match op with
 | .call { callee:=.value f,args:=args,argTypes:=_ }=>match ev G env f with
  | .fn g first cap=>vcCall P G d g (callArgs first (opds G env args.toList) cap) σ Q
  | _=>False
 | op=>vcX (pickX d (semX (Dof P) G mu env σ op)) (sem (Dof P) G env σ op) Q
section
variable {P:Program} {G:Glo} {N:Nat} {env:Env} {σ σ':St} {w0:World} {ro0:Nat→Nat→Option Value} {K:Kn} {a:Act} {w:World} {ops:Array Oper} {o:Oper} {v:AV} {mu:Bool}
/-- One operation that may run, whatever its outcome. -/
theorem op_wide (hw:WRel G w0 ro0 K σ w) (he:ERel K N env a) (hd:∀ d,o.dst=some d→d<N) {R:AV→St→Prop} (h:vcOp P G mu false o.op env σ R) {next:Act→World→Prop} {Q:Exit→Act→World→Prop}
 (hn:∀ v σ' K' a' w',R v σ'→K.le K'→WRel G w0 ro0 K' σ' w'→ERel K' N (upd env o.dst v) a'→a'.defers=a.defers→next a' w')
 (hp:∀ c σ' K' w',G.X c σ'→K.le K'→WRel G w0 ro0 K' σ' w'→Q (.panic c) a w'):o.wp P a w next Q:=by
 have did:∀ v σ',R v σ'→Did P G w0 ro0 K w (execOp a.eval o) v σ'→o.wp P a w next Q:=by
  intro v σ' hr hdid
  obtain⟨v',w',K',hrun,h1,h2,h3⟩:=hdid
  unfold Oper.wp
  rcases hrun with hrun|⟨hrun,rfl⟩
  · rw [hrun];exact hn v σ' K' _ w' hr h1 h2 ((he.mono h1).put hd h3) Act.put_defers'
  · rw [hrun];exact hn v σ' K' _ w' hr h1 h2 ((he.mono h1).put hd h3) Act.put_defers'
 unfold vcOp at h
 split at h
 · rename_i f args ts hop
   split at h
   · rename_i g first cap hf
     have hac:ACall P G g (callArgs first (opds G env args.toList) cap) σ R:=h
     obtain⟨vs,hr,hvs⟩:=exec_call hw he hop hf hac.1
     unfold Oper.wp
     rw [hr,Oper.upon_enter]
     refine (hac.2 w0 ro0 K w vs hw hvs).mono ?_
     rintro e w' (⟨v',v,σ',K',rfl,h1,h2,h3,h4⟩|⟨c,σ',K',rfl,h1,h2,h3⟩)
     · exact hn v σ' K' _ w' h4 h1 h2 ((he.mono h1).put hd h3) Act.put_defers'
     · exact hp c σ' K' w' h3 h1 h2
   · exact h.elim
 · simp only [vcX,pickX] at h
   split at h
   · rename_i l hl
     obtain⟨v,σ',h1,h2⟩:=semX_sound hw he o hl
     exact did v σ' (h v σ' h1) h2
   · split at h
     · rename_i v σ' hs
       exact did v σ' h (sem_sound hw he o hs)
     · exact h.elim
theorem ACall.imp {f:FuncId} {args:List AV} {Q Q':AV→St→Prop} (h:ACall P G f args σ Q) (hq:∀ v σ,Q v σ→Q' v σ):ACall P G f args σ Q' :=
 ⟨h.1,fun w0 ro0 K w vs hw hvs=>(h.2 w0 ro0 K w vs hw hvs).mono fun e w' h=>h.imp (fun ⟨v',v,σ',K',h1,h2,h3,h4,h5⟩=>⟨v',v,σ',K',h1,h2,h3,h4,hq _ _ h5⟩) id⟩
theorem vcX.imp {l:Option (List (AV×St))} {s:Option (AV×St)} {R R':AV→St→Prop} (h:vcX l s R) (hr:∀ v σ,R v σ→R' v σ):vcX l s R':=by
 unfold vcX at h ⊢
 split at h
 · exact fun v σ' hm=>hr _ _ (h v σ' hm)
 · split at h
   · exact hr _ _ h
   · exact h.elim
theorem vcOp.plain {d:Bool} {op:Op} (hop:¬ ∃ f args ts,op=.call { callee:=.value f,args:=args,argTypes:=ts }) (R:AV→St→Prop) :
 vcOp P G mu d op env σ R=vcX (pickX d (semX (Dof P) G mu env σ op)) (sem (Dof P) G env σ op) R:=by
 unfold vcOp
 split
 · exact absurd ⟨_,_,_,rfl⟩ hop
 · rfl
theorem vcOp.imp {d:Bool} {op:Op} {R R':AV→St→Prop} (h:vcOp P G mu d op env σ R) (hr:∀ v σ,R v σ→R' v σ):vcOp P G mu d op env σ R':=by
 by_cases hop:∃ f args ts,op=.call { callee:=.value f,args:=args,argTypes:=ts }
 · obtain⟨f,args,ts,rfl⟩:=hop
   simp only [vcOp] at h ⊢
   split at h
   · rename_i g first cap hf
     cases d
     · exact ACall.imp h hr
     · obtain⟨r,h1,h2⟩:=h;exact⟨r,h1,hr _ _ h2⟩
   · exact h.elim
 · rw [vcOp.plain hop] at h ⊢
   exact h.imp hr
variable {G:Nat→AV}
/-! ### More is known of memory that has grown -/
theorem leq_atom:∀ {a b:AV},Leq a b→b.atom=true→a.atom=true:=by
 intro a b h hb
 cases b<;>simp only [AV.atom] at hb<;>first | (cases hb;done) | skip
 all_goals (cases a<;>simp only [Leq] at h<;>first | (cases h;done) | rfl | (exact h.elim) | skip)
theorem leqs_atom:∀ {l m:List AV},LeqL l m→m.all AV.atom=true→l.all AV.atom=true
 | [],[],_,_=>rfl
 | a::r,b::s,h,hm=>by
  simp only [LeqL,List.all_cons,Bool.and_eq_true] at h hm ⊢
  exact⟨leq_atom h.1 hm.1,leqs_atom h.2 hm.2⟩
 | [],_::_,h,_=>by simp [LeqL] at h
 | _::_,[],h,_=>by simp [LeqL] at h
theorem LeqL.of_map {f g:AV→AV} (h:∀ a,Leq (f a) (g a)):∀ l:List AV,LeqL (l.map f) (l.map g)
 | []=>by simp [LeqL]
 | a::r=>by simp only [List.map_cons,LeqL];exact⟨h a,LeqL.of_map h r⟩
theorem LeqC.of_map {f g:AV→AV} (h:∀ a,Leq (f a) (g a)):∀ l:List AV,LeqC (l.map f) (l.map g)
 | []=>by simp [LeqC]
 | a::r=>by simp only [List.map_cons,LeqC];exact⟨h a,LeqC.of_map h r⟩
theorem LeqR.of_map {f g:AV→AV} (h:∀ a,Leq (f a) (g a)):∀ l:List (List AV),(l.map (·.map g)).all (·.all AV.atom)=true→LeqR (l.map (·.map f)) (l.map (·.map g))
 | [],_=>by simp [LeqR]
 | a::r,ha=>by
  simp only [List.map_cons,List.all_cons,Bool.and_eq_true,LeqR] at ha ⊢
  exact⟨.inr ⟨LeqL.of_map h a,ha.1⟩,LeqR.of_map h r ha.2⟩
theorem rows_atom {f g:AV→AV} (h:∀ a,Leq (f a) (g a)):∀ l:List (List AV),(l.map (·.map g)).all (·.all AV.atom)=true→(l.map (·.map f)).all (·.all AV.atom)=true
 | [],_=>rfl
 | a::r,ha=>by
  simp only [List.map_cons,List.all_cons,Bool.and_eq_true] at ha ⊢
  exact⟨leqs_atom (LeqL.of_map h a) ha.1,rows_atom h r ha.2⟩
theorem Leq.any (a:AV):Leq a .any:=by cases a<;>simp [Leq]
theorem frz_mono {H H':List Blk} (hH:∀ (b:Nat) (x:Blk),H[b]?=some x→H'[b]?=some x):∀ (n:Nat) (a:AV),Leq (frz H' n a) (frz H n a)
 | 0,a=>by simp only [frz];exact Leq.refl _
 | n+1,a=>by
  have ih:=frz_mono hH n
  by_cases hn:noRef a=true
  · simp only [frz,hn,if_true];exact Leq.refl _
  · cases a with
    | ptr b off=>
     simp only [frz,hn,Bool.false_eq_true,if_false]
     cases hb:H[b]? with
     | none=>exact Leq.any _
     | some x=>
      rw [hH b x hb]
      cases x with
      | cells c=>simp only [Leq];exact LeqC.of_map ih _
      | _=>exact Leq.any _
    | ms b off len sz=>
     simp only [frz,hn,Bool.false_eq_true,if_false]
     cases hb:H[b]? with
     | none=>exact Leq.any _
     | some x=>
      rw [hH b x hb]
      cases x with
      | cells c=>
       simp only
       by_cases hc:off+len*sz≤c.length∧((chunk sz len (c.drop off)).map (·.map (frz H n))).all (·.all AV.atom)=true
       · rw [if_pos hc,if_pos ⟨hc.1,rows_atom ih _ hc.2⟩]
         simp only [Leq]
         exact .inr ⟨trivial,LeqR.of_map ih _ hc.2,.inl trivial⟩
       · rw [if_neg hc];exact Leq.any _
      | _=>exact Leq.any _
    | rptr c=>simp only [frz,hn,Bool.false_eq_true,if_false,Leq];exact LeqC.of_map ih _
    | sl sz rows tok=>
     simp only [frz,hn,Bool.false_eq_true,if_false]
     by_cases hc:(rows.map (·.map (frz H n))).all (·.all AV.atom)=true
     · rw [if_pos hc,if_pos (rows_atom ih _ hc)]
       simp only [Leq]
       exact .inr ⟨trivial,LeqR.of_map ih _ hc,.inl trivial⟩
     · rw [if_neg hc];exact Leq.any _
    | fn f x y=>simp only [frz,hn,Bool.false_eq_true,if_false,Leq];exact⟨trivial,LeqL.of_map ih _,LeqL.of_map ih _⟩
    | agg c=>simp only [frz,hn,Bool.false_eq_true,if_false,Leq];exact LeqL.of_map ih _
    | tup c=>simp only [frz,hn,Bool.false_eq_true,if_false,Leq];exact LeqL.of_map ih _
    | _=>simp only [frz,hn,Bool.false_eq_true,if_false];exact Leq.refl _
theorem Pure.less' {f:FuncId} {args args':List AV} {r:AV} (h:Pure P G f args' r) (ha:LeqL args args'):Pure P G f args r :=
 ⟨h.1,fun w0 ro vs hg hro hvs=>h.2 w0 ro vs hg hro (LeqL.rel _ _ ha hvs)⟩
theorem PCall.mono {g:FuncId} {args:List AV} {r:AV} {σ τ:St} (h:PCall P G g args σ r) (hH:∀ (b:Nat) (x:Blk),σ.H[b]?=some x→τ.H[b]?=some x):PCall P G g args τ r:=by
 rcases h with h|⟨h1,h2⟩
 · exact .inl h
 · exact .inr ⟨h1,h2.less' (LeqL.of_map (frz_mono hH 8) args)⟩
end
end
section
/-- 0: neither reads nor writes the state; 1: reads it; 2: all else. -/
def clsA:Op→Nat
 | .move _ | .assign _ | .pick .. | .nilCheck _ | .binOp .. | .unOp .. | .convert .. | .fieldAddr .. | .field .. | .indexAddr .. | .index .. | .extract .. | .slice .. | .makeFunc .. | .build .. | .buildSlice .. =>0
 | .load .. | .lookup .. =>1
 | .call { callee:=.builtin b,.. }=>match b with | .len=>1 | .min=>0 | .max=>0 | _=>2
 | .call { callee:=.value _,.. }=>1
 | _=>2
section
variable {P:Program} {G:Nat→AV} {N:Nat} {env env':Env} {σ σ':St} {ops:Array Oper} {o:Oper} {v:AV}
theorem cls0 (h:clsA o.op=0) (hs:StepA P G ops o env σ v σ'):σ'=σ∧∀ τ,StepA P G ops o env τ v τ:=by
 rcases hs with ⟨h1,rfl,rfl⟩|⟨h1,h2⟩
 · exact⟨rfl,fun τ=>.inl ⟨h1,rfl,rfl⟩⟩
 · rcases h2 with h2|⟨f,args,ts,g,first,cap,ho,_⟩
   · have key:σ'=σ∧∀ τ,sem (Dof P) G env τ o.op=some (v,τ):=by
      obtain⟨dst,op,ty,pos,after,guard⟩:=o
      simp only at h h2 ⊢
      cases op<;>simp only [clsA] at h<;>try (cases h;done)
      case call c=>
       obtain⟨callee,args,ts⟩:=c
       cases callee with
       | builtin b=>
        simp only at h
        split at h
        · cases h
        · simp only [sem,builtinA] at h2 ⊢
          split at h2<;>first
           | (obtain⟨u,hu,he⟩:=Option.map_eq_some_iff.1 h2
              simp only [Prod.mk.injEq] at he
              obtain⟨rfl,rfl⟩:=he
              exact⟨rfl,fun τ=>by simp_all⟩)
           | (rename_i hb _ _;cases hb;done)
           | (cases h2;done)
           | skip
          all_goals simp_all
        · simp only [sem,builtinA] at h2 ⊢
          split at h2<;>first
           | (obtain⟨u,hu,he⟩:=Option.map_eq_some_iff.1 h2
              simp only [Prod.mk.injEq] at he
              obtain⟨rfl,rfl⟩:=he
              exact⟨rfl,fun τ=>by simp_all⟩)
           | (rename_i hb _ _;cases hb;done)
           | (cases h2;done)
           | skip
          all_goals simp_all
        · cases h
       | value f=>simp at h
       | invoke r m=>simp at h
      case makeFunc fn a b=>
       cases fn<;>simp only [sem] at h2 ⊢<;>first | (cases h2;done) | skip
       simp only [Option.some.injEq,Prod.mk.injEq] at h2
       obtain⟨rfl,rfl⟩:=h2
       exact⟨rfl,fun τ=>rfl⟩
      case pick c a b=>
       simp only [sem] at h2 ⊢
       split at h2
       · simp only [Option.some.injEq,Prod.mk.injEq] at h2
         obtain⟨rfl,rfl⟩:=h2
         exact⟨rfl,fun τ=>by simp_all⟩
       · cases h2
      case nilCheck x=>
       simp only [sem] at h2 ⊢
       split at h2
       · simp only [Option.some.injEq,Prod.mk.injEq] at h2
         obtain⟨rfl,rfl⟩:=h2
         exact⟨rfl,fun τ=>by simp_all⟩
       · simp only [Option.some.injEq,Prod.mk.injEq] at h2
         obtain⟨rfl,rfl⟩:=h2
         exact⟨rfl,fun τ=>by simp_all⟩
       · cases h2
      case slice t x lo hi mx=>
       simp only [sem] at h2 ⊢
       split at h2
       · split at h2
         · obtain⟨u,hu,he⟩:=Option.map_eq_some_iff.1 h2
           simp only [Prod.mk.injEq] at he
           obtain⟨rfl,rfl⟩:=he
           exact⟨rfl,fun τ=>by simp_all⟩
         · split at h2
           · split at h2
             · obtain⟨u,hu,he⟩:=Option.map_eq_some_iff.1 h2
               simp only [Prod.mk.injEq] at he
               obtain⟨rfl,rfl⟩:=he
               exact⟨rfl,fun τ=>by simp_all⟩
             · cases h2
           · split at h2
             · obtain⟨u,hu,he⟩:=Option.map_eq_some_iff.1 h2
               simp only [Prod.mk.injEq] at he
               obtain⟨rfl,rfl⟩:=he
               exact⟨rfl,fun τ=>by simp_all⟩
             · cases h2
           · cases h2
         · cases h2
       · cases h2
      all_goals
       simp only [sem] at h2 ⊢
       first
        | (obtain⟨u,hu,he⟩:=Option.map_eq_some_iff.1 h2
           simp only [Prod.mk.injEq] at he
           obtain⟨rfl,rfl⟩:=he
           exact⟨rfl,fun τ=>by rw [hu];rfl⟩)
        | (simp only [Option.some.injEq,Prod.mk.injEq] at h2
           obtain⟨rfl,rfl⟩:=h2
           exact⟨rfl,fun τ=>rfl⟩)
     exact⟨key.1,fun τ=>.inr ⟨h1,.inl (key.2 τ)⟩⟩
   · rw [ho] at h;simp [clsA] at h
theorem cls1 (h:clsA o.op=1) (hs:StepA P G ops o env σ v σ'):σ'=σ:=by
 rcases hs with ⟨h1,rfl,rfl⟩|⟨h1,h2⟩
 · rfl
 · rcases h2 with h2|⟨f,args,ts,g,first,cap,ho,_,_,e⟩
   · obtain⟨dst,op,ty,pos,after,guard⟩:=o
     simp only at h h2
     cases op<;>simp only [clsA] at h<;>try (cases h;done)
     case load t a=>
      simp only [sem] at h2
      obtain⟨u,hu,he⟩:=Option.map_eq_some_iff.1 h2
      simp only [Prod.mk.injEq] at he
      exact he.2.symm
     case lookup t a i ok=>
      simp only [sem] at h2
      obtain⟨u,hu,he⟩:=Option.map_eq_some_iff.1 h2
      simp only [Prod.mk.injEq] at he
      exact he.2.symm
     case call c=>
      obtain⟨callee,args,ts⟩:=c
      cases callee with
      | builtin b=>
       simp only [sem] at h2
       simp only at h
       unfold builtinA at h2
       split at h2
       · obtain⟨u,hu,he⟩:=Option.map_eq_some_iff.1 h2
         simp only [Prod.mk.injEq] at he
         exact he.2.symm
       · simp at h
       · simp at h
       · simp at h
       · simp at h
       · cases h2
      | value f=>simp [sem] at h2
      | invoke r m=>simp [sem] at h2
   · exact e
theorem ev_upd {t:Option Nat} {u:AV} {x:Operand} (h:∀ d,t=some d→x≠.tmp d):ev G (upd env t u) x=ev G env x:=by
 cases t with
 | none=>rfl
 | some d=>
  cases x with
  | tmp n=>
   have:¬ n=d:=fun e=>h d rfl (by rw [e])
   simp [ev,upd,this]
  | _=>rfl
theorem opds_congr {l:List Operand} (h:∀ x∈l,ev G env x=ev G env' x):opds G env l=opds G env' l:=List.map_congr_left h
theorem sem_congr (D:Nat→Option TI) {op:Op} (h:∀ x∈op.operands,ev G env x=ev G env' x):sem D G env σ op=sem D G env' σ op:=by
 have pairs:∀ ps:Array (Nat×Operand),(∀ x∈ps.map (·.2),ev G env x=ev G env' x)→(ps.toList.map fun p=>(p.1,ev G env p.2))=(ps.toList.map fun p=>(p.1,ev G env' p.2)):=fun ps hp=>
  List.map_congr_left fun p hm=>by
   rw [hp p.2 (Array.mem_map.2 ⟨p,by simpa using hm,rfl⟩)]
 have opt:∀ m:Option Operand,(∀ x,m=some x→ev G env x=ev G env' x)→m.map (ev G env)=m.map (ev G env'):=by
  intro m hm
  cases m with
  | none=>rfl
  | some x=>simp [hm x rfl]
 cases op<;>simp only [Op.operands] at h<;>simp only [sem]
 case build t ps=>rw [pairs ps fun x hx=>h x (by simpa using hx)]
 case buildSlice t n ps=>rw [pairs ps fun x hx=>h x (by simpa using hx)]
 case makeFunc fn a b=>
  cases fn<;>simp only
  rw [opds_congr (env:=env) (env':=env') (l:=a.toList) (fun x hx=>h x (by simp at hx;simp [hx])),opds_congr (env:=env) (env':=env') (l:=b.toList) (fun x hx=>h x (by simp at hx;simp [hx]))]
 case call c=>
  obtain⟨callee,args,ts⟩:=c
  cases callee<;>simp only
  rw [opds_congr (env:=env) (env':=env') (l:=args.toList) (fun x hx=>h x (by simp at hx;simp [Call.operands,hx]))]
 case slice t x lo hi mx=>
  rw [h x (by simp),opt lo (fun y e=>h y (by simp [e])),opt hi (fun y e=>h y (by simp [e])),opt mx (fun y e=>h y (by simp [e]))]
 case pick c a b=>rw [h c (by simp),h a (by simp),h b (by simp)]
 case store t a b=>rw [h a (by simp),h b (by simp)]
 case binOp op t a b u=>rw [h a (by simp),h b (by simp)]
 case makeSlice t a b=>rw [h a (by simp),h b (by simp)]
 case indexAddr t a b=>rw [h a (by simp),h b (by simp)]
 case index t a b=>rw [h a (by simp),h b (by simp)]
 case lookup t a b ok=>rw [h a (by simp),h b (by simp)]
 case mapUpdate t a b c=>rw [h a (by simp),h b (by simp),h c (by simp)]
 case makeMap t r=>cases r<;>rfl
 case next it b=>cases b<;>simp only [h it (by simp)]
 all_goals first
  | (rw [h _ (by simp)];done)
  | rfl
theorem step_congr {t:Option Nat} {u:AV} (h:∀ d,t=some d→d∉o.looksAt ops):StepA P G ops o (upd env t u) σ v σ'↔StepA P G ops o env σ v σ':=by
 have hop:∀ x∈o.op.operands,ev G (upd env t u) x=ev G env x:=fun x hx=>ev_upd fun d hd hxd=>h d hd (by
  subst hxd
  exact List.mem_append_left _ (List.mem_filterMap.2 ⟨.tmp d,by simpa using hx,rfl⟩))
 have hw:wantedA ops (upd env t u) o=wantedA ops env o:=by
  unfold wantedA
  cases hg:o.guard with
  | none=>rfl
  | some jb=>
   obtain⟨j,b⟩:=jb
   cases hj:(ops[j]?).bind (·.dst) with
   | none=>simp [hj]
   | some s=>
    simp only [hj]
    have:upd env t u s=env s:=by
     cases t with
     | none=>rfl
     | some d=>
      have:¬ s=d:=fun e=>h d rfl (by subst e;simp [Oper.looksAt,hg,hj])
      simp [upd,this]
    rw [this]
 have hsem:=sem_congr (G:=G) (σ:=σ) (Dof P) (op:=o.op) (env:=upd env t u) (env':=env) hop
 have hpure:∀ f args ts,o.op=.call { callee:=.value f,args:=args,argTypes:=ts }→ev G (upd env t u) f=ev G env f∧opds G (upd env t u) args.toList=opds G env args.toList:=by
  intro f args ts ho
  rw [ho] at hop
  simp only [Op.operands,Call.operands] at hop
  exact⟨hop f (by simp),opds_congr fun x hx=>hop x (by simp at hx;simp [hx])⟩
 unfold StepA OpA
 rw [hw,hsem]
 constructor
 · rintro (h1|⟨h1,h2|⟨f,args,ts,g,first,cap,ho,h3,h4⟩⟩)
   · exact .inl h1
   · exact .inr ⟨h1,.inl h2⟩
   · obtain⟨e1,e2⟩:=hpure f args ts ho
     rw [e1] at h3
     rw [e2] at h4
     exact .inr ⟨h1,.inr ⟨f,args,ts,g,first,cap,ho,h3,h4⟩⟩
 · rintro (h1|⟨h1,h2|⟨f,args,ts,g,first,cap,ho,h3,h4⟩⟩)
   · exact .inl h1
   · exact .inr ⟨h1,.inl h2⟩
   · obtain⟨e1,e2⟩:=hpure f args ts ho
     rw [← e1] at h3
     rw [← e2] at h4
     exact .inr ⟨h1,.inr ⟨f,args,ts,g,first,cap,ho,h3,h4⟩⟩
theorem upd_comm {s t:Option Nat} {u v:AV} (h:∀ d,s=some d→t≠some d):upd (upd env s u) t v=upd (upd env t v) s u:=by
 cases s with
 | none=>rfl
 | some d=>
  cases t with
  | none=>rfl
  | some e=>
   have hne:e≠d:=fun x=>h d rfl (by rw [x])
   funext i
   simp only [upd]
   by_cases h1:i=e
   · subst h1;simp [hne]
   · simp [h1]
/-! ### Which operations may change places -/
/-- 0: neither reads nor writes the state; 1: reads blocks; 2: lays a new block; 3: reads and writes the rows with free ends; 9: all else. 'ac': calls that may change the state. -/
def clsB (mu:Bool) (ac:List Nat) (k:Nat) (op:Op):Nat :=
 match op with
 | .alloc _=>2
 | .box .. =>2
 | .makeMap _ none=>2
 | .call { callee:=.builtin .append,.. }=>if mu then 9 else 3
 | .call { callee:=.value _,.. }=>if ac.contains k then 9 else 1
 | op=>match clsA op with | 0=>0 | 1=>1 | _=>9
def free2 (x y:Nat):Bool:=x==0||y==0||(x==1&&(y==1||y==2||y==3))||(x==3&&(y==1||y==2))||(x==2&&y==3)
/-- Two operations may change places. -/
def freeB (ops:Array Oper) (x y:Oper) (cx cy:Nat):Bool:=x.apart ops y&&free2 cx cy
theorem loadA_mono {D:Nat→Option TI} {σ τ:St} {t:Nat} {a u:AV} (hH:∀ (b:Nat) (x:Blk),σ.H[b]?=some x→τ.H[b]?=some x) (h:loadA D σ t a=some u):loadA D τ t a=some u:=by
 unfold loadA at h ⊢
 cases hD:D t with
 | none=>simp [hD] at h
 | some i=>
  cases a<;>simp only [hD] at h ⊢<;>first | exact h | (cases h;done) | skip
  rename_i b off
  cases hb:σ.H[b]? with
  | none=>simp [hb] at h
  | some x=>rw [hH _ _ hb];rw [hb] at h;exact h
theorem lookupA_mono {D:Nat→Option TI} {σ τ:St} {t:Nat} {m k u:AV} {ok:Bool} (hH:∀ (b:Nat) (x:Blk),σ.H[b]?=some x→τ.H[b]?=some x) (h:lookupA D σ t m k ok=some u):lookupA D τ t m k ok=some u:=by
 unfold lookupA at h ⊢
 cases hD:D t with
 | none=>simp [hD] at h
 | some i=>
  simp only [hD] at h ⊢
  cases hd:i.d<;>simp only [hd] at h ⊢<;>first | (cases h;done) | skip
  rename_i kt et
  by_cases hk:mapKeyOk D kt k=true
  · rw [if_pos hk] at h ⊢
    cases m<;>simp only at h ⊢<;>first | exact h | (cases h;done) | skip
    rename_i b
    cases hb:σ.H[b]? with
    | none=>simp [hb] at h
    | some x=>rw [hH _ _ hb];rw [hb] at h;exact h
  · rw [if_neg hk] at h;cases h
theorem lenA_mono {D:Nat→Option TI} {σ τ:St} {t:Nat} {x u:AV} (hH:∀ (b:Nat) (x:Blk),σ.H[b]?=some x→τ.H[b]?=some x) (h:lenA D σ t x=some u):lenA D τ t x=some u:=by
 unfold lenA at h ⊢
 cases hD:D t with
 | none=>simp [hD] at h
 | some i=>
  simp only [hD] at h ⊢
  cases x<;>cases hd:i.d<;>simp only [hd] at h ⊢<;>first | exact h | (cases h;done) | skip
  rename_i b _ _
  cases hb:σ.H[b]? with
  | none=>simp [hb] at h
  | some x=>rw [hH _ _ hb];rw [hb] at h;exact h
theorem appB {D:Nat→Option TI} {σ:St} {ts:List Nat} {vs:List AV} {v:AV} {σ':St} (h:builtinA D σ .append ts vs=some (v,σ')):∃ t s x,ts=[t,t]∧vs=[s,x]∧appendA D σ t s x=some (v,σ'):=by
 match ts,vs,h with
 | [t,u],[s,x],h=>
  simp only [builtinA] at h
  split at h
  · rename_i hut;subst hut;exact⟨_,s,x,rfl,rfl,h⟩
  · cases h
 | [],_,h=>simp [builtinA] at h
 | [_],_,h=>simp [builtinA] at h
 | _::_::_::_,_,h=>simp [builtinA] at h
 | [_,_],[],h=>simp [builtinA] at h
 | [_,_],[_],h=>simp [builtinA] at h
 | [_,_],_::_::_::_,h=>simp [builtinA] at h
theorem lenB {D:Nat→Option TI} {σ:St} {ts:List Nat} {vs:List AV} {v:AV} {σ':St} (h:builtinA D σ .len ts vs=some (v,σ')):∃ t x,ts=[t]∧vs=[x]∧lenA D σ t x=some v:=by
 cases ts with
 | nil=>simp [builtinA] at h
 | cons t r=>
  cases r with
  | cons _ _=>simp [builtinA] at h
  | nil=>
   cases vs with
   | nil=>simp [builtinA] at h
   | cons x s=>
    cases s with
    | cons _ _=>simp [builtinA] at h
    | nil=>
     simp only [builtinA] at h
     obtain⟨u,hu,he⟩:=Option.map_eq_some_iff.1 h
     simp only [Prod.mk.injEq] at he
     obtain⟨rfl,_⟩:=he
     exact⟨t,x,rfl,rfl,hu⟩
/-- A step that only reads: it reads the same wherever the blocks are still there. -/
theorem read_mono (h:clsA o.op=1) (hs:StepA P G ops o env σ v σ'):σ'=σ∧∀ τ:St,(∀ (b:Nat) (x:Blk),σ.H[b]?=some x→τ.H[b]?=some x)→StepA P G ops o env τ v τ:=by
 have e:=cls1 h hs
 refine⟨e,fun τ hH=>?_⟩
 subst e
 rcases hs with ⟨h1,rfl,_⟩|⟨h1,h2⟩
 · exact .inl ⟨h1,rfl,rfl⟩
 · refine .inr ⟨h1,?_⟩
   rcases h2 with h2|⟨f,args,ts,g,first,cap,ho,hf,hp,_⟩
   · left
     obtain⟨dst,op,type,pos,after,guard⟩:=o
     simp only at h h2 ⊢
     cases op<;>simp only [clsA] at h<;>try (cases h;done)
     case load t a=>
      simp only [sem] at h2 ⊢
      obtain⟨u,hu,he⟩:=Option.map_eq_some_iff.1 h2
      simp only [Prod.mk.injEq] at he
      obtain⟨rfl,_⟩:=he
      rw [loadA_mono hH hu];rfl
     case lookup t a i ok=>
      simp only [sem] at h2 ⊢
      obtain⟨u,hu,he⟩:=Option.map_eq_some_iff.1 h2
      simp only [Prod.mk.injEq] at he
      obtain⟨rfl,_⟩:=he
      rw [lookupA_mono hH hu];rfl
     case call c=>
      obtain⟨callee,args,ts⟩:=c
      cases callee with
      | builtin b=>
       simp only at h
       simp only [sem] at h2 ⊢
       cases b<;>simp only at h<;>try (cases h;done)
       obtain⟨t,x,e1,e2,hu⟩:=lenB h2
       rw [e1,e2]
       simp only [builtinA,lenA_mono hH hu]
       rfl
      | value f=>simp [sem] at h2
      | invoke r m=>simp [sem] at h2
   · exact .inr ⟨f,args,ts,g,first,cap,ho,hf,hp.mono hH,rfl⟩
/-- A step that lays a new block. -/
theorem lay_step (h:(∃ e,o.op=.alloc e)∨(∃ e x,o.op=.box e x)∨(∃ t,o.op=.makeMap t none)) (hs:StepA P G ops o env σ v σ') :
 (∀ (b:Nat) (x:Blk),σ.H[b]?=some x→σ'.H[b]?=some x)∧σ'.T=σ.T∧∀ T,StepA P G ops o env ⟨σ.H,T⟩ v ⟨σ'.H,T⟩:=by
 have push:∀ (b:Blk) (i:Nat) (x:Blk),σ.H[i]?=some x→(σ.H++[b])[i]?=some x:=fun b i x hi=>by
  rw [List.getElem?_append_left (List.getElem?_eq_some_iff.1 hi).1];exact hi
 rcases hs with ⟨h1,rfl,rfl⟩|⟨h1,h2⟩
 · exact⟨fun _ _ e=>e,rfl,fun T=>.inl ⟨h1,rfl,rfl⟩⟩
 · rcases h2 with h2|⟨f,args,ts,g,first,cap,ho,hf,hp,_⟩
   · obtain⟨dst,op,type,pos,after,guard⟩:=o
     simp only at h h2
     rcases h with ⟨e,rfl⟩|⟨e,x,rfl⟩|⟨t,rfl⟩
     · simp only [sem] at h2
       split at h2
       · rename_i i hD
         split at h2
         · rename_i hz
           simp only [Option.some.injEq,Prod.mk.injEq] at h2
           obtain⟨rfl,rfl⟩:=h2
           exact⟨push _,rfl,fun T=>.inr ⟨h1,.inl (by simp [sem,hD,hz,St.push])⟩⟩
         · cases h2
       · cases h2
     · simp only [sem] at h2
       obtain⟨c,hc,he⟩:=Option.map_eq_some_iff.1 h2
       simp only [Prod.mk.injEq] at he
       obtain⟨rfl,rfl⟩:=he
       exact⟨push _,rfl,fun T=>.inr ⟨h1,.inl (by simp [sem,hc,St.push])⟩⟩
     · simp only [sem,Option.some.injEq,Prod.mk.injEq] at h2
       obtain⟨rfl,rfl⟩:=h2
       exact⟨push _,rfl,fun T=>.inr ⟨h1,.inl (by simp [sem,St.push])⟩⟩
   · rw [ho] at h
     rcases h with ⟨e,h⟩|⟨e,x,h⟩|⟨t,h⟩<;>cases h
/-- A step that appends to a row with a free end. -/
theorem app_step {args:Array Operand} {ts:Array TypeId} (h:o.op=.call { callee:=.builtin .append,args:=args,argTypes:=ts }) (hs:StepA P G ops o env σ v σ') :
 σ'.H=σ.H∧∀ H,StepA P G ops o env ⟨H,σ.T⟩ v ⟨H,σ'.T⟩:=by
 rcases hs with ⟨h1,rfl,rfl⟩|⟨h1,h2⟩
 · exact⟨rfl,fun H=>.inl ⟨h1,rfl,rfl⟩⟩
 · rcases h2 with h2|⟨f,args',ts',g,first,cap,ho,hf,hp,_⟩
   · obtain⟨dst,op,type,pos,after,guard⟩:=o
     simp only at h
     subst h
     simp only [sem] at h2
     have key:σ'.H=σ.H∧∀ H,builtinA (Dof P) ⟨H,σ.T⟩ .append ts.toList (opds G env args.toList)=some (v,⟨H,σ'.T⟩):=by
      obtain⟨t,s,x,e1,e2,h3⟩:=appB h2
      rw [e1,e2]
      simp only [builtinA,if_true]
      clear h2 e1 e2 h1
      unfold appendA at h3 ⊢
      split at h3
      case h_2=>cases h3
      rename_i i sz rows tok sz2 rows2 hD hr
      try simp only []
      split at h3
      case h_2=>cases h3
      rename_i e hd
      split at h3
      case h_2=>cases h3
      rename_i j hj
      try simp only [hj]
      split at h3
      case isFalse=>cases h3
      rename_i hc
      try simp only [if_pos hc]
      split at h3
      · rename_i hn
        simp only [Option.some.injEq,Prod.mk.injEq] at h3
        obtain⟨rfl,rfl⟩:=h3
        exact⟨rfl,fun H=>by rw [if_pos hn]⟩
      · rename_i hn
        split at h3
        · cases h3
        · simp only [Option.some.injEq,Prod.mk.injEq] at h3
          obtain⟨rfl,rfl⟩:=h3
          exact⟨rfl,fun H=>by rw [if_neg hn]⟩
        · simp only [Option.some.injEq,Prod.mk.injEq] at h3
          obtain⟨rfl,rfl⟩:=h3
          exact⟨rfl,fun H=>by rw [if_neg hn]⟩
        · split at h3
          · rename_i hk
            simp only [Option.some.injEq,Prod.mk.injEq] at h3
            obtain⟨rfl,rfl⟩:=h3
            exact⟨rfl,fun H=>by rw [if_neg hn,if_pos hk]⟩
          · cases h3
     exact⟨key.1,fun H=>.inr ⟨h1,.inl (by simp only [sem];exact key.2 H)⟩⟩
   · rw [h] at ho;cases ho
theorem cls_of {mu:Bool} {ac:List Nat} {k:Nat} {op:Op} :
 (clsB mu ac k op=0→clsA op=0)∧(clsB mu ac k op=1→clsA op=1)∧(clsB mu ac k op=2→(∃ e,op=.alloc e)∨(∃ e x,op=.box e x)∨(∃ t,op=.makeMap t none)) ∧
   (clsB mu ac k op=3→∃ args ts,op=.call { callee:=.builtin .append,args:=args,argTypes:=ts }):=by
 unfold clsB
 split
 · simp
 · simp
 · simp
 · cases mu<;>simp
 · split<;>simp [clsA]
 · rename_i op h1 h2 h3 h4 h5
   split
   · rename_i h;simp [h]
   · rename_i h;simp [h]
   · simp
/-- The operations beyond the first ones are of the class of all else, or they compare. -/
theorem semX_cls {mu:Bool} {ac:List Nat} {k:Nat} {op:Op} {l:List (AV×St)} (h:semX (Dof P) G mu env σ op=some l) (hb:∀ o t x y u,op≠.binOp o t x y u):clsB mu ac k op=9:=by
 cases op<;>simp only [semX] at h<;>try (cases h;done)
 case binOp o t x y u=>exact absurd rfl (hb o t x y u)
 case insert=>rfl
 case makeSlice=>rfl
 case next it b=>cases b<;>first | rfl | (simp only at h;cases h)
 case entry=>rfl
 case call c=>
  obtain⟨callee,args,ts⟩:=c
  cases callee<;>simp only at h<;>try (cases h;done)
  split at h
  · cases mu
    · cases h
    · rfl
  · rfl
  · rfl
  · rfl
  · cases h
theorem swapB {oi oj:Oper} {vi vj:AV} {σ1 σ2:St} {mu:Bool} {ac:List Nat} {i j:Nat} (hf:freeB ops oi oj (clsB mu ac i oi.op) (clsB mu ac j oj.op)=true) (hi:StepA P G ops oi env σ vi σ1) (hj:StepA P G ops oj (upd env oi.dst vi) σ1 vj σ2) :
 ∃ τ,StepA P G ops oj env σ vj τ∧StepA P G ops oi (upd env oj.dst vj) τ vi σ2∧upd (upd env oj.dst vj) oi.dst vi=upd (upd env oi.dst vi) oj.dst vj:=by
 simp only [freeB,free2,Bool.and_eq_true,Bool.or_eq_true,beq_iff_eq] at hf
 obtain⟨ha,hc⟩:=hf
 obtain⟨a1,a2,a3⟩:=Oper.apart_spec ha
 have hj':StepA P G ops oj env σ1 vj σ2:=(step_congr a1).1 hj
 have hcomm:upd (upd env oj.dst vj) oi.dst vi=upd (upd env oi.dst vi) oj.dst vj:=(upd_comm a2).symm
 obtain⟨ci0,ci1,ci2,ci3⟩:=cls_of (mu:=mu) (ac:=ac) (k:=i) (op:=oi.op)
 obtain⟨cj0,cj1,cj2,cj3⟩:=cls_of (mu:=mu) (ac:=ac) (k:=j) (op:=oj.op)
 rcases hc with (((hc|hc)|⟨hc,hc2⟩)|⟨hc,hc2⟩)|⟨hc,hc2⟩
 · obtain⟨rfl,hall⟩:=cls0 (ci0 hc) hi
   exact⟨σ2,hj',(step_congr a3).2 (hall σ2),hcomm⟩
 · obtain⟨rfl,hall⟩:=cls0 (cj0 hc) hj'
   exact⟨σ,hall σ,(step_congr a3).2 hi,hcomm⟩
 · obtain⟨rfl,hall⟩:=read_mono (ci1 hc) hi
   have hH:∀ (b:Nat) (x:Blk),σ1.H[b]?=some x→σ2.H[b]?=some x:=by
    rcases hc2 with (hc2|hc2)|hc2
    · obtain⟨rfl,_⟩:=read_mono (cj1 hc2) hj';exact fun _ _ e=>e
    · exact (lay_step (cj2 hc2) hj').1
    · obtain⟨args,ts,ho⟩:=cj3 hc2
      rw [(app_step ho hj').1];exact fun _ _ e=>e
   exact⟨σ2,hj',(step_congr a3).2 (hall σ2 hH),hcomm⟩
 · obtain⟨args,ts,ho⟩:=ci3 hc
   obtain⟨e1,hall⟩:=app_step ho hi
   obtain⟨H,T⟩:=σ
   obtain⟨H1,T1⟩:=σ1
   simp only at e1 hall
   subst e1
   rcases hc2 with hc2|hc2
   · obtain⟨rfl,hallj⟩:=read_mono (cj1 hc2) hj'
     exact⟨⟨H1,T⟩,hallj _ (fun _ _ e=>e),(step_congr a3).2 (hall H1),hcomm⟩
   · obtain⟨_,e2,hallj⟩:=lay_step (cj2 hc2) hj'
     obtain⟨H2,T2⟩:=σ2
     simp only at e2 hallj
     subst e2
     exact⟨⟨H2,T⟩,hallj T,(step_congr a3).2 (hall H2),hcomm⟩
 · obtain⟨args,ts,ho⟩:=cj3 hc2
   obtain⟨e1,hallj⟩:=app_step ho hj'
   obtain⟨_,e2,hall⟩:=lay_step (ci2 hc) hi
   obtain⟨H,T⟩:=σ
   obtain⟨H1,T1⟩:=σ1
   obtain⟨H2,T2⟩:=σ2
   simp only at e1 e2 hall hallj
   subst e1;subst e2
   exact⟨⟨H,T2⟩,hallj H,(step_congr a3).2 (hall T2),hcomm⟩
/-! ### Orders -/
/-- Whatever order is picked from here on. -/
def AnyB (P:Program) (G:Glo) (ops:Array Oper) (mu:Bool) (ac:List Nat) (R:Env→St→Prop):Nat→Array Bool→Env→St→Prop
 | 0,listed,env,σ=>Region.ready .any ops listed=[]∧R env σ
 | fuel+1,listed,env,σ=>(Region.ready .any ops listed=[]→R env σ) ∧
  ∀ i∈Region.ready .any ops listed,∃ o,ops[i]?=some o ∧
   ((∃ v σ',StepA P G ops o env σ v σ'∧AnyB P G ops mu ac R fuel (listed.setIfInBounds i true) (upd env o.dst v) σ') ∨
    (clsB mu ac i o.op=9∧wantedA ops env o=some true∧vcOp P G mu false o.op env σ (fun v σ'=>AnyB P G ops mu ac R fuel (listed.setIfInBounds i true) (upd env o.dst v) σ')))
/-- What waits for i, directly or not. -/
def depOk (ops:Array Oper) (listed:Array Bool) (i:Nat) (dp:List Nat):Bool :=
 dp.all fun j=>!listed.getD j true&&(match ops[j]? with
  | some oj=>oj.after.any fun e=>Region.binds .any e&&(e.on==i||dp.contains e.on)
  | none=>true)
theorem not_dep {listed:Array Bool} {i j:Nat} {dp:List Nat} (hd:depOk ops listed i dp=true) (hi:listed.getD i true=false) (hj:j∈Region.ready .any ops listed):j∉dp:=by
 intro hm
 have h1:=List.all_eq_true.1 hd j hm
 simp only [Bool.and_eq_true,Bool.not_eq_true'] at h1
 obtain⟨hun,oj,hoj,hall⟩:=mem_ready.1 hj
 rw [hoj] at h1
 obtain⟨e,he,he2⟩:=Array.any_eq_true'.1 h1.2
 simp only [Bool.and_eq_true,Bool.or_eq_true,beq_iff_eq] at he2
 have hl:=hall e he he2.1
 have tt:∀ k,listed.getD k true=false→listed.getD k false=true→False:=by
  intro k h2 h3
  rcases Nat.lt_or_ge k listed.size with h' | h'
  · simp [h'] at h2 h3;rw [h2] at h3;cases h3
  · simp [Array.getElem?_eq_none h'] at h3
 rcases he2.2 with h2|h2
 · rw [h2] at hl;exact tt i hi hl
 · have h3:=List.all_eq_true.1 hd e.on (by simpa using h2)
   simp only [Bool.and_eq_true,Bool.not_eq_true'] at h3
   exact tt _ h3.1 hl
theorem depOk_set {listed:Array Bool} {i j:Nat} {dp:List Nat} (hd:depOk ops listed i dp=true) (hj:j∉dp):depOk ops (listed.setIfInBounds j true) i dp=true:=by
 refine List.all_eq_true.2 fun k hk=>?_
 have h1:=List.all_eq_true.1 hd k hk
 simp only [Bool.and_eq_true,Bool.not_eq_true'] at h1 ⊢
 have hjk:j≠k:=fun e=>hj (e▸hk)
 exact⟨by rw [getD_set_ne true hjk];exact h1.1,h1.2⟩
theorem op_of_looks {o:Oper} {d:Nat} (h:d∉o.looksAt ops) : .tmp d∉o.op.operands.toList:=fun hm=>h (List.mem_append_left _ (List.mem_filterMap.2 ⟨.tmp d,hm,rfl⟩))
theorem wanted_congr {t:Option Nat} {u:AV} (h:∀ d,t=some d→d∉o.looksAt ops):wantedA ops (upd env t u) o=wantedA ops env o:=by
 unfold wantedA
 cases hg:o.guard with
 | none=>rfl
 | some jb=>
  obtain⟨j,b⟩:=jb
  cases hj:(ops[j]?).bind (·.dst) with
  | none=>simp [hj]
  | some s=>
   simp only [hj]
   have:upd env t u s=env s:=by
    cases t with
    | none=>rfl
    | some d=>
     have:¬ s=d:=fun e=>h d rfl (by subst e;simp [Oper.looksAt,hg,hj])
     simp [upd,this]
   rw [this]
theorem semX_congr (D:Nat→Option TI) {mu:Bool} {op:Op} (h:∀ x∈op.operands,ev G env x=ev G env' x):semX D G mu env σ op=semX D G mu env' σ op:=by
 cases op<;>simp only [Op.operands] at h<;>simp only [semX]
 case insert t m k v=>rw [h m (by simp),h k (by simp),h v (by simp)]
 case makeSlice t x y=>rw [h x (by simp),h y (by simp)]
 case binOp o t x y u=>rw [h x (by simp),h y (by simp)]
 case next it b=>cases b<;>simp only [h it (by simp)]
 case entry it=>rw [h it (by simp)]
 case call c=>
  obtain⟨callee,args,ts⟩:=c
  cases callee<;>simp only
  rename_i b
  have ha:∀ x∈args.toList,ev G env x=ev G env' x:=fun x hx=>h x (by simp at hx;simp [Call.operands,hx])
  generalize ts.toList=tl
  generalize args.toList=al at ha
  split
  · cases mu
    · rfl
    · simp only [ha _ (List.mem_cons_self),ha _ (List.mem_cons_of_mem _ (List.mem_cons_self))]
  · simp only [ha _ (List.mem_cons_self)]
  · simp only [ha _ (List.mem_cons_self)]
  · simp only [ha _ (List.mem_cons_self),ha _ (List.mem_cons_of_mem _ (List.mem_cons_self))]
  · rfl
variable {G:Glo}
theorem vcOp_env {mu:Bool} {op:Op} {t:Option Nat} {u:AV} {R:AV→St→Prop} (h:∀ d,t=some d→.tmp d∉op.operands.toList):vcOp P G mu false op (upd env t u) σ R↔vcOp P G mu false op env σ R:=by
 have hop:∀ x∈op.operands,ev G (upd env t u) x=ev G env x:=fun x hx=>ev_upd fun d hd hxd=>h d hd (by subst hxd;simpa using hx)
 by_cases hc:∃ f args ts,op=.call { callee:=.value f,args:=args,argTypes:=ts }
 · obtain⟨f,args,ts,rfl⟩:=hc
   simp only [Op.operands,Call.operands] at hop
   simp only [vcOp]
   rw [hop f (by simp),opds_congr (l:=args.toList) (fun x hx=>hop x (by simp at hx;simp [hx]))]
 · rw [vcOp.plain hc,vcOp.plain hc,semX_congr (Dof P) hop,sem_congr (Dof P) hop]
variable {mu:Bool} {ac:List Nat}
theorem AnyB.first {R:Env→St→Prop} {i:Nat} {oi:Oper} {vi:AV} {dp:List Nat} (hi:ops[i]?=some oi):∀ (fuel:Nat) (listed:Array Bool) (env:Env) (σ σ1:St),
 depOk ops listed i dp=true →
 (∀ (j:Nat) (oj:Oper),ops[j]?=some oj→j≠i→listed.getD j true=false→j∉dp→freeB ops oi oj (clsB mu ac i oi.op) (clsB mu ac j oj.op)=true∧(clsB mu ac j oj.op≠9∨clsB mu ac i oi.op=0)) →
 i∈Region.ready .any ops listed→StepA P G ops oi env σ vi σ1→AnyB P G ops mu ac R fuel (listed.setIfInBounds i true) (upd env oi.dst vi) σ1→AnyB P G ops mu ac R (fuel+1) listed env σ:=by
 intro fuel
 induction fuel with
 | zero=>
  intro listed env σ σ1 hd _ hr hs H
  refine⟨fun h=>(by rw [h] at hr;cases hr),fun j hj=>?_⟩
  by_cases hji:j=i
  · subst hji;exact⟨oi,hi,.inl ⟨vi,σ1,hs,H⟩⟩
  · have:=ready_mono hj hji
    rw [H.1] at this
    cases this
 | succ fuel ih=>
  intro listed env σ σ1 hd hfree hr hs H
  refine⟨fun h=>(by rw [h] at hr;cases hr),fun j hj=>?_⟩
  by_cases hji:j=i
  · subst hji;exact⟨oi,hi,.inl ⟨vi,σ1,hs,H⟩⟩
  · obtain⟨oj,hoj,hst⟩:=H.2 j (ready_mono hj hji)
    obtain⟨hjun,oj',hoj',hall⟩:=mem_ready.1 hj
    rw [hoj] at hoj'
    cases hoj'
    have hnd:=not_dep hd (mem_ready.1 hr).1 hj
    obtain⟨hf1,hf2⟩:=hfree j oj hoj hji hjun hnd
    have rest:∀ (k:Nat) (ok:Oper),ops[k]?=some ok→k≠i→(listed.setIfInBounds j true).getD k true=false→k∉dp→freeB ops oi ok (clsB mu ac i oi.op) (clsB mu ac k ok.op)=true∧(clsB mu ac k ok.op≠9∨clsB mu ac i oi.op=0):=by
     intro k ok hk hki hun hkd
     refine hfree k ok hk hki ?_ hkd
     by_cases hjk:j=k
     · subst hjk;exact hjun
     · rw [getD_set_ne true hjk] at hun;exact hun
    rcases hst with ⟨vj,σ2,hsj,H2⟩|⟨hc9,hw9,H2⟩
    · obtain⟨τ,s1,s2,s3⟩:=swapB hf1 hs hsj
      refine⟨oj,hoj,.inl ⟨vj,τ,s1,ih (listed.setIfInBounds j true) _ τ σ2 (depOk_set hd hnd) rest (ready_mono hr (Ne.symm hji)) s2 ?_⟩⟩
      rw [Array.setIfInBounds_comm _ _ hji,s3]
      exact H2
    · have h0:=hf2.resolve_left (fun h=>h hc9)
      simp only [freeB,Bool.and_eq_true] at hf1
      obtain⟨a1,a2,a3⟩:=Oper.apart_spec hf1.1
      obtain⟨rfl,hpure⟩:=cls0 ((cls_of (mu:=mu) (ac:=ac) (k:=i) (op:=oi.op)).1 h0) hs
      refine⟨oj,hoj,.inr ⟨hc9,by rw [← wanted_congr (t:=oi.dst) (u:=vi) a1];exact hw9,?_⟩⟩
      refine ((vcOp_env (t:=oi.dst) (u:=vi) (fun d hd=>op_of_looks (a1 d hd))).1 H2).imp fun v σ' hv=>?_
      refine ih (listed.setIfInBounds j true) _ σ' σ' (depOk_set hd hnd) rest (ready_mono hr (Ne.symm hji)) ((step_congr a3).2 (hpure σ')) ?_
      rw [Array.setIfInBounds_comm _ _ hji,upd_comm (s:=oj.dst) (t:=oi.dst) (fun d hd e=>a2 d e hd)]
      exact hv
/-- The next operation is the only one that may come. -/
theorem AnyB.solo {R:Env→St→Prop} {i:Nat} {oi:Oper} {dp:List Nat} (hi:ops[i]?=some oi) {fuel:Nat} {listed:Array Bool} {env:Env} {σ:St} (hd:depOk ops listed i dp=true)
 (hall:∀ (j:Nat) (oj:Oper),ops[j]?=some oj→j≠i→listed.getD j true=false→j∈dp) (hr:i∈Region.ready .any ops listed)
 (H:(∃ v σ',StepA P G ops oi env σ v σ'∧AnyB P G ops mu ac R fuel (listed.setIfInBounds i true) (upd env oi.dst v) σ') ∨
   (clsB mu ac i oi.op=9∧wantedA ops env oi=some true∧vcOp P G mu false oi.op env σ (fun v σ'=>AnyB P G ops mu ac R fuel (listed.setIfInBounds i true) (upd env oi.dst v) σ'))) :
 AnyB P G ops mu ac R (fuel+1) listed env σ:=by
 refine⟨fun h=>(by rw [h] at hr;cases hr),fun j hj=>?_⟩
 by_cases hji:j=i
 · subst hji;exact⟨oi,hi,H⟩
 · obtain⟨hjun,oj,hoj,_⟩:=mem_ready.1 hj
   exact absurd (hall j oj hoj hji hjun) (not_dep hd (mem_ready.1 hr).1 hj)
theorem anyB_sound (hsl:slotsOk N ops=true) {R:Env→St→Prop} {w0:World} {ro0:Nat→Nat→Option Value} {Q:Exit→Act→World→Prop}:∀ (fuel:Nat) (listed:Array Bool) (env:Env) (σ:St) (K:Kn) (a:Act) (w:World),
 (∀ K' env' σ' a' w',K.le K'→WRel G w0 ro0 K' σ' w'→ERel K' N env' a'→a'.defers=a.defers→R env' σ'→Q .normal a' w') →
 (∀ c K' σ' a' w',K.le K'→WRel G w0 ro0 K' σ' w'→a'.defers=a.defers→G.X c σ'→Q (.panic c) a' w')→WRel G w0 ro0 K σ w→ERel K N env a→AnyB P G ops mu ac R fuel listed env σ→wpAny P .any ops Q fuel listed a w
 | 0,listed,env,σ,K,a,w,hq,_,hw,he,h=>⟨h.1,hq K env σ a w (Kn.le_refl K) hw he rfl h.2⟩
 | fuel+1,listed,env,σ,K,a,w,hq,hp,hw,he,h=>by
  refine⟨fun h0=>hq K env σ a w (Kn.le_refl K) hw he rfl (h.1 h0),fun i hi=>?_⟩
  obtain⟨o,ho,H⟩:=h.2 i hi
  have hmem:o∈ops.toList:=List.mem_of_getElem? (i:=i) (by simpa using ho)
  have hd:=slots_dst hsl hmem
  have hgd:=slots_guard hsl o
  unfold wpOp
  simp only [ho]
  rcases H with ⟨v,σ',hs,H⟩|⟨_,hwant,H⟩
  · rcases hs with ⟨hwant,rfl,rfl⟩|⟨hwant,hop⟩
    · rw [if_neg (by simp [wanted_rel he hgd hwant])]
      exact anyB_sound hsl fuel _ _ _ K _ w (fun K2 env2 σ2 a2 w2 hle x1 x2 xd=>hq K2 env2 σ2 a2 w2 hle x1 x2 (xd.trans Act.put_defers')) (fun c K2 σ2 a2 w2 hle x1 xd=>hp c K2 σ2 a2 w2 hle x1 (xd.trans Act.put_defers')) hw (he.put hd (by simp only [VRel];exact⟨#[],rfl,by simp [VRels]⟩)) H
    · rw [if_pos (wanted_rel he hgd hwant)]
      refine .inl (op_step hw he hd hop fun K' a' w' h1 h2 h3 hds=>?_)
      exact anyB_sound hsl fuel _ _ _ K' a' w' (fun K2 env2 σ2 a2 w2 hle x1 x2 xd=>hq K2 env2 σ2 a2 w2 (Kn.le_trans h1 hle) x1 x2 (xd.trans hds)) (fun c K2 σ2 a2 w2 hle x1 xd=>hp c K2 σ2 a2 w2 (Kn.le_trans h1 hle) x1 (xd.trans hds)) h2 h3 H
  · rw [if_pos (wanted_rel he hgd hwant)]
    refine .inl (op_wide hw he hd H (fun v σ' K' a' w' hA h1 h2 h3 hds=>?_) fun c σ' K' w' hx h1 h2=>hp c K' σ' _ w' h1 h2 rfl hx)
    exact anyB_sound hsl fuel _ _ _ K' a' w' (fun K2 env2 σ2 a2 w2 hle x1 x2 xd=>hq K2 env2 σ2 a2 w2 (Kn.le_trans h1 hle) x1 x2 (xd.trans hds)) (fun c K2 σ2 a2 w2 hle x1 xd=>hp c K2 σ2 a2 w2 (Kn.le_trans h1 hle) x1 (xd.trans hds)) h2 h3 hA
end
/-! ### Plans: which operation is run next, and where all orders are looked at -/
mutual
inductive Sch where
 | done
 | step (k:Nat) (dp:List Nat) (s:Sch)
 | fork (a:Alts)
inductive Alts where
 | nil
 | cons (k:Nat) (s:Sch) (r:Alts)
end
/-- k may be run first. -/
def stepOk (ops:Array Oper) (mu:Bool) (ac:List Nat) (listed:Array Bool) (k:Nat) (dp:List Nat):Bool :=
 (Region.ready .any ops listed).contains k&&depOk ops listed k dp&&(match ops[k]? with
   | some ok=>(List.range ops.size).all fun j=>j==k||listed.getD j true||dp.contains j||(clsB mu ac k ok.op != 9&&(match ops[j]? with
    | some oj=>freeB ops ok oj (clsB mu ac k ok.op) (clsB mu ac j oj.op)&&(clsB mu ac j oj.op != 9||clsB mu ac k ok.op==0)
    | none=>true))
   | none=>false)
mutual
def schOk (ops:Array Oper) (mu:Bool) (ac:List Nat):Sch→Array Bool→Bool
 | .done,listed=>(Region.ready .any ops listed).isEmpty
 | .step k dp s,listed=>stepOk ops mu ac listed k dp&&schOk ops mu ac s (listed.setIfInBounds k true)
 | .fork a,listed=>!(Region.ready .any ops listed).isEmpty&&altsOk ops mu ac a listed (Region.ready .any ops listed)
def altsOk (ops:Array Oper) (mu:Bool) (ac:List Nat):Alts→Array Bool→List Nat→Bool
 | .nil,_,need=>need.isEmpty
 | .cons k s r,listed,need=>need.contains k&&schOk ops mu ac s (listed.setIfInBounds k true)&&altsOk ops mu ac r listed (need.filter (· != k))
end
mutual
def schLen:Sch→Nat
 | .done=>0
 | .step _ _ s=>schLen s+1
 | .fork a=>altsLen a+1
def altsLen:Alts→Nat
 | .nil=>0
 | .cons _ s r=>max (schLen s) (altsLen r)
end
/-- What waits for k. -/
def dpOf (ops:Array Oper) (k:Nat):List Nat :=
 (List.range ops.size).foldl (fun dp j=>match ops[j]? with
   | some oj=>if oj.after.any (fun e=>Region.binds .any e&&(e.on==k||dp.contains e.on)) then j::dp else dp
   | none=>dp) []
/-- One operation behind the other, as they stand. -/
def lexB (ops:Array Oper) (mu:Bool) (ac:List Nat):Nat→Nat→Array Bool→Bool
 | 0,_,listed=>(Region.ready .any ops listed).isEmpty
 | fuel+1,k,listed=>stepOk ops mu ac listed k (dpOf ops k)&&lexB ops mu ac fuel (k+1) (listed.setIfInBounds k true)
/-- 'lw': the last operation may change the state. -/
def drawOk (ops:Array Oper) (mu lw:Bool):Bool:=lexB ops mu (if lw then [ops.size-1] else []) ops.size 0 (Array.replicate ops.size false)
end
end Go.Abs
end
