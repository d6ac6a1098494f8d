import Derived.Test.YtkodonalmdmgpaaGreatDoorSv04
import Derived.Deep.AppendSrc
import Derived.Lib.AppendZerosOnto
set_option linter.all false
set_option linter.defProp false
section
namespace Go.Abs
open Go Go.RowKit
section
/-- A walk's last entry. -/
def entryA (σ:St):AV→Option AV
 | .iter b=>match σ.H[b]? with
  | some (.miter (some mb) _ seen stepped)=>match σ.H[mb]? with
   | some (.map es clock)=>match seen.getLast? with
    | some st=>if clock=stepped then (es.find? (fun e=>e.2.2==st)).map fun e=>.tup [e.1,e.2.1] else none
    | none=>none
   | _=>none
  | _=>none
 | _=>none
/-- Compared with nil: what is known. -/
def nilIs:AV→AV→Option (List Bool)
 | .sl _ (_::_) _,.sl _ [] .nil=>some [false]
 | .sl _ [] .nil,.sl _ [] .nil=>some [true]
 | .sl _ [] _,.sl _ [] .nil=>some [true,false]
 | .ms ..,.sl _ [] .nil=>some [false]
 | .nilp,.nilp=>some [true]
 | .ptr ..,.nilp=>some [false]
 | .rptr _,.nilp=>some [false]
 | .nilm,.nilm=>some [true]
 | .map _,.nilm=>some [false]
 | .nilf,.nilf=>some [true]
 | .fn ..,.nilf=>some [false]
 | _,_=>none
def TD.isSl:TD→Bool | .sl _=>true | _=>false
def TD.isPtr:TD→Bool | .ptr _=>true | _=>false
def TD.isMap:TD→Bool | .map .. =>true | _=>false
def TD.isFn:TD→Bool | .fn=>true | _=>false
theorem TD.isSl_spec {d:TD} (h:d.isSl=true):∃ e,d=.sl e:=by cases d<;>simp [TD.isSl] at h;exact⟨_,rfl⟩
theorem TD.isPtr_spec {d:TD} (h:d.isPtr=true):∃ e,d=.ptr e:=by cases d<;>simp [TD.isPtr] at h;exact⟨_,rfl⟩
theorem TD.isMap_spec {d:TD} (h:d.isMap=true):∃ k e,d=.map k e:=by cases d<;>simp [TD.isMap] at h;exact⟨_,_,rfl⟩
theorem TD.isFn_spec {d:TD} (h:d.isFn=true):d=.fn:=by cases d<;>simp [TD.isFn] at h;rfl
def nilFits (d:TD):AV→Bool
 | .sl .. =>d.isSl
 | .ms .. =>d.isSl
 | .nilp=>d.isPtr
 | .ptr .. =>d.isPtr
 | .rptr _=>d.isPtr
 | .nilm=>d.isMap
 | .map _=>d.isMap
 | .nilf=>d.isFn
 | .fn .. =>d.isFn
 | _=>false
def nilCmp (D:Nat→Option TI) (neg:Bool) (t:Nat) (x y:AV) (σ:St):Option (List (AV×St)) :=
 match nilIs x y with
 | some l=>if nilFits (plainTD D t) x then some (l.map fun b=>(.bool (b != neg),σ)) else none
 | none=>none
/-- What is appended: how many elements, their cells. -/
def srcA (σ:St) (j:TI) (x:AV):Option (Nat×List AV) :=
 match x with
 | .sl sz rows _=>if sz=j.size∨rows=[] then some (rows.length,rows.flatten) else none
 | .ms b off len sz=>if sz=j.size then (match σ.H[b]? with
  | some (.cells c)=>(cut c off (len*sz)).map fun s=>(len,s)
  | _=>none) else none
 | _=>none
/-- 'append' onto a row of the state's own. -/
def appendM (D:Nat→Option TI) (σ:St) (t u:Nat) (s x:AV):Option (AV×St) :=
 match D t with
 | some i=>match i.d with
  | .sl e=>match D e with
   | some j=>
    if 0<j.size∧j.zero.length=j.size∧j.bytes≤256 then
     match plainTD D u with
     | .int _=>match s,x with
      | .sl _ [] .nil,.int _ n=>if 0<n∧n≤549755813888∧j.zero.all AV.atom=true then some (.ms σ.H.length 0 n.toNat j.size,σ.push (.cells (List.replicate n.toNat j.zero).flatten)) else none
      | _,_=>none
     | .sl _=>match srcA σ j x with
      | some (n,src)=>
       if n=0 then none else
       match s with
       | .sl sz rows tok=>match tok with
        | .nil=>if rows.length+n≤549755813888 then some (.ms σ.H.length 0 (rows.length+n) j.size,σ.push (.cells (rows.flatten++src))) else none
        | .tight=>if (sz=j.size∨rows=[])∧rows.length+n≤549755813888 then some (.ms σ.H.length 0 (rows.length+n) j.size,σ.push (.cells (rows.flatten++src))) else none
        | _=>none
       | .ms b off len sz=>match σ.H[b]? with
        | some (.cells c)=>if sz=j.size∧off=0∧len+n≤549755813888∧len*sz≤c.length then
         some (.ms σ.H.length 0 (len+n) sz,{ σ with H:=σ.H.set b .dead++[.cells (c.take (len*sz)++src)] })
         else none
        | _=>none
       | _=>none
      | none=>none
     | _=>none
    else none
   | none=>none
  | _=>none
 | none=>none
/-- What is appended is nothing: the slice as it is. -/
def appendX (D:Nat→Option TI) (σ:St) (t u:Nat) (s x:AV):Option (AV×St) :=
 match appendM D σ t u s x with
 | some p=>some p
 | none=>match s,x with
  | .ms b off len sz,.sl sz' [] tok=>(match plainTD D t,plainTD D u with
   | .sl e,.sl _=>(match D e with | some j=>some (.ms b off len sz,σ) | none=>none)
   | _,_=>none)
  | _,_=>none
def clearA (D:Nat→Option TI) (σ:St) (t:Nat) (x:AV):Option St :=
 match D t with
 | some i=>match i.d,x with
  | .sl e,.sl _ [] _=>some σ
  | .sl e,.ms b off len sz=>match D e,σ.H[b]? with
   | some j,some (.cells c)=>if sz=j.size∧j.zero.length=j.size∧0<j.size∧j.zero.all AV.atom=true∧off+len*sz≤c.length then some { σ with H:=σ.H.set b (.cells (putAt c off (List.replicate len j.zero).flatten)) } else none
   | _,_=>none
  | _,_=>none
 | none=>none
def capA (D:Nat→Option TI) (t:Nat) (x:AV):Option AV :=
 match D t with
 | some i=>match i.d,x with
  | .sl _,.sl _ [] .nil=>some (.int .i64 0)
  | _,_=>none
 | none=>none
/-- How many elements. -/
def lenS:AV→Option Nat
 | .sl _ rows _=>some rows.length
 | .ms _ _ len _=>some len
 | _=>none
/-- The cells of the first elements. -/
def preA (σ:St) (sz m:Nat):AV→Option (List AV)
 | .sl s rows _=>if s=sz∧m≤rows.length then some (rows.take m).flatten else none
 | .ms b off len s=>if s=sz∧m≤len then (match σ.H[b]? with
  | some (.cells c)=>cut c off (m*sz)
  | _=>none) else none
 | _=>none
/-- 'copy'. -/
def copyA (D:Nat→Option TI) (σ:St) (t:Nat) (d s:AV):Option (AV×St) :=
 match D t,lenS d,lenS s with
 | some i,some dl,some n=>match i.d with
  | .sl e=>match D e with
   | some j=>
    if min n dl=0 then some (.int .i64 0,σ) else
    match d with
    | .ms b off len sz=>if sz=j.size then (match preA σ sz (min n len) s,σ.H[b]? with
     | some src,some (.cells c)=>if off+min n len*sz≤c.length then some (.int .i64 (min n len:Nat),{ σ with H:=σ.H.set b (.cells (putAt c off src)) }) else none
     | _,_=>none) else none
    | _=>none
   | none=>none
  | _=>none
 | _,_,_=>none
/-- An empty row without room. -/
def mkX (D:Nat→Option TI) (mu:Bool) (σ:St) (t:Nat) (l c:AV):Option (List (AV×St)) :=
 match mu,l,c with
 | true,.int _ 0,.int _ 0=>(match makeSliceA D σ t l c with
  | some (.sl sz [] _,σ')=>some [(.sl sz [] .tight,σ')]
  | _=>none)
 | _,_,_=>none
@[simp] theorem mkX_false {D:Nat→Option TI} {σ:St} {t:Nat} {l c:AV}:mkX D false σ t l c=none:=by unfold mkX;rfl
/-- All outcomes of an operation that is not of 'sem'. 'mu': appends make rows of the state's own. -/
def semX (D:Nat→Option TI) (G:Nat→AV) (mu:Bool) (env:Env) (σ:St):Op→Option (List (AV×St))
 | .next it false=>nextsA σ (ev G env it)
 | .entry it=>(entryA σ (ev G env it)).map fun v=>[(v,σ)]
 | .insert t m k v=>(mapUpdateA D σ t (ev G env m) (ev G env k) (ev G env v)).map fun σ'=>[(.tup [],σ')]
 | .makeSlice t l c=>mkX D mu σ t (ev G env l) (ev G env c)
 | .binOp o t x y _=>match o with
  | .eql=>nilCmp D false t (ev G env x) (ev G env y) σ
  | .neq=>nilCmp D true t (ev G env x) (ev G env y) σ
  | _=>none
 | .call { callee:=.builtin b,args:=args,argTypes:=ts }=>match b,ts.toList,args.toList with
  | .append,[t,u],[s,x]=>match mu with
   | true=>(appendX D σ t u (ev G env s) (ev G env x)).map fun p=>[p]
   | false=>none
  | .clear,[t],[x]=>(clearA D σ t (ev G env x)).map fun σ'=>[(.tup [],σ')]
  | .cap,[t],[x]=>(capA D t (ev G env x)).map fun v=>[(v,σ)]
  | .copy,[t,_],[d,s]=>(copyA D σ t (ev G env d) (ev G env s)).map fun p=>[p]
  | _,_,_=>none
 | _=>none
section
variable {P:Program} {G:Nat→AV} {w0:World} {ro0:Nat→Nat→Option Value} {K:Kn} {σ:St} {w w':World} {N:Nat} {env:Env} {a:Act}
theorem entry_sound (h:WRel G w0 ro0 K σ w) {x:Value} {a v:AV} (hx:VRel K a x) (hf:entryA σ a=some v):∃ v',(Instr.entry x).run P w=.ok v' w∧VRel K v v':=by
 unfold entryA at hf
 split at hf
 case h_2=>cases hf
 rename_i b
 simp only [VRel] at hx
 obtain⟨B,hm,rfl⟩:=hx
 split at hf
 case h_2=>cases hf
 rename_i mb since seen stepped hb
 obtain⟨B',h1,hB0,hBl,h4,_⟩:=h.blk b _ hb
 rw [hm] at h1;cases h1
 obtain⟨mB,h5,h6⟩:=h4
 simp only at h6
 obtain⟨M,hmM,rfl⟩:=h6
 split at hf
 case h_2=>cases hf
 rename_i es clock hes
 obtain⟨M',g1,g2,g3,⟨es',g4,g5,g6⟩,g8⟩:=h.blk mb _ hes
 rw [hmM] at g1;cases g1
 have hF:F2 (ERelM K) es es'.toList:=F2.of_get (by simpa using g5.symm) fun i e he=>by
  obtain⟨k,v,n⟩:=e
  obtain⟨e',k1,k2,k3,k4⟩:=g6 i k v n he
  exact⟨e',by simpa using k1,k2,k3,k4⟩
 split at hf
 case h_2=>cases hf
 rename_i st hst
 split at hf
 case isFalse=>cases hf
 rename_i hcl
 subst hcl
 obtain⟨e,he,rfl⟩:=Option.map_eq_some_iff.1 hf
 have find:∀ {l:List (AV×AV×Nat)} {m:List MapEntry},F2 (ERelM K) l m→l.find? (fun e=>e.2.2==st)=some e→∃ e',m.find? (fun e=>e.born==st)=some e'∧ERelM K e e':=by
  intro l m hF
  induction hF with
  | nil=>intro he;simp at he
  | cons hr t ih=>
   rename_i a b l m
   intro he
   rw [List.find?_cons] at he ⊢
   rw [hr.2.2]
   split at he
   · rename_i hb;cases he;exact⟨b,rfl,hr⟩
   · exact ih he
 obtain⟨e',f1,f2,f3,f4⟩:=find hF he
 refine⟨.tuple #[e'.key,e'.val],?_,by simp only [VRel];exact⟨_,rfl,by simp only [VRels];exact⟨_,_,rfl,f2,_,_,rfl,f3,rfl⟩⟩⟩
 have hbk:seen.toArray.back?=some st:=by simpa using hst
 have hfd:es'.find? (fun e=>e.born==st)=some e':=by rw [← Array.find?_toList];exact f1
 simp [Instr.entry,getObj,Sem.run,h5,g4,hbk,hfd]
theorem plainTD_spec {t:Nat} {d:TD} (h:plainTD (Dof P) t=d) (hd:d≠.other):∃ d',P.underlying t=some d'∧tdOf P d'=d:=by
 unfold plainTD at h
 split at h
 · rename_i i hD
   obtain⟨inf,d',z,hi,hu,_,rfl⟩:=Dof_spec hD
   exact⟨d',hu,h⟩
 · exact absurd h.symm hd
theorem td_ptr {d:TypeDesc} {e:Nat} (h:tdOf P d=.ptr e):d=.pointer e:=by
 cases d<;>simp [tdOf] at h
 · exact h▸rfl
 · split at h<;>cases h
theorem td_fn {d:TypeDesc} (h:tdOf P d=.fn):∃ a b c,d=.func a b c:=by
 cases d<;>simp only [tdOf] at h<;>first | exact⟨_,_,_,rfl⟩ | (cases h;done) | (split at h<;>cases h)
theorem eq_slice {t e:Nat} (hu:P.underlying t=some (.slice e)) (bx:Option Addr) (n c:Nat):(Op.equal t (.slice bx n c) (.slice none 0 0)).run P w=.ok bx.isNone w:=by
 show (Op.equalIn (9999+1) t _ _).run P w=_
 rw [Op.equalIn]
 simp only [Sem.run_bind,run_underlying hu,Result.andThen_ok]
 cases bx<;>rfl
theorem eq_ptr {t e:Nat} (hu:P.underlying t=some (.pointer e)) (bx:Option Addr):(Op.equal t (.pointer bx) (.pointer none)).run P w=.ok bx.isNone w:=by
 show (Op.equalIn (9999+1) t _ _).run P w=_
 rw [Op.equalIn]
 simp only [Sem.run_bind,run_underlying hu,Result.andThen_ok]
 cases bx<;>rfl
theorem eq_map {t k e:Nat} (hu:P.underlying t=some (.map k e)) (bx:Option Nat):(Op.equal t (.map bx) (.map none)).run P w=.ok bx.isNone w:=by
 show (Op.equalIn (9999+1) t _ _).run P w=_
 rw [Op.equalIn]
 simp only [Sem.run_bind,run_underlying hu,Result.andThen_ok]
 cases bx<;>rfl
theorem eq_fn0 {t:Nat} {a b:Array TypeId} {c:Bool} (hu:P.underlying t=some (.func a b c)):(Op.equal t .nilFunc .nilFunc).run P w=.ok true w:=by
 show (Op.equalIn (9999+1) t _ _).run P w=_
 rw [Op.equalIn]
 simp only [Sem.run_bind,run_underlying hu,Result.andThen_ok]
 rfl
theorem eq_fn1 {t:Nat} {a b:Array TypeId} {c:Bool} (hu:P.underlying t=some (.func a b c)) (f:Fn) (x y:Array Value):(Op.equal t (.func f x y) .nilFunc).run P w=.ok false w:=by
 show (Op.equalIn (9999+1) t _ _).run P w=_
 rw [Op.equalIn]
 simp only [Sem.run_bind,run_underlying hu,Result.andThen_ok]
 rfl
def refV:Value→Bool
 | .slice .. =>true
 | .pointer _=>true
 | .map _=>true
 | .nilFunc=>true
 | .func .. =>true
 | _=>false
theorem nilCmp_run {t:Nat} {x y:AV} {l:List Bool} {x' y':Value} (hx:VRel K x x') (hy:VRel K y y') (hl:nilIs x y=some l) (hfit:nilFits (plainTD (Dof P) t) x=true) :
 ∃ b∈l,(Op.equal t x' y').run P w=.ok b w∧refV x'=true:=by
 have nils:∀ {sz:Nat},VRel K (.sl sz [] .nil) y'→y'=.slice none 0 0:=by
  intro sz h
  simp only [VRel] at h
  rcases h with ⟨⟨a0,h1,ha0⟩,_⟩|⟨B,off,cap,h1,h2,h3,h4⟩
  · rw [h1,ha0.resolve_right (by simp)]
  · simp [TokOk] at h4
 have slT:(plainTD (Dof P) t).isSl=true→∃ e,P.underlying t=some (.slice e):=by
  intro he
  obtain⟨e,he⟩:=TD.isSl_spec he
  obtain⟨d',hu,hd'⟩:=plainTD_spec he (by simp)
  exact⟨e,by rw [hu,td_sl hd']⟩
 have ptrT:(plainTD (Dof P) t).isPtr=true→∃ e,P.underlying t=some (.pointer e):=by
  intro he
  obtain⟨e,he⟩:=TD.isPtr_spec he
  obtain⟨d',hu,hd'⟩:=plainTD_spec he (by simp)
  exact⟨e,by rw [hu,td_ptr hd']⟩
 have mapT:(plainTD (Dof P) t).isMap=true→∃ k e,P.underlying t=some (.map k e):=by
  intro he
  obtain⟨k,e,he⟩:=TD.isMap_spec he
  obtain⟨d',hu,hd'⟩:=plainTD_spec he (by simp)
  exact⟨k,e,by rw [hu,td_map hd']⟩
 have fnT:(plainTD (Dof P) t).isFn=true→∃ a b c,P.underlying t=some (.func a b c):=by
  intro he
  obtain⟨d',hu,hd'⟩:=plainTD_spec (TD.isFn_spec he) (by simp)
  obtain⟨a,b,c,rfl⟩:=td_fn hd'
  exact⟨a,b,c,hu⟩
 have slOf:∀ {sz rows tok},VRel K (.sl sz rows tok) x'→∃ bx n c,x'=.slice bx n c∧(rows≠[]→bx.isNone=false)∧(tok=.nil→bx=none):=by
  intro sz rows tok h
  simp only [VRel] at h
  rcases h with ⟨⟨a0,h1,ha0⟩,h2,_⟩|⟨B,off,cap,h1,h2,h3,h4⟩
  · exact⟨a0,0,0,h1,fun hne=>absurd h2 hne,fun ht=>ha0.resolve_right (by rw [ht];simp)⟩
  · exact⟨_,_,_,h1,fun _=>rfl,fun ht=>by subst ht;simp [TokOk] at h4⟩
 unfold nilIs at hl
 split at hl
 case h_12=>cases hl
 all_goals cases hl
 all_goals simp only [nilFits] at hfit
 · obtain⟨e,hu⟩:=slT hfit
   have:=nils hy;subst this
   obtain⟨bx,n,c,rfl,h1,h2⟩:=slOf hx
   exact⟨false,by simp,by rw [eq_slice hu,h1 (by simp)],rfl⟩
 · obtain⟨e,hu⟩:=slT hfit
   have:=nils hy;subst this
   obtain⟨bx,n,c,rfl,h1,h2⟩:=slOf hx
   exact⟨true,by simp,by rw [eq_slice hu,h2 rfl];rfl,rfl⟩
 · obtain⟨e,hu⟩:=slT hfit
   have:=nils hy;subst this
   obtain⟨bx,n,c,rfl,h1,h2⟩:=slOf hx
   exact⟨bx.isNone,by cases bx<;>simp,eq_slice hu _ _ _,rfl⟩
 · obtain⟨e,hu⟩:=slT hfit
   have:=nils hy;subst this
   simp only [VRel] at hx
   obtain⟨B,cap,hm,rfl,_⟩:=hx
   exact⟨false,by simp,by rw [eq_slice hu];rfl,rfl⟩
 · obtain⟨e,hu⟩:=ptrT hfit
   simp only [VRel] at hx hy
   subst hx;subst hy
   exact⟨true,by simp,by rw [eq_ptr hu];rfl,rfl⟩
 · obtain⟨e,hu⟩:=ptrT hfit
   simp only [VRel] at hx hy
   obtain⟨B,hm,rfl⟩:=hx
   subst hy
   exact⟨false,by simp,by rw [eq_ptr hu];rfl,rfl⟩
 · obtain⟨e,hu⟩:=ptrT hfit
   simp only [VRel] at hx hy
   obtain⟨B,off,rfl,_⟩:=hx
   subst hy
   exact⟨false,by simp,by rw [eq_ptr hu];rfl,rfl⟩
 · obtain⟨k,e,hu⟩:=mapT hfit
   simp only [VRel] at hx hy
   subst hx;subst hy
   exact⟨true,by simp,by rw [eq_map hu];rfl,rfl⟩
 · obtain⟨k,e,hu⟩:=mapT hfit
   simp only [VRel] at hx hy
   obtain⟨B,hm,rfl⟩:=hx
   subst hy
   exact⟨false,by simp,by rw [eq_map hu];rfl,rfl⟩
 · obtain⟨u1,u2,u3,hu⟩:=fnT hfit
   simp only [VRel] at hx hy
   subst hx;subst hy
   exact⟨true,by simp,eq_fn0 hu,rfl⟩
 · obtain⟨u1,u2,u3,hu⟩:=fnT hfit
   simp only [VRel] at hx hy
   obtain⟨va,vb,rfl,_,_⟩:=hx
   subst hy
   exact⟨false,by simp,eq_fn1 hu _ _ _,rfl⟩
theorem nilCmp_sound (h:WRel G w0 ro0 K σ w) {t:Nat} {x y:AV} {l:List (AV×St)} {x' y':Value} (hx:VRel K x x') (hy:VRel K y y') {neg:Bool} (hf:nilCmp (Dof P) neg t x y σ=some l) (ox oy:Operand) :
 ∃ v σ',(v,σ')∈l∧σ'=σ∧∃ v',(do eqGuard (if neg then .neq else .eql) t ox oy x' y';binOp (if neg then .neq else .eql) t x' y':Sem Value).run P w=.ok v' w∧VRel K v v':=by
 unfold nilCmp at hf
 split at hf
 · rename_i bs hbs
   split at hf
   · rename_i hfit
     simp only [Option.some.injEq] at hf
     subst hf
     obtain⟨b,hb,hrun,h1⟩:=nilCmp_run (w:=w) hx hy hbs hfit
     refine⟨.bool (b != neg),σ,List.mem_map.2 ⟨b,hb,rfl⟩,rfl,.bool (b != neg),?_,by simp [VRel]⟩
     cases neg<;>cases x'<;>simp only [refV] at h1<;>first | (cases h1;done) | skip
     all_goals
      simp only [Bool.false_eq_true,if_false,if_true]
      rw [Sem.run_bind]
      simp only [eqGuard,pure]
      simp [binOp,hrun]
   · cases hf
 · cases hf
end
end
section
section
variable {P:Program} {G:Nat→AV} {w0:World} {ro0:Nat→Nat→Option Value} {K:Kn} {σ:St} {w w':World} {N:Nat} {env:Env} {a:Act}
/-- There is room: the cells are stored behind the length. -/
theorem run_append_room_x (t tx ty e el:TypeId) (i:TypeInfo) (ht:P.underlying t=some (.slice e)) (hi:P.info? e=some i) (b sLen sCap:Nat) (cur:Array Value) (hg:w.heap[b]?=some (.cells cur el (0,0)))
 (x:Value) (n:Nat) (news:List Value) (hs:Src P i.size tx x n news w) (hroom:sLen+n≤sCap) (hfit:sLen*i.size+news.length≤cur.size) :
 (Builtin.append_ #[t,tx] ty #[.slice (some ⟨b,0,none⟩) sLen sCap,x]).run P w=.ok (.slice (some ⟨b,0,none⟩) (sLen+n) sCap)
   (w.setRow b (cur.toList.take (sLen*i.size)++news++cur.toList.drop (sLen*i.size+news.length)).toArray):=by
 have hst:=run_storeCells_at P b (sLen*i.size) el news 0 cur w hg (by simpa using hfit) hs.one
 simp only [Nat.add_zero] at hst
 rcases hs.kind with ⟨e',hk⟩|hk<;>simp [Builtin.append_,run_underlying ht,run_underlying hk,sizeOf,typeInfo,hi,hs.len,hroom,hs.cells,Addr.add_lit,hst]
/-- What a source yields. -/
theorem src_sound (h:WRel G w0 ro0 K σ w) {j:TI} {x:AV} {x':Value} (hx:VRel K x x') {n:Nat} {src:List AV} (hf:srcA σ j x=some (n,src)) (hn:n≠0) {u e':Nat} (hu:P.underlying u=some (.slice e')) {size:Nat} (hsz:j.size=size) :
 ∃ news,VRels K src news∧src.all AV.atom=true∧Src P size u x' n news w∧src.length=n*size:=by
 unfold srcA at hf
 split at hf
 · rename_i sz rows tok
   split at hf
   · rename_i hc
     simp only [Option.some.injEq,Prod.mk.injEq] at hf
     obtain⟨rfl,rfl⟩:=hf
     have hne:rows≠[]:=fun e=>hn (by simp [e])
     have hsz':sz=size:=(hc.resolve_right hne).trans hsz
     subst hsz'
     simp only [VRel] at hx
     rcases hx with ⟨_,h2,_⟩|⟨B,off,cap,rfl,hcap,hrows,_⟩
     · exact absurd h2 hne
     · obtain⟨vs,g1,g2,g3,g4,g5⟩:=rows_read h hrows
       exact⟨vs,g1,g4,Src.ofSlice w hu _ _ _ vs g2 g3 g5,by rw [← g1.length,g2]⟩
   · cases hf
 · rename_i b off len sz
   split at hf
   · rename_i hsz1
     have hsz':sz=size:=hsz1.trans hsz
     subst hsz'
     split at hf
     · rename_i c hb
       obtain⟨s,hs,he⟩:=Option.map_eq_some_iff.1 hf
       simp only [Prod.mk.injEq] at he
       obtain⟨rfl,rfl⟩:=he
       unfold cut at hs
       split at hs
       · rename_i hl
         simp only [Option.some.injEq] at hs
         subst hs
         simp only [VRel] at hx
         obtain⟨B,cap,hm,rfl,hcap,hpos,hbs⟩:=hx
         obtain⟨vs,l1,l2⟩:=Lies.of_blk h hb hm off (len*sz) hl
         obtain⟨B',g1,g2,g3,⟨cs,el,g4,g5,g6,g7⟩,g8⟩:=h.blk b _ hb
         have hat:((c.drop off).take (len*sz)).all AV.atom=true:=by
          rw [List.all_eq_true] at g5 ⊢
          exact fun x hx=>g5 x (List.mem_of_mem_drop (List.mem_of_mem_take hx))
         have hlen:((c.drop off).take (len*sz)).length=len*sz:=by simp;omega
         exact⟨vs,l1,hat,Src.ofSlice w hu _ _ _ vs (by rw [l1.length,hlen]) (fun j v e=>by rw [addr_add];exact l2 j v e) (l1.oneCells hat),hlen⟩
       · cases hs
     · cases hf
   · cases hf
 · cases hf
/-- A block is dead, and another number stands for what is there now. -/
theorem WRel.again (h:WRel G w0 ro0 K σ w) {b B:Nat} {c:List AV} {b':Blk} (hb:σ.H[b]?=some (.cells c)) (hm:K.m b=some B) (hos:w'.os=w.os) (htape:w'.tape=w.tape) (hout:w'.output=w.output)
 (hsz:w'.heap.size=w.heap.size) (hother:∀ k,k≠B→w'.heap[k]?=w.heap[k]?) (hb':BlkRel K b' w'.heap[B]?) (hbs:∀ cs el fr,w'.heap[B]?=some (.cells cs el fr)→cs.size=K.bs b)
 (hwas:∀ cs el fr,w'.heap[B]?=some (.cells cs el fr)→∃ cs0 el0 fr0,w.heap[B]?=some (.cells cs0 el0 fr0)) :
 K.le (K.addM σ.H.length B (K.bs b))∧WRel G w0 ro0 (K.addM σ.H.length B (K.bs b)) { σ with H:=σ.H.set b .dead++[b'] } w':=by
 have hbl:b<σ.H.length:=(List.getElem?_eq_some_iff.1 hb).1
 have hle:=Kn.le_addM h B (K.bs b)
 have h1:=h.setBlk (b':=.dead) hbl hm hos htape hout hsz hother (by simp [BlkRel]) (by rw [hb];simp) hbs hwas
 have hlen:(σ.H.set b .dead).length=σ.H.length:=by simp
 have alone:∀ i,K.m i=some B→(σ.H.set b Blk.dead)[i]?=some Blk.dead:=by
  intro i hi
  by_cases hib:i=b
  · subst hib;simp [hbl]
  · rw [List.getElem?_set_ne (Ne.symm hib)]
    rcases h.inj i b B hi hm with h2|h2|h2
    · exact absurd h2 hib
    · exact h2
    · rw [hb] at h2;cases h2
 refine⟨hle,⟨h1.below,fun g=>(h1.glob g).mono (K0_mono hle),h1.ro,h1.new,?_,?_,?_,?_,h1.chd,h1.chinj,?_,?_,?_,?_⟩⟩
 · intro i b2 e
   simp only [List.getElem?_append] at e
   split at e
   · rename_i hi
     obtain⟨B2,g1,g2,g3,g4,g5⟩:=h1.blk i b2 e
     exact⟨B2,hle.m _ _ g1,g2,g3,g4.mono hle,g5⟩
   · rename_i hi
     have hi':i=σ.H.length:=by
      rcases Nat.lt_or_ge (i-(σ.H.set b .dead).length) 1 with h2|h2
      · omega
      · simp [List.getElem?_eq_none (l:=[b']) (by simpa using h2)] at e
     subst hi'
     simp at e
     subst e
     obtain⟨B0,g1,g2,g3,g4,g5⟩:=h.blk b _ hb
     rw [hm] at g1;cases g1
     exact⟨B,by simp [Kn.addM],g2,by omega,hb'.mono hle,g5⟩
 · intro i j B2 e1 e2
   simp only [Kn.addM] at e1 e2
   have left:∀ {i},(σ.H.set b Blk.dead)[i]?=some Blk.dead→(σ.H.set b Blk.dead++[b'])[i]?=some Blk.dead:=fun {i} hi=>by
    rw [List.getElem?_append_left (List.getElem?_eq_some_iff.1 hi).1];exact hi
   split at e1<;>split at e2
   · left;omega
   · simp at e1;subst e1;exact .inr (.inr (left (alone j e2)))
   · simp at e2;subst e2;exact .inr (.inl (left (alone i e1)))
   · exact (h1.inj i j B2 e1 e2).imp_right (Or.imp left left)
 · intro i B2 e
   simp only [Kn.addM] at e
   simp only [List.length_append,List.length_set,List.length_singleton]
   split at e
   · omega
   · have:=h.mlt i B2 e;omega
 · intro t k e
   obtain⟨C,g1,g2,g3,g4,g5,g6,g7⟩:=h1.ch t k e
   refine⟨C,g1,g2,g3,g4,g5,g6,fun i e2=>?_⟩
   simp only [Kn.addM] at e2
   split at e2
   · simp at e2;exact g7 b (by rw [hm,e2])
   · exact g7 i e2
 · exact h1.nch
 · intro i B2 cs el fr e1 e2
   simp only [Kn.addM] at e1 ⊢
   split at e1
   · rename_i hi
     simp at e1;subst e1
     simp [hi]
     exact h1.bsz b B cs el fr hm e2
   · rename_i hi
     simp only [hi,if_false]
     exact h1.bsz i B2 cs el fr e1 e2
 · intro B2 x e
   obtain⟨g1,g2,g3,g4⟩:=h1.fx B2 x e
   refine⟨g1,g2,fun i e2=>?_,g4⟩
   simp only [Kn.addM] at e2
   split at e2
   · simp at e2;exact g3 b (by rw [hm,e2])
   · exact g3 i e2
 · intro n x e
   have:=h.rwl n x e
   simp only [List.length_append,List.length_set,List.length_singleton];omega
/-- A row in a new block. -/
theorem new_row (h:WRel G w0 ro0 K σ w) {content:List AV} {vs:List Value} (hv:VRels K content vs) (hat:content.all AV.atom=true) {z:Array Value} {len cap sz e:Nat} (hz:z.size=sz) (hsz:0<sz) (hlen:vs.length=len*sz) (hcap:len≤cap) (h0:0<len) :
 ∃ K',K.le K'∧WRel G w0 ro0 K' (σ.push (.cells content)) (w.alloc (.cells (vs.toArray++Builtin.zeroCells z (cap-len)) e))∧VRel K' (.ms σ.H.length 0 len sz) (.slice (some ⟨w.heap.size,0,none⟩) len cap):=by
 have hsize:(vs.toArray++Builtin.zeroCells z (cap-len)).size=cap*sz:=by
  simp only [Array.size_append,List.size_toArray,size_zeroCells,hz,hlen,← Nat.add_mul]
  congr 1;omega
 refine⟨_,Kn.le_addM h _ _,h.push (o:=.cells (vs.toArray++Builtin.zeroCells z (cap-len)) e) ⟨_,e,rfl,hat,?_,fun i a ea=>?_⟩,?_⟩
 · rw [hsize,← hv.length,hlen];exact Nat.mul_le_mul_right _ hcap
 · obtain⟨v,e1,e2⟩:=hv.get i a ea
   have hil:i<vs.length:=(List.getElem?_eq_some_iff.1 e1).1
   exact⟨v,by rw [Array.getElem?_append_left (by simpa using hil)];simpa using e1,e2⟩
 · simp only [VRel]
   exact⟨w.heap.size,cap,by simp [Kn.addM],rfl,hcap,by omega,by simp only [Kn.addM,if_true,objSize,hsize];omega⟩
theorem appendM_sound (h:WRel G w0 ro0 K σ w) {t u:Nat} {s x v:AV} {s' x':Value} (hs:VRel K s s') (hx:VRel K x x') (ty:Nat) {σ':St} (hf:appendM (Dof P) σ t u s x=some (v,σ')) :
 Ran P G w0 ro0 K w (Builtin.append_ #[t,u] ty #[s',x']) v σ':=by
 unfold appendM at hf
 split at hf
 case h_2=>cases hf
 rename_i i hD
 obtain⟨inf,d,z,hi,hu,_,rfl⟩:=Dof_spec hD
 simp only at hf
 split at hf
 case h_2=>cases hf
 rename_i e hd
 have hd':=td_sl hd
 subst hd'
 split at hf
 case h_2=>cases hf
 rename_i j hj
 obtain⟨inf2,d2,z2,hi2,hu2,hz2,rfl⟩:=Dof_spec hj
 simp only at hf
 split at hf
 case isFalse=>cases hf
 rename_i hc
 obtain⟨hc3,hc4,hc5⟩:=hc
 have hzs:z2.cells.size=inf2.size:=by simpa using hc4
 have bound:∀ m:Nat,m≤549755813888→m*inf2.bytes≤140737488355328:=fun m hm=>by
  calc m*inf2.bytes≤549755813888*256:=Nat.mul_le_mul hm hc5
   _≤140737488355328:=by omega
 split at hf
 · -- zeros
   rename_i kn hkn
   obtain⟨du,hdu,hdu2⟩:=plainTD_spec hkn (by simp)
   have:=td_int hdu2;subst this
   split at hf
   case h_2=>cases hf
   rename_i sz0 k n
   split at hf
   case isFalse=>cases hf
   rename_i hn
   obtain⟨n0,n1,n2⟩:=hn
   simp only [Option.some.injEq,Prod.mk.injEq] at hf
   obtain⟨rfl,rfl⟩:=hf
   simp only [VRel] at hx
   subst hx
   have hs0:s'=.slice none 0 0:=by
    simp only [VRel] at hs
    rcases hs with ⟨⟨a0,hs1,ha0⟩,_⟩|⟨B,off,cap,g1,g2,g3,g4⟩
    · rw [hs1,ha0.resolve_right (by simp)]
    · simp [TokOk] at g4
   subst hs0
   obtain⟨m,rfl⟩:=Int.eq_ofNat_of_zero_le (Int.le_of_lt n0)
   have hm0:0<m:=by omega
   have hm1:m≤549755813888:=by omega
   have hr:=Lib.run_append_nil_zeros (P:=P) w t u ty e inf2 z2 k kn hu hdu hi2 hz2 m hm0 hc3 (by omega) (by have:=bound m hm1;omega)
   have hge:=grownCap_ge w m 0 e
   have hzr:=zeros_rel (K:=K) (z:=z2) (n:=m) (by omega)
   have hzl:((Array.range (m*z2.cells.size)).map (z2.cells[· % z2.cells.size]!)).toList.length=m*inf2.size:=by simp [hzs]
   obtain⟨K',k1,k2,k3⟩:=new_row (e:=e) h.drew hzr (by
    rw [List.all_eq_true]
    intro x hx
    obtain⟨l,hl1,hl2⟩:=List.mem_flatten.1 hx
    rw [(List.mem_replicate.1 hl1).2] at hl2
    rw [List.all_eq_true] at n2
    exact n2 x hl2) hzs hc3 hzl hge hm0
   refine⟨_,_,K',hr,k1,?_,?_⟩
   · simp only [Array.toArray_toList] at k2
     exact k2
   · simpa using k3
 · -- a slice
   rename_i eu heu
   obtain⟨du,hdu,hdu2⟩:=plainTD_spec heu (by simp)
   have:=td_sl hdu2;subst this
   split at hf
   case h_2=>cases hf
   rename_i n src hsrc
   split at hf
   · cases hf
   rename_i hn
   obtain⟨news,n1,n2,n3,n4⟩:=src_sound (P:=P) (u:=u) (size:=inf2.size) h hx hsrc hn hdu rfl
   have nl:news.length=n*inf2.size:=n3.newsLen
   have fromNil:∀ (total:Nat),total=n→n≤549755813888→s'=.slice none 0 0→Ran P G w0 ro0 K w (Builtin.append_ #[t,u] ty #[s',x']) (.ms σ.H.length 0 total inf2.size) (σ.push (.cells src)):=by
    intro total ht hb hs0
    subst ht;subst hs0
    have hr:=run_append_grow_src (P:=P) w t u ty e inf2 z2 hu hi2 hz2 none 0 0 [] (by simpa using run_firstCells_none (P:=P) w.drew inf2.size 0 0 0) x' total news n3 (by omega) (by omega) (growslice_fits (by omega) (by have:=bound total hb;simpa using this))
    have hge:=grownCap_ge w total 0 e
    obtain⟨K',k1,k2,k3⟩:=new_row (e:=e) h.drew n1 n2 hzs hc3 nl hge (by omega)
    simp only [Nat.zero_add,List.nil_append] at hr
    exact⟨_,_,K',hr,k1,k2,by simpa using k3⟩
   have grow:∀ (rows:Nat) (content:List AV) (olds:List Value) (base:Addr),VRels K content olds→content.all AV.atom=true→olds.length=rows*inf2.size→(∀ j v,olds[j]?=some v→w.cell? (base.add j)=some v)→rows+n≤549755813888→∀ cap,cap<rows+n →
    ∃ K',K.le K'∧WRel G w0 ro0 K' (σ.push (.cells (content++src))) (w.drew.alloc (.cells ((olds++news).toArray++Builtin.zeroCells z2.cells (grownCap w (rows+n) cap e-(rows+n))) e)) ∧
     VRel K' (.ms σ.H.length 0 (rows+n) inf2.size) (.slice (some ⟨w.heap.size,0,none⟩) (rows+n) (grownCap w (rows+n) cap e)) ∧
     (Builtin.append_ #[t,u] ty #[.slice (some base) rows cap,x']).run P w=.ok (.slice (some ⟨w.heap.size,0,none⟩) (rows+n) (grownCap w (rows+n) cap e))
       (w.drew.alloc (.cells ((olds++news).toArray++Builtin.zeroCells z2.cells (grownCap w (rows+n) cap e-(rows+n))) e)):=by
    intro rows content olds base o1 o2 o3 o4 hb cap hcap
    have hr:=run_append_grow_src (P:=P) w t u ty e inf2 z2 hu hi2 hz2 (some base) rows cap olds (run_firstCells_some w.drew inf2.size rows base rows cap olds o3 (by simpa using o4)) x' n news n3 hcap (by omega) (growslice_fits (by omega) (bound _ hb))
    have hge:=grownCap_ge w (rows+n) cap e
    obtain⟨K',k1,k2,k3⟩:=new_row (e:=e) h.drew (o1.append n1) (by rw [List.all_append,o2,n2];rfl) hzs hc3 (by rw [List.length_append,o3,nl,Nat.add_mul]) hge (by omega)
    exact⟨K',k1,k2,by simpa using k3,hr⟩
   split at hf
   · rename_i sz rows tok
     split at hf
     · -- nil
       split at hf
       case isFalse=>cases hf
       rename_i hb
       simp only [Option.some.injEq,Prod.mk.injEq] at hf
       obtain⟨rfl,rfl⟩:=hf
       simp only [VRel] at hs
       rcases hs with ⟨⟨a0,h1,ha0⟩,rfl,_⟩|⟨B,off,cap,g1,g2,g3,g4⟩
       · rw [ha0.resolve_right (by simp)] at h1
         simpa using fromNil (0+n) (by omega) (by simpa using hb) h1
       · simp [TokOk] at g4
     · -- no spare room
       split at hf
       case isFalse=>cases hf
       rename_i hb
       obtain⟨hszr,hb⟩:=hb
       simp only [Option.some.injEq,Prod.mk.injEq] at hf
       obtain⟨rfl,rfl⟩:=hf
       simp only [VRel] at hs
       rcases hs with ⟨⟨a0,h1,ha0⟩,rfl,_⟩|⟨B,off,cap,rfl,hcap,hrows,htok⟩
       · rw [ha0.resolve_right (by simp)] at h1
         simpa using fromNil (0+n) (by omega) (by simpa using hb) h1
       · simp only [TokOk] at htok
         subst htok
         obtain⟨olds,o1,o2,o3,o4,o5⟩:=rows_read h hrows
         have o2':olds.length=rows.length*inf2.size:=by
          rcases hszr with rfl|hr0
          · exact o2
          · subst hr0;simpa using o2
         obtain⟨K',k1,k2,k3,k4⟩:=grow rows.length rows.flatten olds ⟨B,off,none⟩ o1 o4 o2' o3 hb rows.length (by omega)
         exact⟨_,_,K',k4,k1,k2,k3⟩
     · cases hf
   · rename_i b off len sz
     split at hf
     case h_2=>cases hf
     rename_i c hb
     split at hf
     case isFalse=>cases hf
     rename_i hcd
     obtain⟨rfl,rfl,hb1,hb2⟩:=hcd
     simp only [Option.some.injEq,Prod.mk.injEq] at hf
     obtain⟨rfl,rfl⟩:=hf
     simp only [VRel] at hs
     obtain⟨B,cap,hm,rfl,hcap,hpos,hbs⟩:=hs
     obtain⟨B',g1,g2,g3,⟨cs,el,g4,g5,g6,g7⟩,g8⟩:=h.blk b _ hb
     rw [hm] at g1;cases g1
     have hcs:cs.size=K.bs b:=h.bsz b B cs el _ hm g4
     obtain⟨olds,l1,l2⟩:=Lies.of_blk h hb hm 0 (len*inf2.size) (by omega)
     simp only [List.drop_zero,Nat.zero_add] at l1 l2
     have hat:(c.take (len*inf2.size)).all AV.atom=true:=by
      rw [List.all_eq_true] at g5 ⊢
      exact fun x hx=>g5 x (List.mem_of_mem_take hx)
     have ol:olds.length=len*inf2.size:=by rw [l1.length];simp;omega
     by_cases hroom:len+n≤cap
     · have hmul:(len+n)*inf2.size≤cap*inf2.size:=Nat.mul_le_mul_right _ hroom
       rw [Nat.add_mul] at hmul
       have hr:=run_append_room_x (P:=P) (w:=w) t u ty e el inf2 hu hi2 B len cap cs g4 x' n news n3 hroom (by rw [nl,hcs];omega)
       have hbk:BlkRel K (.cells (c.take (len*inf2.size)++src)) (w.setRow B (cs.toList.take (len*inf2.size)++news++cs.toList.drop (len*inf2.size+news.length)).toArray).heap[B]? := by
        refine⟨_,el,setRow_heap w B cs _ el _ g4,by rw [List.all_append,hat,n2];rfl,?_,fun i a ea=>?_⟩
        · simp [n4,nl];omega
        · rw [List.getElem?_append] at ea
          simp only [List.getElem?_toArray]
          split at ea
          · rename_i hil
            simp only [List.length_take] at hil
            rw [List.getElem?_take] at ea
            split at ea
            · obtain⟨v,e1,e2⟩:=g7 i a ea
              refine⟨v,?_,e2⟩
              rw [List.append_assoc,List.getElem?_append_left (by simp;omega),List.getElem?_take,if_pos (by omega)]
              simpa using e1
            · cases ea
          · rename_i hil
            simp only [List.length_take] at hil ea
            obtain⟨v,e1,e2⟩:=n1.get _ _ ea
            refine⟨v,?_,e2⟩
            have hvl:=(List.getElem?_eq_some_iff.1 e1).1
            rw [List.append_assoc,List.getElem?_append_right (by simp;omega),List.getElem?_append_left (by simp;omega)]
            simp only [List.length_take,Array.length_toList]
            rw [show min (len*inf2.size) cs.size=min (len*inf2.size) c.length by omega]
            exact e1
       obtain⟨q1,q2⟩:=h.again (b':=.cells (c.take (len*inf2.size)++src)) hb hm (w':=w.setRow B (cs.toList.take (len*inf2.size)++news++cs.toList.drop (len*inf2.size+news.length)).toArray) rfl rfl rfl (by simp [World.setRow]) (fun k hk=>setRow_other w B k _ hk) hbk
        (fun cs2 el2 fr2 e2=>by
          rw [setRow_heap w B cs _ el _ g4] at e2
          cases e2
          rw [← hcs]
          simp [nl];omega) (fun _ _ _ _=>⟨cs,el,_,g4⟩)
       refine⟨_,_,_,hr,q1,q2,?_⟩
       simp only [VRel]
       exact⟨B,cap,by simp [Kn.addM],rfl,hroom,hpos,by simp only [Kn.addM,if_true];omega⟩
     · obtain⟨K',k1,k2,k3,k4⟩:=grow len (c.take (len*inf2.size)) olds ⟨B,0,none⟩ l1 hat ol (fun j v e=>by rw [addr_add];simpa using l2 j v e) hb1 cap (by omega)
       have hbl:b<σ.H.length:=(List.getElem?_eq_some_iff.1 hb).1
       have hd:=h.drew.setBlk (w':=w.drew) (b':=.dead) hbl hm rfl rfl rfl rfl (fun _ _=>rfl) (by simp [BlkRel]) (by rw [hb];simp) (fun cs2 el2 fr2 e2=>h.drew.bsz b B cs2 el2 fr2 hm e2) (fun cs2 el2 fr2 e2=>⟨cs2,el2,fr2,e2⟩)
       have hge:=grownCap_ge w (len+n) cap e
       obtain⟨K2,j1,j2,j3⟩:=new_row (e:=e) hd (l1.append n1) (by rw [List.all_append,hat,n2];rfl) hzs hc3 (by rw [List.length_append,ol,nl,Nat.add_mul]) hge (by omega)
       refine⟨_,_,K2,k4,j1,?_,?_⟩
       · simpa [St.push] using j2
       · simpa using j3
   · cases hf
 · cases hf
theorem appendX_sound (h:WRel G w0 ro0 K σ w) {t u:Nat} {s x v:AV} {s' x':Value} (hs:VRel K s s') (hx:VRel K x x') (ty:Nat) {σ':St} (hf:appendX (Dof P) σ t u s x=some (v,σ')) :
 Ran P G w0 ro0 K w (Builtin.append_ #[t,u] ty #[s',x']) v σ':=by
 unfold appendX at hf
 split at hf
 · rename_i p hp
   simp only [Option.some.injEq] at hf
   subst hf
   exact appendM_sound h hs hx ty hp
 · split at hf
   case h_2=>cases hf
   rename_i b off len sz sz' tok
   split at hf
   case h_2=>cases hf
   rename_i e eu he heu
   split at hf
   case h_2=>cases hf
   rename_i j hj
   simp only [Option.some.injEq,Prod.mk.injEq] at hf
   obtain⟨rfl,rfl⟩:=hf
   obtain⟨d1,hu,hd1⟩:=plainTD_spec he (by simp)
   have:=td_sl hd1;subst this
   obtain⟨d2,hu2,hd2⟩:=plainTD_spec heu (by simp)
   have:=td_sl hd2;subst this
   obtain⟨inf2,d3,z2,hi2,hu3,hz2,rfl⟩:=Dof_spec hj
   refine Ran.same h (v':=s') ?_ hs
   have hx0:∃ bx cx,x'=.slice bx 0 cx:=by
    simp only [VRel] at hx
    rcases hx with ⟨⟨a0,rfl,_⟩,_⟩|⟨B2,off2,cap2,rfl,_⟩
    · exact⟨_,_,rfl⟩
    · exact⟨_,_,rfl⟩
   obtain⟨bx,cx,rfl⟩:=hx0
   have hf0:(Builtin.firstCells inf2.size 0 (.slice bx 0 cx)).run P w=.ok #[] w:=by
    cases bx<;>simp [Builtin.firstCells,loadCells,loadCellsFrom]
   simp only [VRel] at hs
   obtain⟨B,cap,hm,rfl,hcap,hpos,hbs⟩:=hs
   simp [Builtin.append_,run_underlying hu,run_underlying hu2,sizeOf,typeInfo,hi2,Builtin.lenOf,hcap,hf0,storeCells]
theorem clear_sound (h:WRel G w0 ro0 K σ w) {t:Nat} {x:AV} {x':Value} (hx:VRel K x x') (ty:Nat) {σ':St} (hf:clearA (Dof P) σ t x=some σ') :
 Ran P G w0 ro0 K w (Builtin.clear_ #[t] ty #[x']) (.tup []) σ':=by
 unfold clearA at hf
 split at hf
 case h_2=>cases hf
 rename_i i hD
 obtain⟨inf,d,z,hi,hu,_,rfl⟩:=Dof_spec hD
 simp only at hf
 split at hf
 · rename_i e sz tok hd
   have:=td_sl hd;subst this
   simp only [Option.some.injEq] at hf
   subst hf
   refine Ran.same h (v':=.tuple #[]) ?_ (by simp only [VRel];exact⟨_,rfl,by simp [VRels]⟩)
   simp only [VRel] at hx
   rcases hx with ⟨⟨a0,rfl,_⟩,_⟩|⟨B,off,cap,rfl,_⟩
   · cases a0<;>simp [Builtin.clear_,run_underlying hu]
   · simp [Builtin.clear_,run_underlying hu]
 · rename_i e b off len sz hd
   have:=td_sl hd;subst this
   split at hf
   case h_2=>cases hf
   rename_i j c hj hb
   obtain⟨inf2,d2,z2,hi2,hu2,hz2,rfl⟩:=Dof_spec hj
   simp only at hf
   split at hf
   case isFalse=>cases hf
   rename_i hc
   obtain⟨rfl,c2,c3,c4,c5⟩:=hc
   simp only [Option.some.injEq] at hf
   subst hf
   have hzs:z2.cells.size=inf2.size:=by simpa using c2
   simp only [VRel] at hx
   obtain⟨B,cap,hm,rfl,hcap,hpos,hbs⟩:=hx
   obtain⟨B',g1,g2,g3,⟨cs,el,g4,g5,g6,g7⟩,g8⟩:=h.blk b _ hb
   rw [hm] at g1;cases g1
   have hbl:b<σ.H.length:=(List.getElem?_eq_some_iff.1 hb).1
   have hcs:cs.size=K.bs b:=h.bsz b B cs el _ hm g4
   have hzr:=zeros_rel (K:=K) (z:=z2) (n:=len) (by omega)
   have hzl:(Builtin.zeroCells z2.cells len).toList.length=len*inf2.size:=by simp [size_zeroCells,hzs]
   have hat:((List.replicate len (z2.cells.toList.map ofAtom)).flatten).all AV.atom=true:=by
    rw [List.all_eq_true]
    intro x hx
    obtain⟨l,hl1,hl2⟩:=List.mem_flatten.1 hx
    rw [(List.mem_replicate.1 hl1).2] at hl2
    rw [List.all_eq_true] at c4
    exact c4 x hl2
   have hst:=run_storeCells_at P B off el (Builtin.zeroCells z2.cells len).toList 0 cs w g4 (by simp only [Nat.add_zero];rw [hzl];omega) (VRels.oneCells (K:=K) hzr hat)
   simp only [Nat.add_zero] at hst
   have hflen:((List.replicate len (z2.cells.toList.map ofAtom)).flatten).length=len*inf2.size:=by
    have:=hzr.length
    rw [← this]
    simp [hzs]
   refine⟨.tuple #[],w.setRow B (cs.toList.take off++(Builtin.zeroCells z2.cells len).toList++cs.toList.drop (off+(Builtin.zeroCells z2.cells len).toList.length)).toArray,K,?_,Kn.le_refl K,
    h.setBlk (B:=B) (b':=.cells (putAt c off (List.replicate len (z2.cells.toList.map ofAtom)).flatten)) (w':=w.setRow B (cs.toList.take off++(Builtin.zeroCells z2.cells len).toList++cs.toList.drop (off+(Builtin.zeroCells z2.cells len).toList.length)).toArray) hbl hm rfl rfl rfl (by simp [World.setRow]) (fun k hk=>setRow_other w B k _ hk) ?_ (by rw [hb];simp)
     (fun cs2 el2 fr2 e2=>by
       rw [setRow_heap w B cs _ el _ g4] at e2
       cases e2
       rw [← hcs]
       simp [size_zeroCells,hzs];omega) (fun _ _ _ _=>⟨cs,el,_,g4⟩),by simp only [VRel];exact⟨_,rfl,by simp [VRels]⟩⟩
   · by_cases hl0:len=0
     · subst hl0
       have h0:(Builtin.zeroCells z2.cells 0).toList=[]:=by simp [Builtin.zeroCells]
       rw [h0] at hst ⊢
       simp only [storeCells,List.append_nil,List.length_nil,Nat.add_zero,List.take_append_drop] at hst ⊢
       have:(⟨cs.toList⟩:Array Value)=cs:=rfl
       have hsame:w.setRow B cs.toList.toArray=w:=by
        have:=hst
        simp [pure] at this
        exact this.symm
       rw [hsame]
       simp [Builtin.clear_,run_underlying hu]
     · have hl1:len≠0:=hl0
       obtain⟨m,rfl⟩:∃ m,len=m+1:=⟨len-1,by omega⟩
       simp [Builtin.clear_,run_underlying hu,zeroValue,typeInfo,hi2,hz2,hst]
   · refine⟨_,el,setRow_heap w B cs _ el _ g4,putAt_all _ _ _ g5 hat,by simp [putAt_length,size_zeroCells,hzs];omega,fun i a ea=>?_⟩
     rw [putAt_get _ _ _ _ (by omega)] at ea
     simp only [List.getElem?_toArray]
     split at ea
     · rename_i hin
       obtain⟨v,e1,e2⟩:=hzr.get _ _ ea
       refine⟨v,?_,e2⟩
       rw [List.append_assoc,List.getElem?_append_right (by simp;omega),List.getElem?_append_left (by rw [hzl];simp;omega)]
       simp only [List.length_take,Array.length_toList]
       rw [show min off cs.size=off by omega]
       exact e1
     · rename_i hin
       obtain⟨v,e1,e2⟩:=g7 i a ea
       refine⟨v,?_,e2⟩
       by_cases hlo:i<off
       · rw [List.append_assoc,List.getElem?_append_left (by simp;omega),List.getElem?_take,if_pos hlo]
         simpa using e1
       · rw [List.append_assoc,List.getElem?_append_right (by simp;omega),List.getElem?_append_right (by rw [hzl];simp;omega),List.getElem?_drop]
         simp only [List.length_take,Array.length_toList]
         rw [hflen] at hin
         have hz':(Builtin.zeroCells z2.cells len).size=len*inf2.size:=by simp [size_zeroCells,hzs]
         rw [hz',show off+len*inf2.size+(i-min off cs.size-len*inf2.size)=i by omega]
         simpa using e1
 · cases hf
theorem cap_sound (h:WRel G w0 ro0 K σ w) {t:Nat} {x v:AV} {x':Value} (hx:VRel K x x') (ty:Nat) (hf:capA (Dof P) t x=some v):∃ v',(Builtin.cap_ #[t] ty #[x']).run P w=.ok v' w∧VRel K v v':=by
 unfold capA at hf
 split at hf
 case h_2=>cases hf
 rename_i i hD
 obtain⟨inf,d,z,hi,hu,_,rfl⟩:=Dof_spec hD
 simp only at hf
 split at hf
 · rename_i e sz hd
   have:=td_sl hd;subst this
   cases hf
   simp only [VRel] at hx
   rcases hx with ⟨⟨a0,rfl,ha0⟩,_⟩|⟨B,off,cap,g1,g2,g3,g4⟩
   · obtain rfl:=ha0.resolve_right (by simp)
     exact⟨goInt 0,by simp [Builtin.cap_,run_underlying hu],by simp [VRel,goInt]⟩
   · simp [TokOk] at g4
 · cases hf
theorem pre_sound (h:WRel G w0 ro0 K σ w) {sz m:Nat} {x:AV} {x':Value} (hx:VRel K x x') {src:List AV} (hf:preA σ sz m x=some src) (hm0:m≠0) :
 ∃ news,VRels K src news∧src.all AV.atom=true∧(Builtin.firstCells sz m x').run P w=.ok news.toArray w∧src.length=m*sz:=by
 unfold preA at hf
 split at hf
 · rename_i s rows tok
   split at hf
   case isFalse=>cases hf
   rename_i hc
   obtain⟨rfl,hml⟩:=hc
   simp only [Option.some.injEq] at hf
   subst hf
   simp only [VRel] at hx
   rcases hx with ⟨_,h2,_⟩|⟨B,off,cap,rfl,hcap,hrows,_⟩
   · subst h2;simp only [List.length_nil,Nat.le_zero] at hml;exact absurd hml hm0
   · have hs:=hrows.sub 0 m
     simp only [Nat.zero_mul,Nat.add_zero,List.drop_zero] at hs
     obtain⟨vs,g1,g2,g3,g4,g5⟩:=rows_read h hs
     have hl:(rows.take m).length=m:=by simp;omega
     rw [hl] at g2
     exact⟨vs,g1,g4,run_firstCells_some w s m _ _ _ vs g2 g3,by rw [← g2,g1.length]⟩
 · rename_i b off len s
   split at hf
   case isFalse=>cases hf
   rename_i hc
   obtain⟨rfl,hml⟩:=hc
   split at hf
   · rename_i c hb
     unfold cut at hf
     split at hf
     · rename_i hl
       simp only [Option.some.injEq] at hf
       subst hf
       simp only [VRel] at hx
       obtain⟨B,cap,hm,rfl,hcap,hpos,hbs⟩:=hx
       obtain⟨vs,l1,l2⟩:=Lies.of_blk h hb hm off (m*s) hl
       obtain⟨B',g1,g2,g3,⟨cs,el,g4,g5,g6,g7⟩,g8⟩:=h.blk b _ hb
       have hat:((c.drop off).take (m*s)).all AV.atom=true:=by
        rw [List.all_eq_true] at g5 ⊢
        exact fun x hx=>g5 x (List.mem_of_mem_drop (List.mem_of_mem_take hx))
       have hlen:((c.drop off).take (m*s)).length=m*s:=by simp;omega
       exact⟨vs,l1,hat,run_firstCells_some w s m _ _ _ vs (by have:=l1.length;omega) (fun j v e=>by rw [addr_add];exact l2 j v e),hlen⟩
     · cases hf
   · cases hf
 · cases hf
theorem lenS_run {x:AV} {x':Value} (hx:VRel K x x') {n:Nat} (hf:lenS x=some n):∃ b cap,x'=.slice b n cap:=by
 unfold lenS at hf
 split at hf
 · rename_i sz rows tok
   cases hf
   simp only [VRel] at hx
   rcases hx with ⟨⟨a0,rfl,_⟩,rfl,_⟩|⟨B,off,cap,rfl,_⟩
   · exact⟨_,_,rfl⟩
   · exact⟨_,_,rfl⟩
 · cases hf
   simp only [VRel] at hx
   obtain⟨B,cap,hm,rfl,_⟩:=hx
   exact⟨_,_,rfl⟩
 · cases hf
theorem copy_sound (h:WRel G w0 ro0 K σ w) {t u:Nat} {d s v:AV} {d' s':Value} (hd:VRel K d d') (hs:VRel K s s') (ty:Nat) {σ':St} (hf:copyA (Dof P) σ t d s=some (v,σ')) :
 Ran P G w0 ro0 K w (Builtin.copy_ #[t,u] ty #[d',s']) v σ':=by
 unfold copyA at hf
 split at hf
 case h_2=>cases hf
 rename_i i dl n hD hdl hn
 obtain⟨inf,dd,z,hi,hu,_,rfl⟩:=Dof_spec hD
 simp only at hf
 split at hf
 case h_2=>cases hf
 rename_i e hde
 have:=td_sl hde;subst this
 split at hf
 case h_2=>cases hf
 rename_i j hj
 obtain⟨inf2,d2,z2,hi2,hu2,hz2,rfl⟩:=Dof_spec hj
 obtain⟨db,dcap,rfl⟩:=lenS_run hd hdl
 obtain⟨sb,scap,rfl⟩:=lenS_run hs hn
 split at hf
 · rename_i h0
   simp only [Option.some.injEq,Prod.mk.injEq] at hf
   obtain⟨rfl,rfl⟩:=hf
   refine Ran.same h (v':=.int .i64 0) ?_ (by simp [VRel])
   have h0':Nat.min n dl=0:=h0
   have hf0:(Builtin.firstCells inf2.size 0 (.slice sb n scap)).run P w=.ok #[] w:=by
    cases sb<;>simp [Builtin.firstCells,loadCells,loadCellsFrom]
   cases db<;>simp [Builtin.copy_,run_underlying hu,sizeOf,typeInfo,hi2,Builtin.lenOf,h0',hf0,storeCells,goInt]
 · rename_i h0
   split at hf
   case h_2=>cases hf
   rename_i b off len sz
   simp only [lenS,Option.some.injEq] at hdl
   subst hdl
   simp only at hf
   split at hf
   case isFalse=>cases hf
   rename_i hsz
   subst hsz
   split at hf
   case h_2=>cases hf
   rename_i src c hsrc hb
   split at hf
   case isFalse=>cases hf
   rename_i hroom
   simp only [Option.some.injEq,Prod.mk.injEq] at hf
   obtain⟨rfl,rfl⟩:=hf
   obtain⟨news,n1,n2,n3,n4⟩:=pre_sound (P:=P) h hs hsrc h0
   simp only [VRel] at hd
   obtain⟨B,cap,hm,hdv,hcap,hpos,hbs⟩:=hd
   cases hdv
   obtain⟨B',g1,g2,g3,⟨cs,el,g4,g5,g6,g7⟩,g8⟩:=h.blk b _ hb
   rw [hm] at g1;cases g1
   have hbl:b<σ.H.length:=(List.getElem?_eq_some_iff.1 hb).1
   have hcs:cs.size=K.bs b:=h.bsz b B cs el _ hm g4
   have hnl:news.length=min n len*inf2.size:=by have:=n1.length;omega
   have hone:∀ u∈news,u.oneCell'=true:=n1.oneCells n2
   have hst:=run_storeCells_at P B off el news 0 cs w g4 (by simp only [Nat.add_zero];rw [hnl];omega) hone
   simp only [Nat.add_zero] at hst
   have hmin:Nat.min n len=min n len:=rfl
   refine⟨.int .i64 (min n len:Nat),w.setRow B (cs.toList.take off++news++cs.toList.drop (off+news.length)).toArray,K,?_,Kn.le_refl K,
    h.setBlk (B:=B) (b':=.cells (putAt c off src)) (w':=w.setRow B (cs.toList.take off++news++cs.toList.drop (off+news.length)).toArray) hbl hm rfl rfl rfl (by simp [World.setRow]) (fun k hk=>setRow_other w B k _ hk) ?_ (by rw [hb];simp)
     (fun cs2 el2 fr2 e2=>by
       rw [setRow_heap w B cs _ el _ g4] at e2
       cases e2
       rw [← hcs]
       simp [hnl];omega) (fun _ _ _ _=>⟨cs,el,_,g4⟩),by simp [VRel]⟩
   · simp [Builtin.copy_,run_underlying hu,sizeOf,typeInfo,hi2,Builtin.lenOf,hmin,n3,hst,goInt]
   · refine⟨_,el,setRow_heap w B cs _ el _ g4,putAt_all _ _ _ g5 n2,by simp [putAt_length,hnl];omega,fun i a ea=>?_⟩
     rw [putAt_get _ _ _ _ (by rw [n4];omega)] at ea
     simp only [List.getElem?_toArray]
     split at ea
     · rename_i hin
       obtain⟨v,e1,e2⟩:=n1.get _ _ ea
       refine⟨v,?_,e2⟩
       rw [List.append_assoc,List.getElem?_append_right (by simp;omega),List.getElem?_append_left (by rw [hnl];simp;omega)]
       simp only [List.length_take,Array.length_toList]
       rw [show min off cs.size=off by omega]
       exact e1
     · rename_i hin
       obtain⟨v,e1,e2⟩:=g7 i a ea
       refine⟨v,?_,e2⟩
       by_cases hlo:i<off
       · rw [List.append_assoc,List.getElem?_append_left (by simp;omega),List.getElem?_take,if_pos hlo]
         simpa using e1
       · rw [List.append_assoc,List.getElem?_append_right (by simp;omega),List.getElem?_append_right (by rw [hnl];simp;omega),List.getElem?_drop]
         simp only [List.length_take,Array.length_toList]
         rw [n4] at hin
         rw [hnl,show off+min n len*inf2.size+(i-min off cs.size-min n len*inf2.size)=i by omega]
         simpa using e1
/-- Soundness of the operations beyond the first ones. -/
theorem mkX_sound (hw:WRel G w0 ro0 K σ w) {t:Nat} {l c:AV} {l' c':Value} (hl:VRel K l l') (hc:VRel K c c') {mu:Bool} {L:List (AV×St)} (hf:mkX (Dof P) mu σ t l c=some L) :
 ∃ v σ',(v,σ')∈L∧Ran P G w0 ro0 K w (Instr.makeSlice t l' c') v σ':=by
 unfold mkX at hf
 split at hf
 case h_2=>cases hf
 rename_i k1 k2
 split at hf
 case h_2=>cases hf
 rename_i sz tok σ' hms
 cases hf
 refine⟨_,_,List.mem_singleton.2 rfl,?_⟩
 obtain⟨v',w',K',r1,r2,r3,r4⟩:=makeSlice_sound (P:=P) hw hl hc hms
 simp only [VRel] at hl hc
 subst hl hc
 have hv:(∃ b,v'=.slice b 0 0∧b.isSome=true)∧¬ tok.plain:=by
  unfold makeSliceA at hms
  split at hms
  case h_2=>cases hms
  rename_i i ln cn hD hln hcn
  obtain⟨inf,d,z,hi,hu,_,rfl⟩:=Dof_spec hD
  cases hln;cases hcn
  simp only at hms
  split at hms
  case h_2=>cases hms
  rename_i e hd
  have hd':=td_sl hd
  subst hd'
  split at hms
  case h_2=>cases hms
  rename_i j hj
  obtain⟨inf2,d2,z2,hi2,hu2,hz2,rfl⟩:=Dof_spec hj
  simp only [Instr.makeSlice,Sem.run_bind,run_underlying hu,Result.andThen_ok] at r1
  have hwz:IntKind.i64.wrap 0=0:=by decide
  simp [asInt,asIntOf,typeInfo,hi2,hwz,askRoom,sizeOf,zeroValue,hz2,newRow,roomBytes] at r1
  refine⟨⟨_,r1.1.symm,rfl⟩,?_⟩
  split at hms
  · simp at hms
    rw [← hms.1.2]
    simp [Tok.plain]
  · cases hms
 obtain⟨⟨b,rfl,hb⟩,htk⟩:=hv
 refine⟨_,_,_,r1,r2,r3,?_⟩
 obtain⟨a,rfl⟩:=Option.isSome_iff_exists.1 hb
 simp only [VRel] at r4 ⊢
 rcases r4 with ⟨⟨a0,h1,ha0⟩,h2,h3⟩|⟨B,off,cap,h1,h2,h3,h4⟩
 · exact absurd h3 htk
 · simp at h1
   exact .inr ⟨B,off,0,by simp [h1],by simp,h3,by simp [TokOk]⟩
theorem semX_sound (hw:WRel G w0 ro0 K σ w) (he:ERel K N env a) {mu:Bool} (o:Oper) {l:List (AV×St)} (h:semX (Dof P) G mu env σ o.op=some l) :
 ∃ v σ',(v,σ')∈l∧Did P G w0 ro0 K w (execOp a.eval o) v σ':=by
 have ex:=ev_rel hw he
 obtain⟨dst,op,type,pos,after,guard⟩:=o
 simp only at h
 cases op<;>simp only [semX] at h<;>try (cases h;done)
 case insert t m k v=>
  obtain⟨σ',hu,rfl⟩:=Option.map_eq_some_iff.1 h
  exact⟨_,_,List.mem_singleton.2 rfl,Did.of_unit (mapUpdate_sound hw (ex m) (ex k) (ex v) hu)⟩
 case makeSlice t x y=>
  obtain⟨v,σ',h1,h2⟩:=mkX_sound (P:=P) hw (ex x) (ex y) h
  exact⟨v,σ',h1,Did.of_ran h2⟩
 case binOp o t x y u=>
  cases o<;>simp only at h<;>try (cases h;done)
  · obtain⟨v,σ',h1,rfl,h2⟩:=nilCmp_sound (P:=P) hw (ex x) (ex y) h x y
    exact⟨v,σ',h1,Did.of_same hw h2⟩
  · obtain⟨v,σ',h1,rfl,h2⟩:=nilCmp_sound (P:=P) hw (ex x) (ex y) h x y
    exact⟨v,σ',h1,Did.of_same hw h2⟩
 case next it b=>
  cases b<;>simp only at h
  · obtain⟨v,σ',h1,h2⟩:=nexts_sound (P:=P) (t:=type) hw (ex it) h
    exact⟨v,σ',h1,Did.of_ran h2⟩
  · cases h
 case entry it=>
  obtain⟨v,hu,rfl⟩:=Option.map_eq_some_iff.1 h
  exact⟨_,_,List.mem_singleton.2 rfl,Did.of_same hw (entry_sound hw (ex it) hu)⟩
 case call c=>
  obtain⟨callee,args,ts⟩:=c
  cases callee<;>simp only at h<;>try (cases h;done)
  rename_i b
  split at h
  · rename_i t u s x hts hargs
    cases mu
    · cases h
    · simp only at h
      obtain⟨p,hp,rfl⟩:=Option.map_eq_some_iff.1 h
      obtain⟨v,σ'⟩:=p
      obtain⟨v',w',K',r1,r2,r3,r4⟩:=appendX_sound hw (ex s) (ex x) type hp
      have eargs:args.map a.eval = #[a.eval s,a.eval x]:=by apply Array.ext';simp [hargs]
      have ets:ts = #[t,u]:=by apply Array.ext';simpa using hts
      exact⟨v,σ',List.mem_singleton.2 rfl,v',w',K',.inl (by simp [execOp,resolve,invoke,builtin,eargs,ets,r1]),r2,r3,r4⟩
  · rename_i t x hts hargs
    obtain⟨σ',hp,rfl⟩:=Option.map_eq_some_iff.1 h
    obtain⟨v',w',K',r1,r2,r3,r4⟩:=clear_sound hw (ex x) type hp
    have eargs:args.map a.eval = #[a.eval x]:=by apply Array.ext';simp [hargs]
    have ets:ts = #[t]:=by apply Array.ext';simpa using hts
    exact⟨_,σ',List.mem_singleton.2 rfl,v',w',K',.inl (by simp [execOp,resolve,invoke,builtin,eargs,ets,r1]),r2,r3,r4⟩
  · rename_i t x hts hargs
    obtain⟨v,hp,rfl⟩:=Option.map_eq_some_iff.1 h
    obtain⟨v',r1,r2⟩:=cap_sound hw (ex x) type hp
    have eargs:args.map a.eval = #[a.eval x]:=by apply Array.ext';simp [hargs]
    have ets:ts = #[t]:=by apply Array.ext';simpa using hts
    exact⟨v,σ,List.mem_singleton.2 rfl,v',w,K,.inl (by simp [execOp,resolve,invoke,builtin,eargs,ets,r1]),Kn.le_refl K,hw,r2⟩
  · rename_i t u d s hts hargs
    obtain⟨p,hp,rfl⟩:=Option.map_eq_some_iff.1 h
    obtain⟨v,σ'⟩:=p
    obtain⟨v',w',K',r1,r2,r3,r4⟩:=copy_sound (u:=u) hw (ex d) (ex s) type hp
    have eargs:args.map a.eval = #[a.eval d,a.eval s]:=by apply Array.ext';simp [hargs]
    have ets:ts = #[t,u]:=by apply Array.ext';simpa using hts
    exact⟨v,σ',List.mem_singleton.2 rfl,v',w',K',.inl (by simp [execOp,resolve,invoke,builtin,eargs,ets,r1]),r2,r3,r4⟩
  · cases h
end
end
end Go.Abs
end
