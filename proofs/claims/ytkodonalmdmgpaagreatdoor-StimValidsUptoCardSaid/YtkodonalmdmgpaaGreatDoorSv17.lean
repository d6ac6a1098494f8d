import Derived.Test.YtkodonalmdmgpaaGreatDoorSv16
import Derived.Test.YtkodonalmdmgpaaGreatDoorSv12
set_option linter.all false
set_option linter.defProp false
section
namespace Go.Abs
open Go Go.RowKit
section
/-- What follows a piece of code. -/
inductive Fr where
 | seq (y:Code)
 | block (id:Nat)
 | loop (n:Env→St→Prop)
 | scope
/-- What follows an operation of a region. -/
inductive Ct where
 | run (d lw:Bool) (rest:List Oper)
 | plan (ac:List Nat) (s:Sch)
section
variable (P:Program) (G:Glo) (o:Opts)
def itp:List Fr→(Exit→Env→St→Prop)→Exit→Env→St→Prop
 | [],Q=>Q
 | .seq y::ks,Q=>aThen (fun env σ=>vcC P G o y env σ (itp ks Q)) (itp ks Q)
 | .block id::ks,Q=>aBlock id (itp ks Q)
 | .loop n::ks,Q=>aThen n (itp ks Q)
 | .scope::ks,Q=>aScope (itp ks Q)
def kC (c:Code) (env:Env) (σ:St) (ks:List Fr) (Q:Exit→Env→St→Prop):Prop:=vcC P G o c env σ (itp P G o ks Q)
def kX (e:Exit) (env:Env) (σ:St) (ks:List Fr) (Q:Exit→Env→St→Prop):Prop:=itp P G o ks Q e env σ
def kT (ops:Array Oper) (ct:Ct) (env:Env) (σ:St) (ks:List Fr) (Q:Exit→Env→St→Prop):Prop:=match ct with
 | .run d lw rest=>vcR P G o.mu ops d lw rest env σ (fun env σ=>itp P G o ks Q .normal env σ)
 | .plan ac s=>vcS P G o.mu ac ops s env σ (fun env σ=>itp P G o ks Q .normal env σ)
def kO (ops:Array Oper) (d:Bool) (op:Op) (dst:Option Nat) (ct:Ct) (env:Env) (σ:St) (ks:List Fr) (Q:Exit→Env→St→Prop):Prop :=
 vcOp P G o.mu d op env σ (fun v σ'=>kT P G o ops ct (upd env dst v) σ' ks Q)
def kS (ops:Array Oper) (x:Option (AV×St)) (dst:Option Nat) (ct:Ct) (env:Env) (ks:List Fr) (Q:Exit→Env→St→Prop):Prop :=
 vcSem x (fun v σ'=>kT P G o ops ct (upd env dst v) σ' ks Q)
def kY (ops:Array Oper) (l:Option (List (AV×St))) (x:Option (AV×St)) (dst:Option Nat) (ct:Ct) (env:Env) (ks:List Fr) (Q:Exit→Env→St→Prop):Prop :=
 vcX l x (fun v σ'=>kT P G o ops ct (upd env dst v) σ' ks Q)
def kFn (ops:Array Oper) (d:Bool) (f:AV) (args:List AV) (σ:St) (dst:Option Nat) (ct:Ct) (env:Env) (ks:List Fr) (Q:Exit→Env→St→Prop):Prop :=
 vcFn P G d f args σ (fun v σ'=>kT P G o ops ct (upd env dst v) σ' ks Q)
def kCall (ops:Array Oper) (d:Bool) (g:FuncId) (args:List AV) (σ:St) (dst:Option Nat) (ct:Ct) (env:Env) (ks:List Fr) (Q:Exit→Env→St→Prop):Prop :=
 vcCall P G d g args σ (fun v σ'=>kT P G o ops ct (upd env dst v) σ' ks Q)
def kCd (v:AV) (x y:Code) (env:Env) (σ:St) (ks:List Fr) (Q:Exit→Env→St→Prop):Prop:=match v with
 | .bool b=>(b=true→kC P G o x env σ ks Q)∧(b=false→kC P G o y env σ ks Q)
 | _=>False
def kGv (ops:Array Oper) (d:Bool) (t:Nat) (v:AV) (b:Bool) (op:Op) (dst:Option Nat) (ct:Ct) (env:Env) (σ:St) (ks:List Fr) (Q:Exit→Env→St→Prop):Prop:=match v with
 | .bool c=>((c==b)=true→kO P G o ops d op dst ct (upd env (some t) (.bool b)) σ ks Q)∧((c==b)=false→kT P G o ops ct (upd (upd env (some t) (.bool (!b))) dst (.tup [])) σ ks Q)
 | .tup []=>kT P G o ops ct (upd env dst (.tup [])) σ ks Q
 | _=>False
def kG (ops:Array Oper) (d:Bool) (x:Option Nat) (b:Bool) (op:Op) (dst:Option Nat) (ct:Ct) (env:Env) (σ:St) (ks:List Fr) (Q:Exit→Env→St→Prop):Prop:=match x with
 | some t=>kGv P G o ops d t (env t) b op dst ct env σ ks Q
 | none=>kT P G o ops ct (upd env dst (.tup [])) σ ks Q
def kLoop (c:Code) (env:Env) (σ:St) (ks:List Fr) (Q:Exit→Env→St→Prop):Prop:=vcLoop P G o c env σ (itp P G o ks Q)
def kP (ops:Array Oper) (x:Option Oper) (d:Bool) (ct:Ct) (env:Env) (σ:St) (ks:List Fr) (Q:Exit→Env→St→Prop):Prop:=match x with
 | some u=>vcG P G o.mu d ops u env σ (fun env v σ'=>kT P G o ops ct (upd env u.dst v) σ' ks Q)
 | none=>False
end
section
variable {P:Program} {G:Glo} {o:Opts} {env:Env} {σ:St} {ks:List Fr} {Q:Exit→Env→St→Prop}
@[simp ↓] theorem kC_skip:kC P G o .skip env σ ks Q=kX P G o .normal env σ ks Q:=by simp only [kC,kX,vcC]
@[simp ↓] theorem kC_ret:kC P G o .ret env σ ks Q=kX P G o .ret env σ ks Q:=by simp only [kC,kX,vcC]
@[simp ↓] theorem kC_exit {id:Nat}:kC P G o (.exit id) env σ ks Q=kX P G o (.exit id) env σ ks Q:=by simp only [kC,kX,vcC]
@[simp ↓] theorem kC_seq {x y:Code}:kC P G o (.seq x y) env σ ks Q=kC P G o x env σ (.seq y::ks) Q:=by simp only [kC,vcC,itp]
@[simp ↓] theorem kC_block {id:Nat} {x:Code}:kC P G o (.block id x) env σ ks Q=kC P G o x env σ (.block id::ks) Q:=by simp only [kC,vcC,itp]
@[simp ↓] theorem kC_scope {x:Code}:kC P G o (.scope x) env σ ks Q=kC P G o x env σ (.scope::ks) Q:=by simp only [kC,vcC,itp]
@[simp ↓] theorem kC_label {l:Nat}:kC P G o (.label l) env σ ks Q=kX P G o .normal env σ ks Q:=by simp only [kC,kX,vcC]
@[simp ↓] theorem kX_scope:kX P G o .normal env σ (.scope::ks) Q=kX P G o .normal env σ ks Q:=notRfl rfl
@[simp ↓] theorem kX_scope_ret:kX P G o .ret env σ (.scope::ks) Q=kX P G o .ret env σ ks Q:=notRfl rfl
@[simp ↓] theorem kX_scope_exit {i:Nat}:kX P G o (.exit i) env σ (.scope::ks) Q=kX P G o (.exit i) env σ ks Q:=notRfl rfl
@[simp ↓] theorem kC_cond {c:Operand} {x y:Code}:kC P G o (.cond c x y) env σ ks Q=kCd P G o (ev G env c) x y env σ ks Q:=by
 simp only [kC,vcC,kCd,vcIf]
 split<;>simp_all []
@[simp ↓] theorem kC_loop {x:Code}:kC P G o (.loop x) env σ ks Q=kLoop P G o x env σ ks Q:=by simp only [kC,kLoop,vcC]<;>rfl
@[simp ↓] theorem kC_region {id:Nat} {l:List Oper}:kC P G o (.region id l.toArray false) env σ ks Q=kT P G o l.toArray (.run false (o.lw.contains id) l) env σ ks Q:=by simp only [kC,kT,vcC]
@[simp ↓ high] theorem kC_region0 {id:Nat} {l:List Oper}:kC P G o0 (.region id l.toArray false) env σ ks Q=kT P G o0 l.toArray (.run false false l) env σ ks Q:=by simp only [kC,kT,vcC];rfl
@[simp ↓ high] theorem kC_regionL {m:Bool} {x:List (Nat×Sch×List Nat)} {y:List (Nat×Nat)} {id:Nat} {l:List Oper}:kC P G ⟨m,x,[],y⟩ (.region id l.toArray false) env σ ks Q=kT P G ⟨m,x,[],y⟩ l.toArray (.run false false l) env σ ks Q:=by simp only [kC,kT,vcC];rfl
@[simp ↓ high] theorem kC_drawL {m:Bool} {y:List (Nat×Nat)} {id:Nat} {l:List Oper}:kC P G ⟨m,[],[],y⟩ (.region id l.toArray true) env σ ks Q=kT P G ⟨m,[],[],y⟩ l.toArray (.run true false l) env σ ks Q:=by simp [kC,kT,vcC]
@[simp ↓] theorem kC_draw0 {id:Nat} {l:List Oper}:kC P G o0 (.region id l.toArray true) env σ ks Q=kT P G o0 l.toArray (.run true false l) env σ ks Q:=by simp [kC,kT,vcC,o0]
theorem kC_draw {id:Nat} {l:List Oper} (h:o.fk.lookup id=none):kC P G o (.region id l.toArray true) env σ ks Q=kT P G o l.toArray (.run true (o.lw.contains id) l) env σ ks Q:=by simp only [kC,kT,vcC,h]
theorem kC_plan {id:Nat} {l:List Oper} {s:Sch} {ac:List Nat} (h:o.fk.lookup id=some (s,ac)):kC P G o (.region id l.toArray true) env σ ks Q=kT P G o l.toArray (.plan ac s) env σ ks Q:=by simp only [kC,kT,vcC,h]
@[simp] theorem kCd_true {x y:Code}:kCd P G o (.bool true) x y env σ ks Q=kC P G o x env σ ks Q:=by simp [kCd]
@[simp] theorem kCd_false {x y:Code}:kCd P G o (.bool false) x y env σ ks Q=kC P G o y env σ ks Q:=by simp [kCd]
@[simp low] theorem kCd_bool {b:Bool} {x y:Code}:kCd P G o (.bool b) x y env σ ks Q=((b=true→kC P G o x env σ ks Q)∧(b=false→kC P G o y env σ ks Q)):=notRfl rfl
@[simp ↓] theorem kX_nil {e:Exit}:kX P G o e env σ [] Q=Q e env σ:=notRfl rfl
@[simp ↓] theorem kX_seq {y:Code}:kX P G o .normal env σ (.seq y::ks) Q=kC P G o y env σ ks Q:=notRfl rfl
@[simp ↓] theorem kX_seq_ret {y:Code}:kX P G o .ret env σ (.seq y::ks) Q=kX P G o .ret env σ ks Q:=notRfl rfl
@[simp ↓] theorem kX_seq_exit {y:Code} {i:Nat}:kX P G o (.exit i) env σ (.seq y::ks) Q=kX P G o (.exit i) env σ ks Q:=notRfl rfl
@[simp ↓] theorem kX_block {id:Nat}:kX P G o .normal env σ (.block id::ks) Q=kX P G o .normal env σ ks Q:=notRfl rfl
@[simp ↓] theorem kX_block_ret {id:Nat}:kX P G o .ret env σ (.block id::ks) Q=kX P G o .ret env σ ks Q:=notRfl rfl
@[simp ↓] theorem kX_block_exit {id i:Nat}:kX P G o (.exit i) env σ (.block id::ks) Q=if i=id then kX P G o .normal env σ ks Q else kX P G o (.exit i) env σ ks Q:=by
 simp only [kX,itp,aBlock]
@[simp ↓] theorem kX_loop {n:Env→St→Prop}:kX P G o .normal env σ (.loop n::ks) Q=n env σ:=notRfl rfl
@[simp ↓] theorem kX_loop_ret {n:Env→St→Prop}:kX P G o .ret env σ (.loop n::ks) Q=kX P G o .ret env σ ks Q:=notRfl rfl
@[simp ↓] theorem kX_loop_exit {n:Env→St→Prop} {i:Nat}:kX P G o (.exit i) env σ (.loop n::ks) Q=kX P G o (.exit i) env σ ks Q:=notRfl rfl
end
section
variable {P:Program} {G:Glo} {o:Opts} {ops:Array Oper} {d lw:Bool} {env:Env} {σ:St} {ks:List Fr} {Q:Exit→Env→St→Prop} {dst:Option Nat} {op:Op} {ct:Ct}
@[simp ↓] theorem kT_nil:kT P G o ops (.run d lw []) env σ ks Q=kX P G o .normal env σ ks Q:=notRfl rfl
@[simp ↓] theorem kT_run {type:TypeId} {pos:String} {after:Array Edge} {rest:List Oper} :
 kT P G o ops (.run d false ({ dst:=dst,op:=op,type:=type,pos:=pos,after:=after,guard:=none }::rest)) env σ ks Q=kO P G o ops d op dst (.run d false rest) env σ ks Q:=by
 simp only [kT,kO];rw [vcR_run]
theorem kT_run_lw {type:TypeId} {pos:String} {after:Array Edge} {rest:List Oper} :
 kT P G o ops (.run d lw ({ dst:=dst,op:=op,type:=type,pos:=pos,after:=after,guard:=none }::rest)) env σ ks Q=kO P G o ops (d&&!(lw&&isNil rest&&isCallV op)) op dst (.run d lw rest) env σ ks Q:=by
 simp only [kT,kO];rw [vcR_run_lw]
@[simp ↓] theorem kT_guard {type:TypeId} {pos:String} {after:Array Edge} {rest:List Oper} {j:Nat} {b:Bool} :
 kT P G o ops (.run d false ({ dst:=dst,op:=op,type:=type,pos:=pos,after:=after,guard:=some (j,b) }::rest)) env σ ks Q=kG P G o ops d ((ops[j]?).bind (·.dst)) b op dst (.run d false rest) env σ ks Q:=by
 simp only [kT]
 rw [vcR_guard]
 unfold vcGuard kG
 generalize (ops[j]?).bind (·.dst)=x
 cases x with
 | none=>rfl
 | some t=>
  simp only [kGv]
  generalize env t=v
  cases v with
  | tup vs=>cases vs<;>rfl
  | _=>rfl
@[simp ↓] theorem kT_done {ac:List Nat}:kT P G o ops (.plan ac .done) env σ ks Q=kX P G o .normal env σ ks Q:=by simp only [kT,vcS,kX]
@[simp ↓] theorem kT_step {ac dp:List Nat} {k:Nat} {s:Sch}:kT P G o ops (.plan ac (.step k dp s)) env σ ks Q=kP P G o ops (ops[k]?) (match ops[k]? with | some u=>clsB o.mu ac k u.op != 9 | none=>false) (.plan ac s) env σ ks Q:=by
 simp only [kT,vcS,kP]
 split<;>rename_i h<;>simp [h]
@[simp] theorem kP_run {type:TypeId} {pos:String} {after:Array Edge}:kP P G o ops (some { dst:=dst,op:=op,type:=type,pos:=pos,after:=after,guard:=none }) d ct env σ ks Q=kO P G o ops d op dst ct env σ ks Q:=by
 simp only [kP,vcG,kO]
@[simp] theorem kP_guard {type:TypeId} {pos:String} {after:Array Edge} {j:Nat} {b:Bool}:kP P G o ops (some { dst:=dst,op:=op,type:=type,pos:=pos,after:=after,guard:=some (j,b) }) d ct env σ ks Q=kG P G o ops d ((ops[j]?).bind (·.dst)) b op dst ct env σ ks Q:=by
 simp only [kP,vcG]
 unfold kG
 generalize (ops[j]?).bind (·.dst)=x
 cases x with
 | none=>rfl
 | some t=>
  simp only [kGv]
  generalize env t=v
  cases v with
  | tup vs=>cases vs<;>rfl
  | _=>rfl
@[simp] theorem kG_some {t:Nat} {b:Bool}:kG P G o ops d (some t) b op dst ct env σ ks Q=kGv P G o ops d t (env t) b op dst ct env σ ks Q:=notRfl rfl
@[simp] theorem kG_none {b:Bool}:kG P G o ops d none b op dst ct env σ ks Q=kT P G o ops ct (upd env dst (.tup [])) σ ks Q:=notRfl rfl
@[simp] theorem kGv_off {t:Nat} {b:Bool}:kGv P G o ops d t (.tup []) b op dst ct env σ ks Q=kT P G o ops ct (upd env dst (.tup [])) σ ks Q:=notRfl rfl
@[simp] theorem kGv_tt {t:Nat}:kGv P G o ops d t (.bool true) true op dst ct env σ ks Q=kO P G o ops d op dst ct (upd env (some t) (.bool true)) σ ks Q:=by simp [kGv]
@[simp] theorem kGv_ff {t:Nat}:kGv P G o ops d t (.bool false) false op dst ct env σ ks Q=kO P G o ops d op dst ct (upd env (some t) (.bool false)) σ ks Q:=by simp [kGv]
@[simp] theorem kGv_tf {t:Nat}:kGv P G o ops d t (.bool true) false op dst ct env σ ks Q=kT P G o ops ct (upd (upd env (some t) (.bool true)) dst (.tup [])) σ ks Q:=by simp [kGv]
@[simp] theorem kGv_ft {t:Nat}:kGv P G o ops d t (.bool false) true op dst ct env σ ks Q=kT P G o ops ct (upd (upd env (some t) (.bool false)) dst (.tup [])) σ ks Q:=by simp [kGv]
@[simp low] theorem kGv_true {t:Nat} {c:Bool}:kGv P G o ops d t (.bool c) true op dst ct env σ ks Q=((c=true→kO P G o ops d op dst ct (upd env (some t) (.bool true)) σ ks Q)∧(c=false→kT P G o ops ct (upd (upd env (some t) (.bool false)) dst (.tup [])) σ ks Q)):=by simp [kGv]
@[simp low] theorem kGv_false {t:Nat} {c:Bool}:kGv P G o ops d t (.bool c) false op dst ct env σ ks Q=((c=false→kO P G o ops d op dst ct (upd env (some t) (.bool false)) σ ks Q)∧(c=true→kT P G o ops ct (upd (upd env (some t) (.bool true)) dst (.tup [])) σ ks Q)):=by simp [kGv]
@[simp] theorem kS_some {v:AV} {σ:St}:kS P G o ops (some (v,σ)) dst ct env ks Q=kT P G o ops ct (upd env dst v) σ ks Q:=notRfl rfl
@[simp] theorem kS_none:kS P G o ops none dst ct env ks Q=False:=notRfl rfl
@[simp] theorem kY_none {x:Option (AV×St)}:kY P G o ops none x dst ct env ks Q=kS P G o ops x dst ct env ks Q:=by simp only [kY,kS];rw [vcX_none]
@[simp] theorem kY_nil {x:Option (AV×St)}:kY P G o ops (some []) x dst ct env ks Q=True:=by simp only [kY];rw [vcX_nil]
@[simp] theorem kY_one {v:AV} {τ:St} {x:Option (AV×St)}:kY P G o ops (some [(v,τ)]) x dst ct env ks Q=kT P G o ops ct (upd env dst v) τ ks Q:=by simp only [kY];rw [vcX_one]
@[simp] theorem kY_two {v v':AV} {τ τ':St} {x:Option (AV×St)}:kY P G o ops (some [(v,τ),(v',τ')]) x dst ct env ks Q=(kT P G o ops ct (upd env dst v) τ ks Q∧kT P G o ops ct (upd env dst v') τ' ks Q):=by simp only [kY];rw [vcX_two]
@[simp] theorem kFn_fn {g:FuncId} {first args cap:List AV}:kFn P G o ops d (.fn g first cap) args σ dst ct env ks Q=kCall P G o ops d g (callArgs first args cap) σ dst ct env ks Q:=notRfl rfl
@[simp ↓] theorem kO_call {f:Operand} {a:Array Operand} {t:Array TypeId}:kO P G o ops d (.call { callee:=.value f,args:=a,argTypes:=t }) dst ct env σ ks Q=kFn P G o ops d (ev G env f) (opds G env a.toList) σ dst ct env ks Q:=notRfl rfl
@[simp ↓] theorem kO_move {x:Operand}:kO P G o ops d (.move x) dst ct env σ ks Q=kS P G o ops (sem (Dof P) G env σ (.move x)) dst ct env ks Q:=by simp only [kO,kS];rw [vcOp_move]
@[simp ↓] theorem kO_assign {x:Operand}:kO P G o ops d (.assign x) dst ct env σ ks Q=kS P G o ops (sem (Dof P) G env σ (.assign x)) dst ct env ks Q:=by simp only [kO,kS];rw [vcOp_assign]
@[simp ↓] theorem kO_pick {a b c:Operand}:kO P G o ops d (.pick a b c) dst ct env σ ks Q=kS P G o ops (sem (Dof P) G env σ (.pick a b c)) dst ct env ks Q:=by simp only [kO,kS];rw [vcOp_pick]
@[simp ↓] theorem kO_alloc {t:TypeId}:kO P G o ops d (.alloc t) dst ct env σ ks Q=kS P G o ops (sem (Dof P) G env σ (.alloc t)) dst ct env ks Q:=by simp only [kO,kS];rw [vcOp_alloc]
@[simp ↓] theorem kO_box {t:TypeId} {x:Operand}:kO P G o ops d (.box t x) dst ct env σ ks Q=kS P G o ops (sem (Dof P) G env σ (.box t x)) dst ct env ks Q:=by simp only [kO,kS];rw [vcOp_box]
@[simp ↓] theorem kO_build {t:TypeId} {p:Array (Nat×Operand)}:kO P G o ops d (.build t p) dst ct env σ ks Q=kS P G o ops (sem (Dof P) G env σ (.build t p)) dst ct env ks Q:=by simp only [kO,kS];rw [vcOp_build]
@[simp ↓] theorem kO_buildSlice {t:TypeId} {n:Nat} {p:Array (Nat×Operand)}:kO P G o ops d (.buildSlice t n p) dst ct env σ ks Q=kS P G o ops (sem (Dof P) G env σ (.buildSlice t n p)) dst ct env ks Q:=by simp only [kO,kS];rw [vcOp_buildSlice]
@[simp ↓] theorem kO_load {t:TypeId} {x:Operand}:kO P G o ops d (.load t x) dst ct env σ ks Q=kS P G o ops (sem (Dof P) G env σ (.load t x)) dst ct env ks Q:=by simp only [kO,kS];rw [vcOp_load]
@[simp ↓] theorem kO_store {t:TypeId} {x y:Operand}:kO P G o ops d (.store t x y) dst ct env σ ks Q=kS P G o ops (sem (Dof P) G env σ (.store t x y)) dst ct env ks Q:=by simp only [kO,kS];rw [vcOp_store]
@[simp ↓] theorem kO_nilCheck {x:Operand}:kO P G o ops d (.nilCheck x) dst ct env σ ks Q=kS P G o ops (sem (Dof P) G env σ (.nilCheck x)) dst ct env ks Q:=by simp only [kO,kS];rw [vcOp_nilCheck]
@[simp ↓] theorem kO_binOp {b:BinOp} {t u:TypeId} {x y:Operand} (h:b≠.eql) (h':b≠.neq):kO P G o ops d (.binOp b t x y u) dst ct env σ ks Q=kS P G o ops (sem (Dof P) G env σ (.binOp b t x y u)) dst ct env ks Q:=by simp only [kO,kS];rw [vcOp_binOp h h']
@[simp ↓] theorem kO_eql {t u:TypeId} {x y:Operand}:kO P G o ops d (.binOp .eql t x y u) dst ct env σ ks Q=kY P G o ops (nilOr d false (Dof P) t (ev G env x) (ev G env y) σ) (sem (Dof P) G env σ (.binOp .eql t x y u)) dst ct env ks Q:=by simp only [kO,kY];rw [vcOp_eql]
@[simp ↓] theorem kO_neq {t u:TypeId} {x y:Operand}:kO P G o ops d (.binOp .neq t x y u) dst ct env σ ks Q=kY P G o ops (nilOr d true (Dof P) t (ev G env x) (ev G env y) σ) (sem (Dof P) G env σ (.binOp .neq t x y u)) dst ct env ks Q:=by simp only [kO,kY];rw [vcOp_neq]
@[simp ↓] theorem kO_unOp {u:UnOp} {t:TypeId} {x:Operand}:kO P G o ops d (.unOp u t x) dst ct env σ ks Q=kS P G o ops (sem (Dof P) G env σ (.unOp u t x)) dst ct env ks Q:=by simp only [kO,kS];rw [vcOp_unOp]
@[simp ↓] theorem kO_convert {t u:TypeId} {x:Operand}:kO P G o ops d (.convert t u x) dst ct env σ ks Q=kS P G o ops (sem (Dof P) G env σ (.convert t u x)) dst ct env ks Q:=by simp only [kO,kS];rw [vcOp_convert]
@[simp ↓] theorem kO_makeFunc {f:Fn} {a b:Array Operand}:kO P G o ops d (.makeFunc f a b) dst ct env σ ks Q=kS P G o ops (sem (Dof P) G env σ (.makeFunc f a b)) dst ct env ks Q:=by simp only [kO,kS];rw [vcOp_makeFunc]
@[simp ↓] theorem kO_makeMap {t:TypeId} {r:Option Operand}:kO P G o ops d (.makeMap t r) dst ct env σ ks Q=kS P G o ops (sem (Dof P) G env σ (.makeMap t r)) dst ct env ks Q:=by simp only [kO,kS];rw [vcOp_makeMap]
theorem kO_makeSliceN {t:TypeId} {x y:Operand} (hmu:o.mu=false):kO P G o ops d (.makeSlice t x y) dst ct env σ ks Q=kS P G o ops (sem (Dof P) G env σ (.makeSlice t x y)) dst ct env ks Q:=by
 simp only [kO,kS]
 cases d
 · rw [vcOp_makeSlice,hmu,mkX_false,vcX_none]
 · rw [vcOp_makeSliceD]
@[simp ↓] theorem kO_makeSliceF {u:List (Nat×Sch×List Nat)} {lw:List Nat} {v:List (Nat×Nat)} {t:TypeId} {x y:Operand}:kO P G ⟨false,u,lw,v⟩ ops d (.makeSlice t x y) dst ct env σ ks Q=kS P G ⟨false,u,lw,v⟩ ops (sem (Dof P) G env σ (.makeSlice t x y)) dst ct env ks Q:=kO_makeSliceN rfl
@[simp ↓] theorem kO_makeSlice0 {t:TypeId} {x y:Operand}:kO P G o0 ops d (.makeSlice t x y) dst ct env σ ks Q=kS P G o0 ops (sem (Dof P) G env σ (.makeSlice t x y)) dst ct env ks Q:=kO_makeSliceN rfl
@[simp ↓] theorem kO_makeSliceT {u:List (Nat×Sch×List Nat)} {lw:List Nat} {v:List (Nat×Nat)} {t:TypeId} {x y:Operand}:kO P G ⟨true,u,lw,v⟩ ops false (.makeSlice t x y) dst ct env σ ks Q=kY P G ⟨true,u,lw,v⟩ ops (mkX (Dof P) true σ t (ev G env x) (ev G env y)) (sem (Dof P) G env σ (.makeSlice t x y)) dst ct env ks Q:=by simp only [kO,kY];rw [vcOp_makeSlice]
@[simp ↓] theorem kO_slice {t:TypeId} {x:Operand} {lo hi mx:Option Operand}:kO P G o ops d (.slice t x lo hi mx) dst ct env σ ks Q=kS P G o ops (sem (Dof P) G env σ (.slice t x lo hi mx)) dst ct env ks Q:=by simp only [kO,kS];rw [vcOp_slice]
@[simp ↓] theorem kO_fieldAddr {t:TypeId} {x:Operand} {i:Nat}:kO P G o ops d (.fieldAddr t x i) dst ct env σ ks Q=kS P G o ops (sem (Dof P) G env σ (.fieldAddr t x i)) dst ct env ks Q:=by simp only [kO,kS];rw [vcOp_fieldAddr]
@[simp ↓] theorem kO_field {t:TypeId} {x:Operand} {i:Nat}:kO P G o ops d (.field t x i) dst ct env σ ks Q=kS P G o ops (sem (Dof P) G env σ (.field t x i)) dst ct env ks Q:=by simp only [kO,kS];rw [vcOp_field]
@[simp ↓] theorem kO_indexAddr {t:TypeId} {x y:Operand}:kO P G o ops d (.indexAddr t x y) dst ct env σ ks Q=kS P G o ops (sem (Dof P) G env σ (.indexAddr t x y)) dst ct env ks Q:=by simp only [kO,kS];rw [vcOp_indexAddr]
@[simp ↓] theorem kO_index {t:TypeId} {x y:Operand}:kO P G o ops d (.index t x y) dst ct env σ ks Q=kS P G o ops (sem (Dof P) G env σ (.index t x y)) dst ct env ks Q:=by simp only [kO,kS];rw [vcOp_index]
@[simp ↓] theorem kO_lookup {t:TypeId} {x y:Operand} {k:Bool}:kO P G o ops d (.lookup t x y k) dst ct env σ ks Q=kS P G o ops (sem (Dof P) G env σ (.lookup t x y k)) dst ct env ks Q:=by simp only [kO,kS];rw [vcOp_lookup]
@[simp ↓] theorem kO_mapUpdate {t:TypeId} {x y z:Operand}:kO P G o ops d (.mapUpdate t x y z) dst ct env σ ks Q=kS P G o ops (sem (Dof P) G env σ (.mapUpdate t x y z)) dst ct env ks Q:=by simp only [kO,kS];rw [vcOp_mapUpdate]
@[simp ↓] theorem kO_range {t:TypeId} {x:Operand}:kO P G o ops d (.range t x) dst ct env σ ks Q=kS P G o ops (sem (Dof P) G env σ (.range t x)) dst ct env ks Q:=by simp only [kO,kS];rw [vcOp_range]
@[simp ↓] theorem kO_next {x:Operand}:kO P G o ops d (.next x true) dst ct env σ ks Q=kS P G o ops (sem (Dof P) G env σ (.next x true)) dst ct env ks Q:=by simp only [kO,kS];rw [vcOp_next]
@[simp ↓] theorem kO_mnext {x:Operand}:kO P G o ops false (.next x false) dst ct env σ ks Q=kY P G o ops (nextsA σ (ev G env x)) none dst ct env ks Q:=by simp only [kO,kY];rw [vcOp_mnext]
@[simp ↓] theorem kO_entry {x:Operand}:kO P G o ops false (.entry x) dst ct env σ ks Q=kY P G o ops ((entryA σ (ev G env x)).map fun v=>[(v,σ)]) none dst ct env ks Q:=by simp only [kO,kY];rw [vcOp_entry]
@[simp ↓] theorem kO_insert {t:TypeId} {m k v:Operand}:kO P G o ops false (.insert t m k v) dst ct env σ ks Q=kY P G o ops ((mapUpdateA (Dof P) σ t (ev G env m) (ev G env k) (ev G env v)).map fun σ'=>[(.tup [],σ')]) none dst ct env ks Q:=by simp only [kO,kY];rw [vcOp_insert]
@[simp ↓] theorem kO_extract {x:Operand} {i:Nat}:kO P G o ops d (.extract x i) dst ct env σ ks Q=kS P G o ops (sem (Dof P) G env σ (.extract x i)) dst ct env ks Q:=by simp only [kO,kS];rw [vcOp_extract]
@[simp ↓] theorem kO_len {a:Array Operand} {t:Array TypeId}:kO P G o ops d (.call { callee:=.builtin .len,args:=a,argTypes:=t }) dst ct env σ ks Q=kS P G o ops (sem (Dof P) G env σ (.call { callee:=.builtin .len,args:=a,argTypes:=t })) dst ct env ks Q:=by simp only [kO,kS];rw [vcOp_len]
@[simp ↓] theorem kO_min {a:Array Operand} {t:Array TypeId}:kO P G o ops d (.call { callee:=.builtin .min,args:=a,argTypes:=t }) dst ct env σ ks Q=kS P G o ops (sem (Dof P) G env σ (.call { callee:=.builtin .min,args:=a,argTypes:=t })) dst ct env ks Q:=by simp only [kO,kS];rw [vcOp_min]
@[simp ↓] theorem kO_max {a:Array Operand} {t:Array TypeId}:kO P G o ops d (.call { callee:=.builtin .max,args:=a,argTypes:=t }) dst ct env σ ks Q=kS P G o ops (sem (Dof P) G env σ (.call { callee:=.builtin .max,args:=a,argTypes:=t })) dst ct env ks Q:=by simp only [kO,kS];rw [vcOp_max]
@[simp ↓] theorem kO_append {a:Array Operand} {t:Array TypeId} (hmu:o.mu=false):kO P G o ops d (.call { callee:=.builtin .append,args:=a,argTypes:=t }) dst ct env σ ks Q=kS P G o ops (sem (Dof P) G env σ (.call { callee:=.builtin .append,args:=a,argTypes:=t })) dst ct env ks Q:=by simp only [kO,kS,hmu];rw [vcOp_append]
@[simp ↓] theorem kO_appendM {s x:Operand} {t u:TypeId} (hmu:o.mu=true):kO P G o ops false (.call { callee:=.builtin .append,args:=#[s,x],argTypes:=#[t,u] }) dst ct env σ ks Q=kY P G o ops ((appendX (Dof P) σ t u (ev G env s) (ev G env x)).map fun p=>[p]) (sem (Dof P) G env σ (.call { callee:=.builtin .append,args:=#[s,x],argTypes:=#[t,u] })) dst ct env ks Q:=by simp only [kO,kY,hmu];rw [vcOp_appendM]
@[simp ↓] theorem kO_clear {x:Operand} {t:TypeId}:kO P G o ops false (.call { callee:=.builtin .clear,args:=#[x],argTypes:=#[t] }) dst ct env σ ks Q=kY P G o ops ((clearA (Dof P) σ t (ev G env x)).map fun σ'=>[(.tup [],σ')]) none dst ct env ks Q:=by simp only [kO,kY];rw [vcOp_clear]
@[simp ↓] theorem kO_copy {x y:Operand} {t u:TypeId}:kO P G o ops false (.call { callee:=.builtin .copy,args:=#[x,y],argTypes:=#[t,u] }) dst ct env σ ks Q=kY P G o ops ((copyA (Dof P) σ t (ev G env x) (ev G env y)).map fun p=>[p]) none dst ct env ks Q:=by simp only [kO,kY];rw [vcOp_copy]
@[simp ↓] theorem kO_cap {x:Operand} {t:TypeId}:kO P G o ops false (.call { callee:=.builtin .cap,args:=#[x],argTypes:=#[t] }) dst ct env σ ks Q=kY P G o ops ((capA (Dof P) t (ev G env x)).map fun v=>[(v,σ)]) none dst ct env ks Q:=by simp only [kO,kY];rw [vcOp_cap]
@[simp ↓] theorem kO_appendF {x:List (Nat×Sch×List Nat)} {lw:List Nat} {y:List (Nat×Nat)} {a:Array Operand} {t:Array TypeId}:kO P G ⟨false,x,lw,y⟩ ops d (.call { callee:=.builtin .append,args:=a,argTypes:=t }) dst ct env σ ks Q=kS P G ⟨false,x,lw,y⟩ ops (sem (Dof P) G env σ (.call { callee:=.builtin .append,args:=a,argTypes:=t })) dst ct env ks Q:=kO_append rfl
@[simp ↓] theorem kO_appendT {x:List (Nat×Sch×List Nat)} {lw:List Nat} {y:List (Nat×Nat)} {s z:Operand} {t u:TypeId}:kO P G ⟨true,x,lw,y⟩ ops false (.call { callee:=.builtin .append,args:=#[s,z],argTypes:=#[t,u] }) dst ct env σ ks Q=kY P G ⟨true,x,lw,y⟩ ops ((appendX (Dof P) σ t u (ev G env s) (ev G env z)).map fun p=>[p]) (sem (Dof P) G env σ (.call { callee:=.builtin .append,args:=#[s,z],argTypes:=#[t,u] })) dst ct env ks Q:=kO_appendM rfl
@[simp ↓] theorem kO_append0 {a:Array Operand} {t:Array TypeId}:kO P G o0 ops d (.call { callee:=.builtin .append,args:=a,argTypes:=t }) dst ct env σ ks Q=kS P G o0 ops (sem (Dof P) G env σ (.call { callee:=.builtin .append,args:=a,argTypes:=t })) dst ct env ks Q:=kO_append rfl
end
/-! ### What is known of each kind of value -/
section
@[simp] theorem atom_any  : AV.atom (.any)=false:=rfl
@[simp] theorem acells_anyB  : acells (.any)=none:=rfl
@[simp] theorem pl1_any  : pl1 (.any)=.any:=rfl
@[simp] theorem pl2_any  : pl2 (.any)=.any:=rfl
@[simp] theorem plain_any  : plain (.any)=.any:=rfl
@[simp] theorem fin1_any  {H:List Blk}:fin1 H (.any)=.any:=rfl
@[simp] theorem fin2_any  {H:List Blk}:fin2 H (.any)=.any:=rfl
@[simp] theorem fin_any  {H:List Blk}:fin H (.any)=.any:=rfl
@[simp] theorem atom_bool {b:Bool}:AV.atom (.bool b)=true:=rfl
@[simp] theorem acells_boolB {b:Bool}:acells (.bool b)=some [.bool b]:=rfl
@[simp] theorem pl1_bool {b:Bool}:pl1 (.bool b)=.bool b:=rfl
@[simp] theorem pl2_bool {b:Bool}:pl2 (.bool b)=.bool b:=rfl
@[simp] theorem plain_bool {b:Bool}:plain (.bool b)=.bool b:=rfl
@[simp] theorem fin1_bool {b:Bool} {H:List Blk}:fin1 H (.bool b)=.bool b:=rfl
@[simp] theorem fin2_bool {b:Bool} {H:List Blk}:fin2 H (.bool b)=.bool b:=rfl
@[simp] theorem fin_bool {b:Bool} {H:List Blk}:fin H (.bool b)=.bool b:=rfl
@[simp] theorem atom_int {k:IntKind} {n:Int}:AV.atom (.int k n)=true:=rfl
@[simp] theorem acells_intB {k:IntKind} {n:Int}:acells (.int k n)=some [.int k n]:=rfl
@[simp] theorem pl1_int {k:IntKind} {n:Int}:pl1 (.int k n)=.int k n:=rfl
@[simp] theorem pl2_int {k:IntKind} {n:Int}:pl2 (.int k n)=.int k n:=rfl
@[simp] theorem plain_int {k:IntKind} {n:Int}:plain (.int k n)=.int k n:=rfl
@[simp] theorem fin1_int {k:IntKind} {n:Int} {H:List Blk}:fin1 H (.int k n)=.int k n:=rfl
@[simp] theorem fin2_int {k:IntKind} {n:Int} {H:List Blk}:fin2 H (.int k n)=.int k n:=rfl
@[simp] theorem fin_int {k:IntKind} {n:Int} {H:List Blk}:fin H (.int k n)=.int k n:=rfl
@[simp] theorem atom_str {s:List UInt8}:AV.atom (.str s)=true:=rfl
@[simp] theorem acells_strB {s:List UInt8}:acells (.str s)=some [.str s]:=rfl
@[simp] theorem pl1_str {s:List UInt8}:pl1 (.str s)=.str s:=rfl
@[simp] theorem pl2_str {s:List UInt8}:pl2 (.str s)=.str s:=rfl
@[simp] theorem plain_str {s:List UInt8}:plain (.str s)=.str s:=rfl
@[simp] theorem fin1_str {s:List UInt8} {H:List Blk}:fin1 H (.str s)=.str s:=rfl
@[simp] theorem fin2_str {s:List UInt8} {H:List Blk}:fin2 H (.str s)=.str s:=rfl
@[simp] theorem fin_str {s:List UInt8} {H:List Blk}:fin H (.str s)=.str s:=rfl
@[simp] theorem atom_nilp  : AV.atom (.nilp)=true:=rfl
@[simp] theorem acells_nilpB  : acells (.nilp)=some [.nilp]:=rfl
@[simp] theorem pl1_nilp  : pl1 (.nilp)=.nilp:=rfl
@[simp] theorem pl2_nilp  : pl2 (.nilp)=.nilp:=rfl
@[simp] theorem plain_nilp  : plain (.nilp)=.nilp:=rfl
@[simp] theorem fin1_nilp  {H:List Blk}:fin1 H (.nilp)=.nilp:=rfl
@[simp] theorem fin2_nilp  {H:List Blk}:fin2 H (.nilp)=.nilp:=rfl
@[simp] theorem fin_nilp  {H:List Blk}:fin H (.nilp)=.nilp:=rfl
@[simp] theorem atom_ptr {b o:Nat}:AV.atom (.ptr b o)=true:=rfl
@[simp] theorem acells_ptrB {b o:Nat}:acells (.ptr b o)=some [.ptr b o]:=rfl
@[simp] theorem pl1_ptr {b o:Nat}:pl1 (.ptr b o)=.ptr b o:=rfl
@[simp] theorem pl2_ptr {b o:Nat}:pl2 (.ptr b o)=.ptr b o:=rfl
@[simp] theorem plain_ptr {b o:Nat}:plain (.ptr b o)=.ptr b o:=rfl
@[simp] theorem fin1_ptr {b o:Nat} {H:List Blk}:fin1 H (.ptr b o)=.ptr b o:=rfl
@[simp] theorem fin2_ptr {b o:Nat} {H:List Blk}:fin2 H (.ptr b o)=.ptr b o:=rfl
@[simp] theorem fin_ptr {b o:Nat} {H:List Blk}:fin H (.ptr b o)=.ptr b o:=rfl
@[simp] theorem atom_rptr {c:List AV}:AV.atom (.rptr c)=true:=rfl
@[simp] theorem acells_rptrB {c:List AV}:acells (.rptr c)=some [.rptr c]:=rfl
@[simp] theorem pl1_rptr {c:List AV}:pl1 (.rptr c)=.rptr c:=rfl
@[simp] theorem pl2_rptr {c:List AV}:pl2 (.rptr c)=.rptr c:=rfl
@[simp] theorem plain_rptr {c:List AV}:plain (.rptr c)=.rptr c:=rfl
@[simp] theorem fin1_rptr {c:List AV} {H:List Blk}:fin1 H (.rptr c)=.rptr c:=rfl
@[simp] theorem fin2_rptr {c:List AV} {H:List Blk}:fin2 H (.rptr c)=.rptr c:=rfl
@[simp] theorem fin_rptr {c:List AV} {H:List Blk}:fin H (.rptr c)=.rptr c:=rfl
@[simp] theorem atom_nilm  : AV.atom (.nilm)=true:=rfl
@[simp] theorem acells_nilmB  : acells (.nilm)=some [.nilm]:=rfl
@[simp] theorem pl1_nilm  : pl1 (.nilm)=.nilm:=rfl
@[simp] theorem pl2_nilm  : pl2 (.nilm)=.nilm:=rfl
@[simp] theorem plain_nilm  : plain (.nilm)=.nilm:=rfl
@[simp] theorem fin1_nilm  {H:List Blk}:fin1 H (.nilm)=.nilm:=rfl
@[simp] theorem fin2_nilm  {H:List Blk}:fin2 H (.nilm)=.nilm:=rfl
@[simp] theorem fin_nilm  {H:List Blk}:fin H (.nilm)=.nilm:=rfl
@[simp] theorem atom_map {b:Nat}:AV.atom (.map b)=true:=rfl
@[simp] theorem acells_mapB {b:Nat}:acells (.map b)=some [.map b]:=rfl
@[simp] theorem pl1_map {b:Nat}:pl1 (.map b)=.map b:=rfl
@[simp] theorem pl2_map {b:Nat}:pl2 (.map b)=.map b:=rfl
@[simp] theorem plain_map {b:Nat}:plain (.map b)=.map b:=rfl
@[simp] theorem fin1_map {b:Nat} {H:List Blk}:fin1 H (.map b)=.map b:=rfl
@[simp] theorem fin2_map {b:Nat} {H:List Blk}:fin2 H (.map b)=.map b:=rfl
@[simp] theorem fin_map {b:Nat} {H:List Blk}:fin H (.map b)=.map b:=rfl
@[simp] theorem atom_iter {b:Nat}:AV.atom (.iter b)=true:=rfl
@[simp] theorem acells_iterB {b:Nat}:acells (.iter b)=some [.iter b]:=rfl
@[simp] theorem pl1_iter {b:Nat}:pl1 (.iter b)=.iter b:=rfl
@[simp] theorem pl2_iter {b:Nat}:pl2 (.iter b)=.iter b:=rfl
@[simp] theorem plain_iter {b:Nat}:plain (.iter b)=.iter b:=rfl
@[simp] theorem fin1_iter {b:Nat} {H:List Blk}:fin1 H (.iter b)=.iter b:=rfl
@[simp] theorem fin2_iter {b:Nat} {H:List Blk}:fin2 H (.iter b)=.iter b:=rfl
@[simp] theorem fin_iter {b:Nat} {H:List Blk}:fin H (.iter b)=.iter b:=rfl
@[simp] theorem atom_fn {f:FuncId} {a c:List AV}:AV.atom (.fn f a c)=true:=rfl
@[simp] theorem acells_fnB {f:FuncId} {a c:List AV}:acells (.fn f a c)=some [.fn f a c]:=rfl
@[simp] theorem pl1_fn {f:FuncId} {a c:List AV}:pl1 (.fn f a c)=.fn f a c:=rfl
@[simp] theorem pl2_fn {f:FuncId} {a c:List AV}:pl2 (.fn f a c)=.fn f a c:=rfl
@[simp] theorem plain_fn {f:FuncId} {a c:List AV}:plain (.fn f a c)=.fn f a c:=rfl
@[simp] theorem fin1_fn {f:FuncId} {a c:List AV} {H:List Blk}:fin1 H (.fn f a c)=.fn f a c:=rfl
@[simp] theorem fin2_fn {f:FuncId} {a c:List AV} {H:List Blk}:fin2 H (.fn f a c)=.fn f a c:=rfl
@[simp] theorem fin_fn {f:FuncId} {a c:List AV} {H:List Blk}:fin H (.fn f a c)=.fn f a c:=rfl
@[simp] theorem atom_nilf  : AV.atom (.nilf)=true:=rfl
@[simp] theorem acells_nilfB  : acells (.nilf)=some [.nilf]:=rfl
@[simp] theorem pl1_nilf  : pl1 (.nilf)=.nilf:=rfl
@[simp] theorem pl2_nilf  : pl2 (.nilf)=.nilf:=rfl
@[simp] theorem plain_nilf  : plain (.nilf)=.nilf:=rfl
@[simp] theorem fin1_nilf  {H:List Blk}:fin1 H (.nilf)=.nilf:=rfl
@[simp] theorem fin2_nilf  {H:List Blk}:fin2 H (.nilf)=.nilf:=rfl
@[simp] theorem fin_nilf  {H:List Blk}:fin H (.nilf)=.nilf:=rfl
@[simp] theorem atom_sl {sz:Nat} {rows:List (List AV)} {tok:Tok}:AV.atom (.sl sz rows tok)=true:=rfl
@[simp] theorem acells_slB {sz:Nat} {rows:List (List AV)} {tok:Tok}:acells (.sl sz rows tok)=some [.sl sz rows tok]:=rfl
@[simp] theorem pl1_sl_none {sz:Nat} {rows:List (List AV)}  : pl1 (.sl sz rows .none)=.sl sz rows .none:=rfl
@[simp] theorem pl2_sl_none {sz:Nat} {rows:List (List AV)}  : pl2 (.sl sz rows .none)=.sl sz rows .none:=rfl
@[simp] theorem plain_sl_none {sz:Nat} {rows:List (List AV)}  : plain (.sl sz rows .none)=.sl sz rows .none:=rfl
@[simp] theorem fin1_sl_none {sz:Nat} {rows:List (List AV)}  {H:List Blk}:fin1 H (.sl sz rows .none)=.sl sz rows .none:=rfl
@[simp] theorem fin2_sl_none {sz:Nat} {rows:List (List AV)}  {H:List Blk}:fin2 H (.sl sz rows .none)=.sl sz rows .none:=rfl
@[simp] theorem fin_sl_none {sz:Nat} {rows:List (List AV)}  {H:List Blk}:fin H (.sl sz rows .none)=.sl sz rows .none:=rfl
@[simp] theorem pl1_sl_nil {sz:Nat} {rows:List (List AV)}  : pl1 (.sl sz rows .nil)=.sl sz rows .nil:=rfl
@[simp] theorem pl2_sl_nil {sz:Nat} {rows:List (List AV)}  : pl2 (.sl sz rows .nil)=.sl sz rows .nil:=rfl
@[simp] theorem plain_sl_nil {sz:Nat} {rows:List (List AV)}  : plain (.sl sz rows .nil)=.sl sz rows .nil:=rfl
@[simp] theorem fin1_sl_nil {sz:Nat} {rows:List (List AV)}  {H:List Blk}:fin1 H (.sl sz rows .nil)=.sl sz rows .nil:=rfl
@[simp] theorem fin2_sl_nil {sz:Nat} {rows:List (List AV)}  {H:List Blk}:fin2 H (.sl sz rows .nil)=.sl sz rows .nil:=rfl
@[simp] theorem fin_sl_nil {sz:Nat} {rows:List (List AV)}  {H:List Blk}:fin H (.sl sz rows .nil)=.sl sz rows .nil:=rfl
@[simp] theorem pl1_sl_tight {sz:Nat} {rows:List (List AV)}  : pl1 (.sl sz rows .tight)=.sl sz rows .tight:=rfl
@[simp] theorem pl2_sl_tight {sz:Nat} {rows:List (List AV)}  : pl2 (.sl sz rows .tight)=.sl sz rows .tight:=rfl
@[simp] theorem plain_sl_tight {sz:Nat} {rows:List (List AV)}  : plain (.sl sz rows .tight)=.sl sz rows .tight:=rfl
@[simp] theorem fin1_sl_tight {sz:Nat} {rows:List (List AV)}  {H:List Blk}:fin1 H (.sl sz rows .tight)=.sl sz rows .tight:=rfl
@[simp] theorem fin2_sl_tight {sz:Nat} {rows:List (List AV)}  {H:List Blk}:fin2 H (.sl sz rows .tight)=.sl sz rows .tight:=rfl
@[simp] theorem fin_sl_tight {sz:Nat} {rows:List (List AV)}  {H:List Blk}:fin H (.sl sz rows .tight)=.sl sz rows .tight:=rfl
@[simp] theorem pl1_sl_chain {sz:Nat} {rows:List (List AV)} {t k:Nat}:pl1 (.sl sz rows (.chain t k))=.sl sz rows .none:=rfl
@[simp] theorem pl2_sl_chain {sz:Nat} {rows:List (List AV)} {t k:Nat}:pl2 (.sl sz rows (.chain t k))=.sl sz rows .none:=rfl
@[simp] theorem plain_sl_chain {sz:Nat} {rows:List (List AV)} {t k:Nat}:plain (.sl sz rows (.chain t k))=.sl sz rows .none:=rfl
@[simp] theorem fin1_sl_chain {sz:Nat} {rows:List (List AV)} {t k:Nat} {H:List Blk}:fin1 H (.sl sz rows (.chain t k))=.sl sz rows .none:=rfl
@[simp] theorem fin2_sl_chain {sz:Nat} {rows:List (List AV)} {t k:Nat} {H:List Blk}:fin2 H (.sl sz rows (.chain t k))=.sl sz rows .none:=rfl
@[simp] theorem fin_sl_chain {sz:Nat} {rows:List (List AV)} {t k:Nat} {H:List Blk}:fin H (.sl sz rows (.chain t k))=.sl sz rows .none:=rfl
@[simp] theorem atom_ms {b o l z:Nat}:AV.atom (.ms b o l z)=true:=rfl
@[simp] theorem acells_msB {b o l z:Nat}:acells (.ms b o l z)=some [.ms b o l z]:=rfl
@[simp] theorem pl1_ms {b o l z:Nat}:pl1 (.ms b o l z)=.ms b o l z:=rfl
@[simp] theorem pl2_ms {b o l z:Nat}:pl2 (.ms b o l z)=.ms b o l z:=rfl
@[simp] theorem plain_ms {b o l z:Nat}:plain (.ms b o l z)=.ms b o l z:=rfl
@[simp] theorem atom_agg {c:List AV}:AV.atom (.agg c)=false:=rfl
@[simp] theorem atom_tup {c:List AV}:AV.atom (.tup c)=false:=rfl
@[simp] theorem acells_aggB {c:List AV}:acells (.agg c)=if c.all AV.atom=true then some c else none:=rfl
@[simp] theorem acells_tup {c:List AV}:acells (.tup c)=none:=rfl
@[simp] theorem pl2_agg {c:List AV}:pl2 (.agg c)=.agg (c.map pl1):=rfl
@[simp] theorem plain_agg {c:List AV}:plain (.agg c)=.agg (c.map pl1):=rfl
@[simp] theorem fin2_agg {c:List AV} {H:List Blk}:fin2 H (.agg c)=.agg (c.map (fin1 H)):=rfl
@[simp] theorem fin_agg {c:List AV} {H:List Blk}:fin H (.agg c)=.agg (c.map (fin1 H)):=rfl
@[simp] theorem plain_tup {c:List AV}:plain (.tup c)=.tup (c.map pl2):=rfl
@[simp] theorem fin_tup {c:List AV} {H:List Blk}:fin H (.tup c)=.tup (c.map (fin2 H)):=rfl
end
attribute [simp] List.getElem?_cons_zero List.getElem?_cons_succ
attribute [simp] buildA fillA stPlace buildSliceA rowsFill rowsOf nilFits plainTD TD.isSl TD.isPtr TD.isMap TD.isFn
section
variable {A t:List Blk} {k:Nat} {x:Blk}
@[simp] theorem at_app0:(A++t)[A.length]?=t[0]? := by rw [List.getElem?_append_right (Nat.le_refl _),Nat.sub_self]
@[simp] theorem at_appk:(A++t)[A.length+k]?=t[k]? := by rw [List.getElem?_append_right (by omega)];congr 1;try omega
@[simp] theorem set_app0:(A++t).set A.length x=A++t.set 0 x:=by rw [List.set_append_right _ _ (Nat.le_refl _),Nat.sub_self]
@[simp] theorem set_appk:(A++t).set (A.length+k) x=A++t.set k x:=by rw [List.set_append_right _ _ (by omega)];congr 2;try omega
theorem at_set (b:Nat) (y:Blk) (t:List Blk):(A.set b y++t)[A.length]?=t[0]? := by rw [List.getElem?_append_right (by simp),List.length_set,Nat.sub_self]
theorem at_setk (b:Nat) (y:Blk) (t:List Blk):(A.set b y++t)[A.length+k]?=t[k]? := by rw [List.getElem?_append_right (by simp),List.length_set];congr 1;try omega
theorem look_app (h:A[k]?=some x) (t:List Blk):(A++t)[k]?=some x:=by rw [List.getElem?_append_left (List.getElem?_eq_some_iff.1 h).1,h]
theorem set_left {b:Nat} (h:A[b]?=some x) (t:List Blk) (y:Blk):(A++t).set b y=A.set b y++t:=List.set_append_left _ _ (List.getElem?_eq_some_iff.1 h).1
end
/-! ### From the condition to a contract -/
section
variable {P:Program} {G:Glo} {σ:St} {f:FuncId} {args:List AV} {r:AV}
theorem Pure.kO {G : Nat → AV} {fn : Func} {c : Code} (o : Opts) (deep : Bool) (hm : P.follows .mixedOrders = true) (hf : P.funcs[f]? = some fn) (hb : fn.body = some c) (hk : (codeOk fn.ntmps o c && decide (args.length ≤ fn.ntmps) && fn.name != "runtime.NumGoroutine") = true)
 (h:kC P G o c (envOf args) ⟨[],[]⟩ [] (fnPost P deep fn.results.toList r)):Pure P G f args r:=Pure.vcO o deep hm hf hb hk h
theorem Pure.k {G : Nat → AV} {fn : Func} {c : Code} (hm : P.follows .mixedOrders = true) (hf : P.funcs[f]? = some fn) (hb : fn.body = some c) (hk : (codeOk fn.ntmps o0 c && decide (args.length ≤ fn.ntmps) && fn.name != "runtime.NumGoroutine") = true)
 (h:kC P G o0 c (envOf args) ⟨[],[]⟩ [] (fnPost P false fn.results.toList r)):Pure P G f args r:=Pure.vc hm hf hb hk h
theorem ACall.kO {fn : Func} {c : Code} {Q : AV → St → Prop} (o : Opts) (hm : P.follows .mixedOrders = true) (hf : P.funcs[f]? = some fn) (hb : fn.body = some c) (hk : (codeOk fn.ntmps o c && decide (args.length ≤ fn.ntmps) && fn.name != "runtime.NumGoroutine") = true)
 (h:kC P G o c (envOf args) σ [] (acPost P fn.results.toList Q)):ACall P G f args σ Q:=ACall.vcO o hm hf hb hk h
theorem ACall.k {fn : Func} {c : Code} {Q : AV → St → Prop} (hm : P.follows .mixedOrders = true) (hf : P.funcs[f]? = some fn) (hb : fn.body = some c) (hk : (codeOk fn.ntmps o0 c && decide (args.length ≤ fn.ntmps) && fn.name != "runtime.NumGoroutine") = true)
 (h:kC P G o0 c (envOf args) σ [] (acPost P fn.results.toList Q)):ACall P G f args σ Q:=ACall.vc hm hf hb hk h
end
section
variable {P:Program} {G:Glo} {o:Opts} {ops:Array Oper} {d:Bool} {g:FuncId} {args args':List AV} {env:Env} {σ:St} {ks:List Fr} {Q:Exit→Env→St→Prop} {dst:Option Nat} {ct:Ct} {r:AV}
/-- A call of a function whose contract is known, with values that hold no reference. -/
theorem kCall.call (h:Pure P G g args r) (hno:noRefs args=true) (hq:kT P G o ops ct (upd env dst r) σ ks Q):kCall P G o ops d g args σ dst ct env ks Q:=vcCall.call h hno hq
theorem kCall.less (h:Pure P G g args' r) (hno:noRefs args=true) (ha:LeqL args args') (hq:kT P G o ops ct (upd env dst r) σ ks Q):kCall P G o ops d g args σ dst ct env ks Q:=vcCall.less h hno ha hq
theorem kCall.pure (h:Pure P G g args' r) (hno:noRefs (args.map plain)=true) (ha:LeqL (args.map plain) args') (hq:kT P G o ops ct (upd env dst r) σ ks Q):kCall P G o ops d g args σ dst ct env ks Q:=vcCall.pure h hno ha hq
theorem kCall.lent (h:Pure P G g args' r) (hb:bare r=true) (ha:LeqL (args.map (frz σ.H 8)) args') (hq:kT P G o ops ct (upd env dst r) σ ks Q):kCall P G o ops d g args σ dst ct env ks Q:=vcCall.lent h hb ha hq
/-- A call that shares the state. -/
theorem kCall.acall {R:AV→St→Prop} (h:ACall P G g args σ R) (hq:∀ v σ',R v σ'→kT P G o ops ct (upd env dst v) σ' ks Q):kCall P G o ops false g args σ dst ct env ks Q:=ACall.imp h hq
/-- A loop that takes the elements of a list, one behind the other; 'J': what holds when some are done. -/
theorem kLoop.list {α:Type} (l:List α) (J:List α→Env→St→Prop) {c:Code} (h0:J [] env σ)
 (hs:∀ d v r env σ,l=d++v::r→l[d.length]?=some v→d.length<l.length→J d env σ→kC P G o c env σ (.loop (J (d++[v]))::ks) Q)
 (he:∀ env σ,J l env σ→kC P G o c env σ (.loop (fun _ _=>False)::ks) Q) (hp:plainC c=true:=by rfl):kLoop P G o c env σ ks Q:=vcLoop.list l J h0 hs he hp
theorem kLoop.count (n:Nat) (J:Nat→Env→St→Prop) {c:Code} (h0:J 0 env σ)
 (hs:∀ i env σ,i<n→J i env σ→kC P G o c env σ (.loop (J (i+1))::ks) Q)
 (he:∀ env σ,J n env σ→kC P G o c env σ (.loop (fun _ _=>False)::ks) Q) (hp:plainC c=true:=by rfl):kLoop P G o c env σ ks Q:=vcLoop.count n J h0 hs he hp
/-- A loop by a measure: the next round's beginning is asked of a relation that is not looked into. -/
theorem kLoop.gen {c:Code} (I:Nat→Env→St→Prop) (n:Nat) (h:I n env σ) (hr:∀ n env σ (R:Env→St→Prop),(∀ m env σ,m<n→I m env σ→R env σ)→I n env σ→kC P G o c env σ (.loop R::ks) Q):kLoop P G o c env σ ks Q :=
 vcLoop.intro I n h fun n env σ hI=>hr n env σ _ (fun m env σ hm hI=>⟨m,hm,hI⟩) hI
theorem kLoop.intro {c:Code} (I:Nat→Env→St→Prop) (n:Nat) (h:I n env σ) (hr:∀ n env σ,I n env σ→kC P G o c env σ (.loop (fun env' σ'=>∃ n',n' < n∧I n' env' σ')::ks) Q):kLoop P G o c env σ ks Q:=vcLoop.intro I n h hr
end
end
end Go.Abs
end
