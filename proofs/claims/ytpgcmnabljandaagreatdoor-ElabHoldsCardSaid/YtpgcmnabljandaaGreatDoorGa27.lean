/- A part of the proof: AbsK AbsOwn AbsOut2 AbsExt AbsCut. -/
import Derived.Test.YtpgcmnabljandaaGreatDoorGa15
import Derived.Test.YtpgcmnabljandaaGreatDoorGa14
set_option linter.unusedVariables false
set_option linter.unusedSimpArgs false
section
namespace Go.Abs
open Go Go.RowKit
section
inductive Fr where
 | seq (y:Code)
 | block (id:Nat)
 | loop (n:Env→St→Prop)
inductive Ct where
 | run (d lw:Bool) (rest:List Oper)
 | plan (ac:List Nat) (s:Sch)
section
variable (P:Program) (G:Nat→AV) (o:Opts)
def itp:List Fr→(Exit→Env→St→Prop)→Exit→Env→St→Prop
 | [],Q=>Q
 | .seq y::ks,Q=>aThen (fun env σ=>vcC P G o y env σ (itp ks Q)) (itp ks Q)
 | .block id::ks,Q=>aBlock id (itp ks Q)
 | .loop n::ks,Q=>aThen n (itp ks Q)
def kC (c:Code) (env:Env) (σ:St) (ks:List Fr) (Q:Exit→Env→St→Prop):Prop:=vcC P G o c env σ (itp P G o ks Q)
def kX (e:Exit) (env:Env) (σ:St) (ks:List Fr) (Q:Exit→Env→St→Prop):Prop:=itp P G o ks Q e env σ
def kT (ops:Array Oper) (ct:Ct) (env:Env) (σ:St) (ks:List Fr) (Q:Exit→Env→St→Prop):Prop:=match ct with
 | .run d lw rest=>vcR P G o.mu ops d lw rest env σ (fun env σ=>itp P G o ks Q .normal env σ)
 | .plan ac s=>vcS P G o.mu ac ops s env σ (fun env σ=>itp P G o ks Q .normal env σ)
def kO (ops:Array Oper) (d:Bool) (op:Op) (dst:Option Nat) (ct:Ct) (env:Env) (σ:St) (ks:List Fr) (Q:Exit→Env→St→Prop):Prop :=
 vcOp P G o.mu d op env σ (fun v σ'=>kT P G o ops ct (upd env dst v) σ' ks Q)
def kS (ops:Array Oper) (x:Option (AV×St)) (dst:Option Nat) (ct:Ct) (env:Env) (ks:List Fr) (Q:Exit→Env→St→Prop):Prop :=
 vcSem x (fun v σ'=>kT P G o ops ct (upd env dst v) σ' ks Q)
def kY (ops:Array Oper) (l:Option (List (AV×St))) (x:Option (AV×St)) (dst:Option Nat) (ct:Ct) (env:Env) (ks:List Fr) (Q:Exit→Env→St→Prop):Prop :=
 vcX l x (fun v σ'=>kT P G o ops ct (upd env dst v) σ' ks Q)
def kFn (ops:Array Oper) (d:Bool) (f:AV) (args:List AV) (σ:St) (dst:Option Nat) (ct:Ct) (env:Env) (ks:List Fr) (Q:Exit→Env→St→Prop):Prop :=
 vcFn P G d f args σ (fun v σ'=>kT P G o ops ct (upd env dst v) σ' ks Q)
def kCall (ops:Array Oper) (d:Bool) (g:FuncId) (args:List AV) (σ:St) (dst:Option Nat) (ct:Ct) (env:Env) (ks:List Fr) (Q:Exit→Env→St→Prop):Prop :=
 vcCall P G d g args σ (fun v σ'=>kT P G o ops ct (upd env dst v) σ' ks Q)
def kCd (v:AV) (x y:Code) (env:Env) (σ:St) (ks:List Fr) (Q:Exit→Env→St→Prop):Prop:=match v with
 | .bool b=>(b=true→kC P G o x env σ ks Q)∧(b=false→kC P G o y env σ ks Q)
 | _=>False
def kGv (ops:Array Oper) (d:Bool) (t:Nat) (v:AV) (b:Bool) (op:Op) (dst:Option Nat) (ct:Ct) (env:Env) (σ:St) (ks:List Fr) (Q:Exit→Env→St→Prop):Prop:=match v with
 | .bool c=>((c==b)=true→kO P G o ops d op dst ct (upd env (some t) (.bool b)) σ ks Q)∧((c==b)=false→kT P G o ops ct (upd (upd env (some t) (.bool (!b))) dst (.tup [])) σ ks Q)
 | .tup []=>kT P G o ops ct (upd env dst (.tup [])) σ ks Q
 | _=>False
def kG (ops:Array Oper) (d:Bool) (x:Option Nat) (b:Bool) (op:Op) (dst:Option Nat) (ct:Ct) (env:Env) (σ:St) (ks:List Fr) (Q:Exit→Env→St→Prop):Prop:=match x with
 | some t=>kGv P G o ops d t (env t) b op dst ct env σ ks Q
 | none=>kT P G o ops ct (upd env dst (.tup [])) σ ks Q
def kLoop (c:Code) (env:Env) (σ:St) (ks:List Fr) (Q:Exit→Env→St→Prop):Prop:=vcLoop P G o c env σ (itp P G o ks Q)
def kP (ops:Array Oper) (x:Option Oper) (d:Bool) (ct:Ct) (env:Env) (σ:St) (ks:List Fr) (Q:Exit→Env→St→Prop):Prop:=match x with
 | some u=>vcG P G o.mu d ops u env σ (fun env v σ'=>kT P G o ops ct (upd env u.dst v) σ' ks Q)
 | none=>False
end
section
variable {P:Program} {G:Nat→AV} {o:Opts} {env:Env} {σ:St} {ks:List Fr} {Q:Exit→Env→St→Prop}
@[simp ↓] theorem kC_skip:kC P G o .skip env σ ks Q=kX P G o .normal env σ ks Q:=by simp only [kC,kX,vcC]
@[simp ↓] theorem kC_ret:kC P G o .ret env σ ks Q=kX P G o .ret env σ ks Q:=by simp only [kC,kX,vcC]
@[simp ↓] theorem kC_exit {id:Nat}:kC P G o (.exit id) env σ ks Q=kX P G o (.exit id) env σ ks Q:=by simp only [kC,kX,vcC]
@[simp ↓] theorem kC_seq {x y:Code}:kC P G o (.seq x y) env σ ks Q=kC P G o x env σ (.seq y::ks) Q:=by simp only [kC,vcC,itp]
@[simp ↓] theorem kC_block {id:Nat} {x:Code}:kC P G o (.block id x) env σ ks Q=kC P G o x env σ (.block id::ks) Q:=by simp only [kC,vcC,itp]
@[simp ↓] theorem kC_cond {c:Operand} {x y:Code}:kC P G o (.cond c x y) env σ ks Q=kCd P G o (ev G env c) x y env σ ks Q:=by
 simp only [kC,vcC,kCd,vcIf]
 split<;>simp_all [vcIf]
@[simp ↓] theorem kC_loop {x:Code}:kC P G o (.loop x) env σ ks Q=kLoop P G o x env σ ks Q:=by simp only [kC,kLoop,vcC]<;>rfl
@[simp ↓] theorem kC_region {id:Nat} {l:List Oper}:kC P G o (.region id l.toArray false) env σ ks Q=kT P G o l.toArray (.run false (o.lw.contains id) l) env σ ks Q:=by simp only [kC,kT,vcC]
@[simp ↓ high] theorem kC_region0 {id:Nat} {l:List Oper}:kC P G o0 (.region id l.toArray false) env σ ks Q=kT P G o0 l.toArray (.run false false l) env σ ks Q:=by simp only [kC,kT,vcC];rfl
@[simp ↓ high] theorem kC_regionL {m:Bool} {x:List (Nat×Sch×List Nat)} {y:List (Nat×Nat)} {id:Nat} {l:List Oper}:kC P G ⟨m,x,[],y⟩ (.region id l.toArray false) env σ ks Q=kT P G ⟨m,x,[],y⟩ l.toArray (.run false false l) env σ ks Q:=by simp only [kC,kT,vcC];rfl
@[simp ↓ high] theorem kC_drawL {m:Bool} {y:List (Nat×Nat)} {id:Nat} {l:List Oper}:kC P G ⟨m,[],[],y⟩ (.region id l.toArray true) env σ ks Q=kT P G ⟨m,[],[],y⟩ l.toArray (.run true false l) env σ ks Q:=by simp [kC,kT,vcC]
@[simp ↓] theorem kC_draw0 {id:Nat} {l:List Oper}:kC P G o0 (.region id l.toArray true) env σ ks Q=kT P G o0 l.toArray (.run true false l) env σ ks Q:=by simp [kC,kT,vcC,o0]
theorem kC_draw {id:Nat} {l:List Oper} (h:o.fk.lookup id=none):kC P G o (.region id l.toArray true) env σ ks Q=kT P G o l.toArray (.run true (o.lw.contains id) l) env σ ks Q:=by simp only [kC,kT,vcC,h]
theorem kC_plan {id:Nat} {l:List Oper} {s:Sch} {ac:List Nat} (h:o.fk.lookup id=some (s,ac)):kC P G o (.region id l.toArray true) env σ ks Q=kT P G o l.toArray (.plan ac s) env σ ks Q:=by simp only [kC,kT,vcC,h]
@[simp] theorem kCd_true {x y:Code}:kCd P G o (.bool true) x y env σ ks Q=kC P G o x env σ ks Q:=by simp [kCd]
@[simp] theorem kCd_false {x y:Code}:kCd P G o (.bool false) x y env σ ks Q=kC P G o y env σ ks Q:=by simp [kCd]
@[simp low] theorem kCd_bool {b:Bool} {x y:Code}:kCd P G o (.bool b) x y env σ ks Q=((b=true→kC P G o x env σ ks Q)∧(b=false→kC P G o y env σ ks Q)):=notRfl rfl
@[simp ↓] theorem kX_nil {e:Exit}:kX P G o e env σ [] Q=Q e env σ:=notRfl rfl
@[simp ↓] theorem kX_seq {y:Code}:kX P G o .normal env σ (.seq y::ks) Q=kC P G o y env σ ks Q:=notRfl rfl
@[simp ↓] theorem kX_seq_ret {y:Code}:kX P G o .ret env σ (.seq y::ks) Q=kX P G o .ret env σ ks Q:=notRfl rfl
@[simp ↓] theorem kX_seq_exit {y:Code} {i:Nat}:kX P G o (.exit i) env σ (.seq y::ks) Q=kX P G o (.exit i) env σ ks Q:=notRfl rfl
@[simp ↓] theorem kX_block {id:Nat}:kX P G o .normal env σ (.block id::ks) Q=kX P G o .normal env σ ks Q:=notRfl rfl
@[simp ↓] theorem kX_block_ret {id:Nat}:kX P G o .ret env σ (.block id::ks) Q=kX P G o .ret env σ ks Q:=notRfl rfl
@[simp ↓] theorem kX_block_exit {id i:Nat}:kX P G o (.exit i) env σ (.block id::ks) Q=if i=id then kX P G o .normal env σ ks Q else kX P G o (.exit i) env σ ks Q:=by
 simp only [kX,itp,aBlock]
@[simp ↓] theorem kX_loop {n:Env→St→Prop}:kX P G o .normal env σ (.loop n::ks) Q=n env σ:=notRfl rfl
@[simp ↓] theorem kX_loop_ret {n:Env→St→Prop}:kX P G o .ret env σ (.loop n::ks) Q=kX P G o .ret env σ ks Q:=notRfl rfl
@[simp ↓] theorem kX_loop_exit {n:Env→St→Prop} {i:Nat}:kX P G o (.exit i) env σ (.loop n::ks) Q=kX P G o (.exit i) env σ ks Q:=notRfl rfl
end
section
variable {P:Program} {G:Nat→AV} {o:Opts} {ops:Array Oper} {d lw:Bool} {env:Env} {σ:St} {ks:List Fr} {Q:Exit→Env→St→Prop} {dst:Option Nat} {op:Op} {ct:Ct}
@[simp ↓] theorem kT_nil:kT P G o ops (.run d lw []) env σ ks Q=kX P G o .normal env σ ks Q:=notRfl rfl
@[simp ↓] theorem kT_run {type:TypeId} {pos:String} {after:Array Edge} {rest:List Oper} :
 kT P G o ops (.run d false ({ dst:=dst,op:=op,type:=type,pos:=pos,after:=after,guard:=none }::rest)) env σ ks Q=kO P G o ops d op dst (.run d false rest) env σ ks Q:=by
 simp only [kT,kO];rw [vcR_run]
@[simp ↓] theorem kT_guard {type:TypeId} {pos:String} {after:Array Edge} {rest:List Oper} {j:Nat} {b:Bool} :
 kT P G o ops (.run d false ({ dst:=dst,op:=op,type:=type,pos:=pos,after:=after,guard:=some (j,b) }::rest)) env σ ks Q=kG P G o ops d ((ops[j]?).bind (·.dst)) b op dst (.run d false rest) env σ ks Q:=by
 simp only [kT]
 rw [vcR_guard]
 unfold vcGuard kG
 generalize (ops[j]?).bind (·.dst)=x
 cases x with
 | none=>rfl
 | some t=>
  simp only [kGv]
  generalize env t=v
  cases v with
  | tup vs=>cases vs<;>rfl
  | _=>rfl
@[simp ↓] theorem kT_done {ac:List Nat}:kT P G o ops (.plan ac .done) env σ ks Q=kX P G o .normal env σ ks Q:=by simp only [kT,vcS,kX]
@[simp ↓] theorem kT_step {ac dp:List Nat} {k:Nat} {s:Sch}:kT P G o ops (.plan ac (.step k dp s)) env σ ks Q=kP P G o ops (ops[k]?) (match ops[k]? with | some u=>clsB o.mu ac k u.op != 9 | none=>false) (.plan ac s) env σ ks Q:=by
 simp only [kT,vcS,kP]
 split<;>rename_i h<;>simp [h]
@[simp] theorem kP_run {type:TypeId} {pos:String} {after:Array Edge}:kP P G o ops (some { dst:=dst,op:=op,type:=type,pos:=pos,after:=after,guard:=none }) d ct env σ ks Q=kO P G o ops d op dst ct env σ ks Q:=by
 simp only [kP,vcG,kO]
@[simp] theorem kP_guard {type:TypeId} {pos:String} {after:Array Edge} {j:Nat} {b:Bool}:kP P G o ops (some { dst:=dst,op:=op,type:=type,pos:=pos,after:=after,guard:=some (j,b) }) d ct env σ ks Q=kG P G o ops d ((ops[j]?).bind (·.dst)) b op dst ct env σ ks Q:=by
 simp only [kP,vcG]
 unfold kG
 generalize (ops[j]?).bind (·.dst)=x
 cases x with
 | none=>rfl
 | some t=>
  simp only [kGv]
  generalize env t=v
  cases v with
  | tup vs=>cases vs<;>rfl
  | _=>rfl
@[simp] theorem kG_some {t:Nat} {b:Bool}:kG P G o ops d (some t) b op dst ct env σ ks Q=kGv P G o ops d t (env t) b op dst ct env σ ks Q:=notRfl rfl
@[simp] theorem kG_none {b:Bool}:kG P G o ops d none b op dst ct env σ ks Q=kT P G o ops ct (upd env dst (.tup [])) σ ks Q:=notRfl rfl
@[simp] theorem kGv_off {t:Nat} {b:Bool}:kGv P G o ops d t (.tup []) b op dst ct env σ ks Q=kT P G o ops ct (upd env dst (.tup [])) σ ks Q:=notRfl rfl
@[simp] theorem kGv_tt {t:Nat}:kGv P G o ops d t (.bool true) true op dst ct env σ ks Q=kO P G o ops d op dst ct (upd env (some t) (.bool true)) σ ks Q:=by simp [kGv]
@[simp] theorem kGv_ff {t:Nat}:kGv P G o ops d t (.bool false) false op dst ct env σ ks Q=kO P G o ops d op dst ct (upd env (some t) (.bool false)) σ ks Q:=by simp [kGv]
@[simp] theorem kGv_tf {t:Nat}:kGv P G o ops d t (.bool true) false op dst ct env σ ks Q=kT P G o ops ct (upd (upd env (some t) (.bool true)) dst (.tup [])) σ ks Q:=by simp [kGv]
@[simp] theorem kGv_ft {t:Nat}:kGv P G o ops d t (.bool false) true op dst ct env σ ks Q=kT P G o ops ct (upd (upd env (some t) (.bool false)) dst (.tup [])) σ ks Q:=by simp [kGv]
@[simp low] theorem kGv_true {t:Nat} {c:Bool}:kGv P G o ops d t (.bool c) true op dst ct env σ ks Q=((c=true→kO P G o ops d op dst ct (upd env (some t) (.bool true)) σ ks Q)∧(c=false→kT P G o ops ct (upd (upd env (some t) (.bool false)) dst (.tup [])) σ ks Q)):=by simp [kGv]
@[simp low] theorem kGv_false {t:Nat} {c:Bool}:kGv P G o ops d t (.bool c) false op dst ct env σ ks Q=((c=false→kO P G o ops d op dst ct (upd env (some t) (.bool false)) σ ks Q)∧(c=true→kT P G o ops ct (upd (upd env (some t) (.bool true)) dst (.tup [])) σ ks Q)):=by simp [kGv]
@[simp] theorem kS_some {v:AV} {σ:St}:kS P G o ops (some (v,σ)) dst ct env ks Q=kT P G o ops ct (upd env dst v) σ ks Q:=notRfl rfl
@[simp] theorem kS_none:kS P G o ops none dst ct env ks Q=False:=notRfl rfl
@[simp] theorem kY_none {x:Option (AV×St)}:kY P G o ops none x dst ct env ks Q=kS P G o ops x dst ct env ks Q:=by simp only [kY,kS];rw [vcX_none]
@[simp] theorem kY_nil {x:Option (AV×St)}:kY P G o ops (some []) x dst ct env ks Q=True:=by simp only [kY];rw [vcX_nil]
@[simp] theorem kY_one {v:AV} {τ:St} {x:Option (AV×St)}:kY P G o ops (some [(v,τ)]) x dst ct env ks Q=kT P G o ops ct (upd env dst v) τ ks Q:=by simp only [kY];rw [vcX_one]
@[simp] theorem kY_two {v v':AV} {τ τ':St} {x:Option (AV×St)}:kY P G o ops (some [(v,τ),(v',τ')]) x dst ct env ks Q=(kT P G o ops ct (upd env dst v) τ ks Q∧kT P G o ops ct (upd env dst v') τ' ks Q):=by simp only [kY];rw [vcX_two]
@[simp] theorem kFn_fn {g:FuncId} {first args cap:List AV}:kFn P G o ops d (.fn g first cap) args σ dst ct env ks Q=kCall P G o ops d g (callArgs first args cap) σ dst ct env ks Q:=notRfl rfl
@[simp ↓] theorem kO_call {f:Operand} {a:Array Operand} {t:Array TypeId}:kO P G o ops d (.call { callee:=.value f,args:=a,argTypes:=t }) dst ct env σ ks Q=kFn P G o ops d (ev G env f) (opds G env a.toList) σ dst ct env ks Q:=notRfl rfl
@[simp ↓] theorem kO_move {x:Operand}:kO P G o ops d (.move x) dst ct env σ ks Q=kS P G o ops (sem (Dof P) G env σ (.move x)) dst ct env ks Q:=by simp only [kO,kS];rw [vcOp_move]
@[simp ↓] theorem kO_assign {x:Operand}:kO P G o ops d (.assign x) dst ct env σ ks Q=kS P G o ops (sem (Dof P) G env σ (.assign x)) dst ct env ks Q:=by simp only [kO,kS];rw [vcOp_assign]
@[simp ↓] theorem kO_pick {a b c:Operand}:kO P G o ops d (.pick a b c) dst ct env σ ks Q=kS P G o ops (sem (Dof P) G env σ (.pick a b c)) dst ct env ks Q:=by simp only [kO,kS];rw [vcOp_pick]
@[simp ↓] theorem kO_alloc {t:TypeId}:kO P G o ops d (.alloc t) dst ct env σ ks Q=kS P G o ops (sem (Dof P) G env σ (.alloc t)) dst ct env ks Q:=by simp only [kO,kS];rw [vcOp_alloc]
@[simp ↓] theorem kO_box {t:TypeId} {x:Operand}:kO P G o ops d (.box t x) dst ct env σ ks Q=kS P G o ops (sem (Dof P) G env σ (.box t x)) dst ct env ks Q:=by simp only [kO,kS];rw [vcOp_box]
@[simp ↓] theorem kO_build {t:TypeId} {p:Array (Nat×Operand)}:kO P G o ops d (.build t p) dst ct env σ ks Q=kS P G o ops (sem (Dof P) G env σ (.build t p)) dst ct env ks Q:=by simp only [kO,kS];rw [vcOp_build]
@[simp ↓] theorem kO_buildSlice {t:TypeId} {n:Nat} {p:Array (Nat×Operand)}:kO P G o ops d (.buildSlice t n p) dst ct env σ ks Q=kS P G o ops (sem (Dof P) G env σ (.buildSlice t n p)) dst ct env ks Q:=by simp only [kO,kS];rw [vcOp_buildSlice]
@[simp ↓] theorem kO_load {t:TypeId} {x:Operand}:kO P G o ops d (.load t x) dst ct env σ ks Q=kS P G o ops (sem (Dof P) G env σ (.load t x)) dst ct env ks Q:=by simp only [kO,kS];rw [vcOp_load]
@[simp ↓] theorem kO_store {t:TypeId} {x y:Operand}:kO P G o ops d (.store t x y) dst ct env σ ks Q=kS P G o ops (sem (Dof P) G env σ (.store t x y)) dst ct env ks Q:=by simp only [kO,kS];rw [vcOp_store]
@[simp ↓] theorem kO_nilCheck {x:Operand}:kO P G o ops d (.nilCheck x) dst ct env σ ks Q=kS P G o ops (sem (Dof P) G env σ (.nilCheck x)) dst ct env ks Q:=by simp only [kO,kS];rw [vcOp_nilCheck]
@[simp ↓] theorem kO_binOp {b:BinOp} {t u:TypeId} {x y:Operand} (h:b≠.eql) (h':b≠.neq):kO P G o ops d (.binOp b t x y u) dst ct env σ ks Q=kS P G o ops (sem (Dof P) G env σ (.binOp b t x y u)) dst ct env ks Q:=by simp only [kO,kS];rw [vcOp_binOp h h']
@[simp ↓] theorem kO_eql {t u:TypeId} {x y:Operand}:kO P G o ops d (.binOp .eql t x y u) dst ct env σ ks Q=kY P G o ops (nilOr d false (Dof P) t (ev G env x) (ev G env y) σ) (sem (Dof P) G env σ (.binOp .eql t x y u)) dst ct env ks Q:=by simp only [kO,kY];rw [vcOp_eql]
@[simp ↓] theorem kO_neq {t u:TypeId} {x y:Operand}:kO P G o ops d (.binOp .neq t x y u) dst ct env σ ks Q=kY P G o ops (nilOr d true (Dof P) t (ev G env x) (ev G env y) σ) (sem (Dof P) G env σ (.binOp .neq t x y u)) dst ct env ks Q:=by simp only [kO,kY];rw [vcOp_neq]
@[simp ↓] theorem kO_unOp {u:UnOp} {t:TypeId} {x:Operand}:kO P G o ops d (.unOp u t x) dst ct env σ ks Q=kS P G o ops (sem (Dof P) G env σ (.unOp u t x)) dst ct env ks Q:=by simp only [kO,kS];rw [vcOp_unOp]
@[simp ↓] theorem kO_convert {t u:TypeId} {x:Operand}:kO P G o ops d (.convert t u x) dst ct env σ ks Q=kS P G o ops (sem (Dof P) G env σ (.convert t u x)) dst ct env ks Q:=by simp only [kO,kS];rw [vcOp_convert]
@[simp ↓] theorem kO_makeFunc {f:Fn} {a b:Array Operand}:kO P G o ops d (.makeFunc f a b) dst ct env σ ks Q=kS P G o ops (sem (Dof P) G env σ (.makeFunc f a b)) dst ct env ks Q:=by simp only [kO,kS];rw [vcOp_makeFunc]
@[simp ↓] theorem kO_makeMap {t:TypeId} {r:Option Operand}:kO P G o ops d (.makeMap t r) dst ct env σ ks Q=kS P G o ops (sem (Dof P) G env σ (.makeMap t r)) dst ct env ks Q:=by simp only [kO,kS];rw [vcOp_makeMap]
@[simp ↓] theorem kO_makeSlice {t:TypeId} {x y:Operand}:kO P G o ops d (.makeSlice t x y) dst ct env σ ks Q=kS P G o ops (sem (Dof P) G env σ (.makeSlice t x y)) dst ct env ks Q:=by simp only [kO,kS];rw [vcOp_makeSlice]
@[simp ↓] theorem kO_slice {t:TypeId} {x:Operand} {lo hi mx:Option Operand}:kO P G o ops d (.slice t x lo hi mx) dst ct env σ ks Q=kS P G o ops (sem (Dof P) G env σ (.slice t x lo hi mx)) dst ct env ks Q:=by simp only [kO,kS];rw [vcOp_slice]
@[simp ↓] theorem kO_fieldAddr {t:TypeId} {x:Operand} {i:Nat}:kO P G o ops d (.fieldAddr t x i) dst ct env σ ks Q=kS P G o ops (sem (Dof P) G env σ (.fieldAddr t x i)) dst ct env ks Q:=by simp only [kO,kS];rw [vcOp_fieldAddr]
@[simp ↓] theorem kO_field {t:TypeId} {x:Operand} {i:Nat}:kO P G o ops d (.field t x i) dst ct env σ ks Q=kS P G o ops (sem (Dof P) G env σ (.field t x i)) dst ct env ks Q:=by simp only [kO,kS];rw [vcOp_field]
@[simp ↓] theorem kO_indexAddr {t:TypeId} {x y:Operand}:kO P G o ops d (.indexAddr t x y) dst ct env σ ks Q=kS P G o ops (sem (Dof P) G env σ (.indexAddr t x y)) dst ct env ks Q:=by simp only [kO,kS];rw [vcOp_indexAddr]
@[simp ↓] theorem kO_index {t:TypeId} {x y:Operand}:kO P G o ops d (.index t x y) dst ct env σ ks Q=kS P G o ops (sem (Dof P) G env σ (.index t x y)) dst ct env ks Q:=by simp only [kO,kS];rw [vcOp_index]
@[simp ↓] theorem kO_lookup {t:TypeId} {x y:Operand} {k:Bool}:kO P G o ops d (.lookup t x y k) dst ct env σ ks Q=kS P G o ops (sem (Dof P) G env σ (.lookup t x y k)) dst ct env ks Q:=by simp only [kO,kS];rw [vcOp_lookup]
@[simp ↓] theorem kO_mapUpdate {t:TypeId} {x y z:Operand}:kO P G o ops d (.mapUpdate t x y z) dst ct env σ ks Q=kS P G o ops (sem (Dof P) G env σ (.mapUpdate t x y z)) dst ct env ks Q:=by simp only [kO,kS];rw [vcOp_mapUpdate]
@[simp ↓] theorem kO_range {t:TypeId} {x:Operand}:kO P G o ops d (.range t x) dst ct env σ ks Q=kS P G o ops (sem (Dof P) G env σ (.range t x)) dst ct env ks Q:=by simp only [kO,kS];rw [vcOp_range]
@[simp ↓] theorem kO_next {x:Operand}:kO P G o ops d (.next x true) dst ct env σ ks Q=kS P G o ops (sem (Dof P) G env σ (.next x true)) dst ct env ks Q:=by simp only [kO,kS];rw [vcOp_next]
@[simp ↓] theorem kO_mnext {x:Operand}:kO P G o ops false (.next x false) dst ct env σ ks Q=kY P G o ops (nextsA σ (ev G env x)) none dst ct env ks Q:=by simp only [kO,kY];rw [vcOp_mnext]
@[simp ↓] theorem kO_entry {x:Operand}:kO P G o ops false (.entry x) dst ct env σ ks Q=kY P G o ops ((entryA σ (ev G env x)).map fun v=>[(v,σ)]) none dst ct env ks Q:=by simp only [kO,kY];rw [vcOp_entry]
@[simp ↓] theorem kO_insert {t:TypeId} {m k v:Operand}:kO P G o ops false (.insert t m k v) dst ct env σ ks Q=kY P G o ops ((mapUpdateA (Dof P) σ t (ev G env m) (ev G env k) (ev G env v)).map fun σ'=>[(.tup [],σ')]) none dst ct env ks Q:=by simp only [kO,kY];rw [vcOp_insert]
@[simp ↓] theorem kO_extract {x:Operand} {i:Nat}:kO P G o ops d (.extract x i) dst ct env σ ks Q=kS P G o ops (sem (Dof P) G env σ (.extract x i)) dst ct env ks Q:=by simp only [kO,kS];rw [vcOp_extract]
@[simp ↓] theorem kO_len {a:Array Operand} {t:Array TypeId}:kO P G o ops d (.call { callee:=.builtin .len,args:=a,argTypes:=t }) dst ct env σ ks Q=kS P G o ops (sem (Dof P) G env σ (.call { callee:=.builtin .len,args:=a,argTypes:=t })) dst ct env ks Q:=by simp only [kO,kS];rw [vcOp_len]
@[simp ↓] theorem kO_min {a:Array Operand} {t:Array TypeId}:kO P G o ops d (.call { callee:=.builtin .min,args:=a,argTypes:=t }) dst ct env σ ks Q=kS P G o ops (sem (Dof P) G env σ (.call { callee:=.builtin .min,args:=a,argTypes:=t })) dst ct env ks Q:=by simp only [kO,kS];rw [vcOp_min]
@[simp ↓] theorem kO_max {a:Array Operand} {t:Array TypeId}:kO P G o ops d (.call { callee:=.builtin .max,args:=a,argTypes:=t }) dst ct env σ ks Q=kS P G o ops (sem (Dof P) G env σ (.call { callee:=.builtin .max,args:=a,argTypes:=t })) dst ct env ks Q:=by simp only [kO,kS];rw [vcOp_max]
@[simp ↓] theorem kO_append {a:Array Operand} {t:Array TypeId} (hmu:o.mu=false):kO P G o ops d (.call { callee:=.builtin .append,args:=a,argTypes:=t }) dst ct env σ ks Q=kS P G o ops (sem (Dof P) G env σ (.call { callee:=.builtin .append,args:=a,argTypes:=t })) dst ct env ks Q:=by simp only [kO,kS,hmu];rw [vcOp_append]
@[simp ↓] theorem kO_appendM {s x:Operand} {t u:TypeId} (hmu:o.mu=true):kO P G o ops false (.call { callee:=.builtin .append,args:=#[s,x],argTypes:=#[t,u] }) dst ct env σ ks Q=kY P G o ops ((appendX (Dof P) σ t u (ev G env s) (ev G env x)).map fun p=>[p]) (sem (Dof P) G env σ (.call { callee:=.builtin .append,args:=#[s,x],argTypes:=#[t,u] })) dst ct env ks Q:=by simp only [kO,kY,hmu];rw [vcOp_appendM]
@[simp ↓] theorem kO_clear {x:Operand} {t:TypeId}:kO P G o ops false (.call { callee:=.builtin .clear,args:=#[x],argTypes:=#[t] }) dst ct env σ ks Q=kY P G o ops ((clearA (Dof P) σ t (ev G env x)).map fun σ'=>[(.tup [],σ')]) none dst ct env ks Q:=by simp only [kO,kY];rw [vcOp_clear]
@[simp ↓] theorem kO_cap {x:Operand} {t:TypeId}:kO P G o ops false (.call { callee:=.builtin .cap,args:=#[x],argTypes:=#[t] }) dst ct env σ ks Q=kY P G o ops ((capA (Dof P) t (ev G env x)).map fun v=>[(v,σ)]) none dst ct env ks Q:=by simp only [kO,kY];rw [vcOp_cap]
@[simp ↓] theorem kO_appendF {x:List (Nat×Sch×List Nat)} {lw:List Nat} {y:List (Nat×Nat)} {a:Array Operand} {t:Array TypeId}:kO P G ⟨false,x,lw,y⟩ ops d (.call { callee:=.builtin .append,args:=a,argTypes:=t }) dst ct env σ ks Q=kS P G ⟨false,x,lw,y⟩ ops (sem (Dof P) G env σ (.call { callee:=.builtin .append,args:=a,argTypes:=t })) dst ct env ks Q:=kO_append rfl
@[simp ↓] theorem kO_appendT {x:List (Nat×Sch×List Nat)} {lw:List Nat} {y:List (Nat×Nat)} {s z:Operand} {t u:TypeId}:kO P G ⟨true,x,lw,y⟩ ops false (.call { callee:=.builtin .append,args:=#[s,z],argTypes:=#[t,u] }) dst ct env σ ks Q=kY P G ⟨true,x,lw,y⟩ ops ((appendX (Dof P) σ t u (ev G env s) (ev G env z)).map fun p=>[p]) (sem (Dof P) G env σ (.call { callee:=.builtin .append,args:=#[s,z],argTypes:=#[t,u] })) dst ct env ks Q:=kO_appendM rfl
@[simp ↓] theorem kO_append0 {a:Array Operand} {t:Array TypeId}:kO P G o0 ops d (.call { callee:=.builtin .append,args:=a,argTypes:=t }) dst ct env σ ks Q=kS P G o0 ops (sem (Dof P) G env σ (.call { callee:=.builtin .append,args:=a,argTypes:=t })) dst ct env ks Q:=kO_append rfl
end
section
@[simp] theorem atom_any  : AV.atom (.any)=false:=rfl
@[simp] theorem acells_anyB  : acells (.any)=none:=rfl
@[simp] theorem pl1_any  : pl1 (.any)=.any:=rfl
@[simp] theorem pl2_any  : pl2 (.any)=.any:=rfl
@[simp] theorem plain_any  : plain (.any)=.any:=rfl
@[simp] theorem fin1_any  {H:List Blk}:fin1 H (.any)=.any:=rfl
@[simp] theorem fin2_any  {H:List Blk}:fin2 H (.any)=.any:=rfl
@[simp] theorem fin_any  {H:List Blk}:fin H (.any)=.any:=rfl
@[simp] theorem atom_bool {b:Bool}:AV.atom (.bool b)=true:=rfl
@[simp] theorem acells_boolB {b:Bool}:acells (.bool b)=some [.bool b]:=rfl
@[simp] theorem pl1_bool {b:Bool}:pl1 (.bool b)=.bool b:=rfl
@[simp] theorem pl2_bool {b:Bool}:pl2 (.bool b)=.bool b:=rfl
@[simp] theorem plain_bool {b:Bool}:plain (.bool b)=.bool b:=rfl
@[simp] theorem fin1_bool {b:Bool} {H:List Blk}:fin1 H (.bool b)=.bool b:=rfl
@[simp] theorem fin2_bool {b:Bool} {H:List Blk}:fin2 H (.bool b)=.bool b:=rfl
@[simp] theorem fin_bool {b:Bool} {H:List Blk}:fin H (.bool b)=.bool b:=rfl
@[simp] theorem atom_int {k:IntKind} {n:Int}:AV.atom (.int k n)=true:=rfl
@[simp] theorem acells_intB {k:IntKind} {n:Int}:acells (.int k n)=some [.int k n]:=rfl
@[simp] theorem pl1_int {k:IntKind} {n:Int}:pl1 (.int k n)=.int k n:=rfl
@[simp] theorem pl2_int {k:IntKind} {n:Int}:pl2 (.int k n)=.int k n:=rfl
@[simp] theorem plain_int {k:IntKind} {n:Int}:plain (.int k n)=.int k n:=rfl
@[simp] theorem fin1_int {k:IntKind} {n:Int} {H:List Blk}:fin1 H (.int k n)=.int k n:=rfl
@[simp] theorem fin2_int {k:IntKind} {n:Int} {H:List Blk}:fin2 H (.int k n)=.int k n:=rfl
@[simp] theorem fin_int {k:IntKind} {n:Int} {H:List Blk}:fin H (.int k n)=.int k n:=rfl
@[simp] theorem atom_str {s:List UInt8}:AV.atom (.str s)=true:=rfl
@[simp] theorem acells_strB {s:List UInt8}:acells (.str s)=some [.str s]:=rfl
@[simp] theorem pl1_str {s:List UInt8}:pl1 (.str s)=.str s:=rfl
@[simp] theorem pl2_str {s:List UInt8}:pl2 (.str s)=.str s:=rfl
@[simp] theorem plain_str {s:List UInt8}:plain (.str s)=.str s:=rfl
@[simp] theorem fin1_str {s:List UInt8} {H:List Blk}:fin1 H (.str s)=.str s:=rfl
@[simp] theorem fin2_str {s:List UInt8} {H:List Blk}:fin2 H (.str s)=.str s:=rfl
@[simp] theorem fin_str {s:List UInt8} {H:List Blk}:fin H (.str s)=.str s:=rfl
@[simp] theorem atom_nilp  : AV.atom (.nilp)=true:=rfl
@[simp] theorem acells_nilpB  : acells (.nilp)=some [.nilp]:=rfl
@[simp] theorem pl1_nilp  : pl1 (.nilp)=.nilp:=rfl
@[simp] theorem pl2_nilp  : pl2 (.nilp)=.nilp:=rfl
@[simp] theorem plain_nilp  : plain (.nilp)=.nilp:=rfl
@[simp] theorem fin1_nilp  {H:List Blk}:fin1 H (.nilp)=.nilp:=rfl
@[simp] theorem fin2_nilp  {H:List Blk}:fin2 H (.nilp)=.nilp:=rfl
@[simp] theorem fin_nilp  {H:List Blk}:fin H (.nilp)=.nilp:=rfl
@[simp] theorem atom_ptr {b o:Nat}:AV.atom (.ptr b o)=true:=rfl
@[simp] theorem acells_ptrB {b o:Nat}:acells (.ptr b o)=some [.ptr b o]:=rfl
@[simp] theorem pl1_ptr {b o:Nat}:pl1 (.ptr b o)=.ptr b o:=rfl
@[simp] theorem pl2_ptr {b o:Nat}:pl2 (.ptr b o)=.ptr b o:=rfl
@[simp] theorem plain_ptr {b o:Nat}:plain (.ptr b o)=.ptr b o:=rfl
@[simp] theorem fin1_ptr {b o:Nat} {H:List Blk}:fin1 H (.ptr b o)=.ptr b o:=rfl
@[simp] theorem fin2_ptr {b o:Nat} {H:List Blk}:fin2 H (.ptr b o)=.ptr b o:=rfl
@[simp] theorem fin_ptr {b o:Nat} {H:List Blk}:fin H (.ptr b o)=.ptr b o:=rfl
@[simp] theorem atom_rptr {c:List AV}:AV.atom (.rptr c)=true:=rfl
@[simp] theorem acells_rptrB {c:List AV}:acells (.rptr c)=some [.rptr c]:=rfl
@[simp] theorem pl1_rptr {c:List AV}:pl1 (.rptr c)=.rptr c:=rfl
@[simp] theorem pl2_rptr {c:List AV}:pl2 (.rptr c)=.rptr c:=rfl
@[simp] theorem plain_rptr {c:List AV}:plain (.rptr c)=.rptr c:=rfl
@[simp] theorem fin1_rptr {c:List AV} {H:List Blk}:fin1 H (.rptr c)=.rptr c:=rfl
@[simp] theorem fin2_rptr {c:List AV} {H:List Blk}:fin2 H (.rptr c)=.rptr c:=rfl
@[simp] theorem fin_rptr {c:List AV} {H:List Blk}:fin H (.rptr c)=.rptr c:=rfl
@[simp] theorem atom_nilm  : AV.atom (.nilm)=true:=rfl
@[simp] theorem acells_nilmB  : acells (.nilm)=some [.nilm]:=rfl
@[simp] theorem pl1_nilm  : pl1 (.nilm)=.nilm:=rfl
@[simp] theorem pl2_nilm  : pl2 (.nilm)=.nilm:=rfl
@[simp] theorem plain_nilm  : plain (.nilm)=.nilm:=rfl
@[simp] theorem fin1_nilm  {H:List Blk}:fin1 H (.nilm)=.nilm:=rfl
@[simp] theorem fin2_nilm  {H:List Blk}:fin2 H (.nilm)=.nilm:=rfl
@[simp] theorem fin_nilm  {H:List Blk}:fin H (.nilm)=.nilm:=rfl
@[simp] theorem atom_map {b:Nat}:AV.atom (.map b)=true:=rfl
@[simp] theorem acells_mapB {b:Nat}:acells (.map b)=some [.map b]:=rfl
@[simp] theorem pl1_map {b:Nat}:pl1 (.map b)=.map b:=rfl
@[simp] theorem pl2_map {b:Nat}:pl2 (.map b)=.map b:=rfl
@[simp] theorem plain_map {b:Nat}:plain (.map b)=.map b:=rfl
@[simp] theorem fin1_map {b:Nat} {H:List Blk}:fin1 H (.map b)=.map b:=rfl
@[simp] theorem fin2_map {b:Nat} {H:List Blk}:fin2 H (.map b)=.map b:=rfl
@[simp] theorem fin_map {b:Nat} {H:List Blk}:fin H (.map b)=.map b:=rfl
@[simp] theorem atom_iter {b:Nat}:AV.atom (.iter b)=true:=rfl
@[simp] theorem acells_iterB {b:Nat}:acells (.iter b)=some [.iter b]:=rfl
@[simp] theorem pl1_iter {b:Nat}:pl1 (.iter b)=.iter b:=rfl
@[simp] theorem pl2_iter {b:Nat}:pl2 (.iter b)=.iter b:=rfl
@[simp] theorem plain_iter {b:Nat}:plain (.iter b)=.iter b:=rfl
@[simp] theorem fin1_iter {b:Nat} {H:List Blk}:fin1 H (.iter b)=.iter b:=rfl
@[simp] theorem fin2_iter {b:Nat} {H:List Blk}:fin2 H (.iter b)=.iter b:=rfl
@[simp] theorem fin_iter {b:Nat} {H:List Blk}:fin H (.iter b)=.iter b:=rfl
@[simp] theorem atom_fn {f:FuncId} {a c:List AV}:AV.atom (.fn f a c)=true:=rfl
@[simp] theorem acells_fnB {f:FuncId} {a c:List AV}:acells (.fn f a c)=some [.fn f a c]:=rfl
@[simp] theorem pl1_fn {f:FuncId} {a c:List AV}:pl1 (.fn f a c)=.fn f a c:=rfl
@[simp] theorem pl2_fn {f:FuncId} {a c:List AV}:pl2 (.fn f a c)=.fn f a c:=rfl
@[simp] theorem plain_fn {f:FuncId} {a c:List AV}:plain (.fn f a c)=.fn f a c:=rfl
@[simp] theorem fin1_fn {f:FuncId} {a c:List AV} {H:List Blk}:fin1 H (.fn f a c)=.fn f a c:=rfl
@[simp] theorem fin2_fn {f:FuncId} {a c:List AV} {H:List Blk}:fin2 H (.fn f a c)=.fn f a c:=rfl
@[simp] theorem fin_fn {f:FuncId} {a c:List AV} {H:List Blk}:fin H (.fn f a c)=.fn f a c:=rfl
@[simp] theorem atom_nilf  : AV.atom (.nilf)=true:=rfl
@[simp] theorem acells_nilfB  : acells (.nilf)=some [.nilf]:=rfl
@[simp] theorem pl1_nilf  : pl1 (.nilf)=.nilf:=rfl
@[simp] theorem pl2_nilf  : pl2 (.nilf)=.nilf:=rfl
@[simp] theorem plain_nilf  : plain (.nilf)=.nilf:=rfl
@[simp] theorem fin1_nilf  {H:List Blk}:fin1 H (.nilf)=.nilf:=rfl
@[simp] theorem fin2_nilf  {H:List Blk}:fin2 H (.nilf)=.nilf:=rfl
@[simp] theorem fin_nilf  {H:List Blk}:fin H (.nilf)=.nilf:=rfl
@[simp] theorem atom_sl {sz:Nat} {rows:List (List AV)} {tok:Tok}:AV.atom (.sl sz rows tok)=true:=rfl
@[simp] theorem acells_slB {sz:Nat} {rows:List (List AV)} {tok:Tok}:acells (.sl sz rows tok)=some [.sl sz rows tok]:=rfl
@[simp] theorem pl1_sl_none {sz:Nat} {rows:List (List AV)}  : pl1 (.sl sz rows .none)=.sl sz rows .none:=rfl
@[simp] theorem pl2_sl_none {sz:Nat} {rows:List (List AV)}  : pl2 (.sl sz rows .none)=.sl sz rows .none:=rfl
@[simp] theorem plain_sl_none {sz:Nat} {rows:List (List AV)}  : plain (.sl sz rows .none)=.sl sz rows .none:=rfl
@[simp] theorem fin1_sl_none {sz:Nat} {rows:List (List AV)}  {H:List Blk}:fin1 H (.sl sz rows .none)=.sl sz rows .none:=rfl
@[simp] theorem fin2_sl_none {sz:Nat} {rows:List (List AV)}  {H:List Blk}:fin2 H (.sl sz rows .none)=.sl sz rows .none:=rfl
@[simp] theorem fin_sl_none {sz:Nat} {rows:List (List AV)}  {H:List Blk}:fin H (.sl sz rows .none)=.sl sz rows .none:=rfl
@[simp] theorem pl1_sl_nil {sz:Nat} {rows:List (List AV)}  : pl1 (.sl sz rows .nil)=.sl sz rows .nil:=rfl
@[simp] theorem pl2_sl_nil {sz:Nat} {rows:List (List AV)}  : pl2 (.sl sz rows .nil)=.sl sz rows .nil:=rfl
@[simp] theorem plain_sl_nil {sz:Nat} {rows:List (List AV)}  : plain (.sl sz rows .nil)=.sl sz rows .nil:=rfl
@[simp] theorem fin1_sl_nil {sz:Nat} {rows:List (List AV)}  {H:List Blk}:fin1 H (.sl sz rows .nil)=.sl sz rows .nil:=rfl
@[simp] theorem fin2_sl_nil {sz:Nat} {rows:List (List AV)}  {H:List Blk}:fin2 H (.sl sz rows .nil)=.sl sz rows .nil:=rfl
@[simp] theorem fin_sl_nil {sz:Nat} {rows:List (List AV)}  {H:List Blk}:fin H (.sl sz rows .nil)=.sl sz rows .nil:=rfl
@[simp] theorem pl1_sl_tight {sz:Nat} {rows:List (List AV)}  : pl1 (.sl sz rows .tight)=.sl sz rows .tight:=rfl
@[simp] theorem pl2_sl_tight {sz:Nat} {rows:List (List AV)}  : pl2 (.sl sz rows .tight)=.sl sz rows .tight:=rfl
@[simp] theorem plain_sl_tight {sz:Nat} {rows:List (List AV)}  : plain (.sl sz rows .tight)=.sl sz rows .tight:=rfl
@[simp] theorem fin1_sl_tight {sz:Nat} {rows:List (List AV)}  {H:List Blk}:fin1 H (.sl sz rows .tight)=.sl sz rows .tight:=rfl
@[simp] theorem fin2_sl_tight {sz:Nat} {rows:List (List AV)}  {H:List Blk}:fin2 H (.sl sz rows .tight)=.sl sz rows .tight:=rfl
@[simp] theorem fin_sl_tight {sz:Nat} {rows:List (List AV)}  {H:List Blk}:fin H (.sl sz rows .tight)=.sl sz rows .tight:=rfl
@[simp] theorem pl1_sl_chain {sz:Nat} {rows:List (List AV)} {t k:Nat}:pl1 (.sl sz rows (.chain t k))=.sl sz rows .none:=rfl
@[simp] theorem pl2_sl_chain {sz:Nat} {rows:List (List AV)} {t k:Nat}:pl2 (.sl sz rows (.chain t k))=.sl sz rows .none:=rfl
@[simp] theorem plain_sl_chain {sz:Nat} {rows:List (List AV)} {t k:Nat}:plain (.sl sz rows (.chain t k))=.sl sz rows .none:=rfl
@[simp] theorem fin1_sl_chain {sz:Nat} {rows:List (List AV)} {t k:Nat} {H:List Blk}:fin1 H (.sl sz rows (.chain t k))=.sl sz rows .none:=rfl
@[simp] theorem fin2_sl_chain {sz:Nat} {rows:List (List AV)} {t k:Nat} {H:List Blk}:fin2 H (.sl sz rows (.chain t k))=.sl sz rows .none:=rfl
@[simp] theorem fin_sl_chain {sz:Nat} {rows:List (List AV)} {t k:Nat} {H:List Blk}:fin H (.sl sz rows (.chain t k))=.sl sz rows .none:=rfl
@[simp] theorem atom_ms {b o l z:Nat}:AV.atom (.ms b o l z)=true:=rfl
@[simp] theorem acells_msB {b o l z:Nat}:acells (.ms b o l z)=some [.ms b o l z]:=rfl
@[simp] theorem pl1_ms {b o l z:Nat}:pl1 (.ms b o l z)=.ms b o l z:=rfl
@[simp] theorem pl2_ms {b o l z:Nat}:pl2 (.ms b o l z)=.ms b o l z:=rfl
@[simp] theorem plain_ms {b o l z:Nat}:plain (.ms b o l z)=.ms b o l z:=rfl
@[simp] theorem atom_agg {c:List AV}:AV.atom (.agg c)=false:=rfl
@[simp] theorem atom_tup {c:List AV}:AV.atom (.tup c)=false:=rfl
@[simp] theorem acells_aggB {c:List AV}:acells (.agg c)=if c.all AV.atom=true then some c else none:=rfl
@[simp] theorem acells_tup {c:List AV}:acells (.tup c)=none:=rfl
@[simp] theorem pl2_agg {c:List AV}:pl2 (.agg c)=.agg (c.map pl1):=rfl
@[simp] theorem plain_agg {c:List AV}:plain (.agg c)=.agg (c.map pl1):=rfl
@[simp] theorem fin2_agg {c:List AV} {H:List Blk}:fin2 H (.agg c)=.agg (c.map (fin1 H)):=rfl
@[simp] theorem fin_agg {c:List AV} {H:List Blk}:fin H (.agg c)=.agg (c.map (fin1 H)):=rfl
@[simp] theorem plain_tup {c:List AV}:plain (.tup c)=.tup (c.map pl2):=rfl
@[simp] theorem fin_tup {c:List AV} {H:List Blk}:fin H (.tup c)=.tup (c.map (fin2 H)):=rfl
end
attribute [simp] List.getElem?_cons_zero List.getElem?_cons_succ
attribute [simp] buildA fillA stPlace buildSliceA rowsFill rowsOf nilFits plainTD TD.isSl TD.isPtr TD.isMap TD.isFn
section
variable {A t:List Blk} {k:Nat} {x:Blk}
@[simp] theorem at_app0:(A++t)[A.length]?=t[0]? := by rw [List.getElem?_append_right (Nat.le_refl _),Nat.sub_self]
@[simp] theorem at_appk:(A++t)[A.length+k]?=t[k]? := by rw [List.getElem?_append_right (by omega)];congr 1;try omega
@[simp] theorem set_app0:(A++t).set A.length x=A++t.set 0 x:=by rw [List.set_append_right _ _ (Nat.le_refl _),Nat.sub_self]
@[simp] theorem set_appk:(A++t).set (A.length+k) x=A++t.set k x:=by rw [List.set_append_right _ _ (by omega)];congr 2;try omega
theorem at_set (b:Nat) (y:Blk) (t:List Blk):(A.set b y++t)[A.length]?=t[0]? := by rw [List.getElem?_append_right (by simp),List.length_set,Nat.sub_self]
theorem look_app (h:A[k]?=some x) (t:List Blk):(A++t)[k]?=some x:=by rw [List.getElem?_append_left (List.getElem?_eq_some_iff.1 h).1,h]
theorem set_left {b:Nat} (h:A[b]?=some x) (t:List Blk) (y:Blk):(A++t).set b y=A.set b y++t:=List.set_append_left _ _ (List.getElem?_eq_some_iff.1 h).1
end
section
variable {P:Program} {G:Nat→AV} {σ:St} {f:FuncId} {args:List AV} {r:AV}
theorem Pure.kO {fn : Func} {c : Code} (o : Opts) (deep : Bool) (hm : P.follows .mixedOrders = true) (hf : P.funcs[f]? = some fn) (hb : fn.body = some c) (hk : (codeOk fn.ntmps o c && decide (args.length ≤ fn.ntmps) && fn.name != "runtime.NumGoroutine") = true)
 (h:kC P G o c (envOf args) ⟨[],[]⟩ [] (fnPost P deep fn.results.toList r)):Pure P G f args r:=Pure.vcO o deep hm hf hb hk h
theorem Pure.k {fn : Func} {c : Code} (hm : P.follows .mixedOrders = true) (hf : P.funcs[f]? = some fn) (hb : fn.body = some c) (hk : (codeOk fn.ntmps o0 c && decide (args.length ≤ fn.ntmps) && fn.name != "runtime.NumGoroutine") = true)
 (h:kC P G o0 c (envOf args) ⟨[],[]⟩ [] (fnPost P false fn.results.toList r)):Pure P G f args r:=Pure.vc hm hf hb hk h
theorem ACall.kO {fn : Func} {c : Code} {Q : AV → St → Prop} (o : Opts) (hm : P.follows .mixedOrders = true) (hf : P.funcs[f]? = some fn) (hb : fn.body = some c) (hk : (codeOk fn.ntmps o c && decide (args.length ≤ fn.ntmps) && fn.name != "runtime.NumGoroutine") = true)
 (h:kC P G o c (envOf args) σ [] (acPost P fn.results.toList Q)):ACall P G f args σ Q:=ACall.vcO o hm hf hb hk h
theorem ACall.k {fn : Func} {c : Code} {Q : AV → St → Prop} (hm : P.follows .mixedOrders = true) (hf : P.funcs[f]? = some fn) (hb : fn.body = some c) (hk : (codeOk fn.ntmps o0 c && decide (args.length ≤ fn.ntmps) && fn.name != "runtime.NumGoroutine") = true)
 (h:kC P G o0 c (envOf args) σ [] (acPost P fn.results.toList Q)):ACall P G f args σ Q:=ACall.vc hm hf hb hk h
end
section
variable {P:Program} {G:Nat→AV} {o:Opts} {ops:Array Oper} {d:Bool} {g:FuncId} {args args':List AV} {env:Env} {σ:St} {ks:List Fr} {Q:Exit→Env→St→Prop} {dst:Option Nat} {ct:Ct} {r:AV}
theorem kCall.call (h:Pure P G g args r) (hno:noRefs args=true) (hq:kT P G o ops ct (upd env dst r) σ ks Q):kCall P G o ops d g args σ dst ct env ks Q:=vcCall.call h hno hq
theorem kCall.less (h:Pure P G g args' r) (hno:noRefs args=true) (ha:LeqL args args') (hq:kT P G o ops ct (upd env dst r) σ ks Q):kCall P G o ops d g args σ dst ct env ks Q:=vcCall.less h hno ha hq
theorem kCall.pure (h:Pure P G g args' r) (hno:noRefs (args.map plain)=true) (ha:LeqL (args.map plain) args') (hq:kT P G o ops ct (upd env dst r) σ ks Q):kCall P G o ops d g args σ dst ct env ks Q:=vcCall.pure h hno ha hq
theorem kCall.lent (h:Pure P G g args' r) (hb:bare r=true) (ha:LeqL (args.map (frz σ.H 8)) args') (hq:kT P G o ops ct (upd env dst r) σ ks Q):kCall P G o ops d g args σ dst ct env ks Q:=vcCall.lent h hb ha hq
theorem kCall.acall {R:AV→St→Prop} (h:ACall P G g args σ R) (hq:∀ v σ',R v σ'→kT P G o ops ct (upd env dst v) σ' ks Q):kCall P G o ops false g args σ dst ct env ks Q:=ACall.imp h hq
theorem kLoop.list {α:Type} (l:List α) (J:List α→Env→St→Prop) {c:Code} (h0:J [] env σ)
 (hs:∀ d v r env σ,l=d++v::r→l[d.length]?=some v→d.length<l.length→J d env σ→kC P G o c env σ (.loop (J (d++[v]))::ks) Q)
 (he:∀ env σ,J l env σ→kC P G o c env σ (.loop (fun _ _=>False)::ks) Q) (hp:plainC c=true:=by rfl):kLoop P G o c env σ ks Q:=vcLoop.list l J h0 hs he hp
theorem kLoop.count (n:Nat) (J:Nat→Env→St→Prop) {c:Code} (h0:J 0 env σ)
 (hs:∀ i env σ,i<n→J i env σ→kC P G o c env σ (.loop (J (i+1))::ks) Q)
 (he:∀ env σ,J n env σ→kC P G o c env σ (.loop (fun _ _=>False)::ks) Q) (hp:plainC c=true:=by rfl):kLoop P G o c env σ ks Q:=vcLoop.count n J h0 hs he hp
theorem kLoop.gen {c:Code} (I:Nat→Env→St→Prop) (n:Nat) (h:I n env σ) (hr:∀ n env σ (R:Env→St→Prop),(∀ m env σ,m<n→I m env σ→R env σ)→I n env σ→kC P G o c env σ (.loop R::ks) Q):kLoop P G o c env σ ks Q :=
 vcLoop.intro I n h fun n env σ hI=>hr n env σ _ (fun m env σ hm hI=>⟨m,hm,hI⟩) hI
end
end
section
def OwnAt {α:Type} (b sz:Nat) (en:α→List AV) (H:List Blk) (v:AV) (l:List α):Prop :=
 (l=[]∧v=.sl 0 [] .nil)∨(l≠[]∧v=.ms b 0 l.length sz∧H[b]?=some (.cells (l.flatMap en)))
section
variable {α:Type} {b sz:Nat} {en:α→List AV} {H:List Blk} {v:AV} {l m:List α}
theorem chunk_flat (hl:∀ x,(en x).length=sz):∀ (l:List α) (t:List AV),chunk sz l.length (l.flatMap en++t)=l.map en
 | [],t=>by simp [chunk]
 | a::r,t=>by
  have h1:((a::r).flatMap en++t).take sz=en a:=by
   rw [List.flatMap_cons,List.append_assoc,List.take_append_of_le_length (by rw [hl];exact Nat.le_refl _),List.take_of_length_le (by rw [hl];exact Nat.le_refl _)]
  have h2:((a::r).flatMap en++t).drop sz=r.flatMap en++t:=by
   rw [List.flatMap_cons,List.append_assoc,List.drop_append_of_le_length (by rw [hl];exact Nat.le_refl _),List.drop_of_length_le (by rw [hl];exact Nat.le_refl _),List.nil_append]
  show ((a::r).flatMap en++t).take sz::chunk sz r.length (((a::r).flatMap en++t).drop sz)=en a::r.map en
  rw [h1,h2,chunk_flat hl r t]
theorem flat_len (hl:∀ x,(en x).length=sz):∀ (l:List α),(l.flatMap en).length=l.length*sz
 | []=>by simp
 | a::r=>by rw [List.flatMap_cons,List.length_append,hl,flat_len hl r,List.length_cons,Nat.succ_mul];omega
theorem frz_rows (hn:∀ x,noRefs (en x)=true) {n:Nat}:∀ (l:List α),(l.map en).map (·.map (frz H n))=l.map en
 | []=>rfl
 | a::r=>by
  have h:(en a).map (frz H n)=en a:=by
   have:=hn a
   generalize en a=c at this
   induction c with
   | nil=>rfl
   | cons x y ih=>
    simp only [noRefs,Bool.and_eq_true] at this
    rw [List.map_cons,frz_noRef this.1,ih this.2]
  rw [List.map_cons,List.map_cons,h,frz_rows hn r]
theorem OwnAt.frz (h:OwnAt b sz en H v l) (hl:∀ x,(en x).length=sz) (hn:∀ x,noRefs (en x)=true) (ha:∀ x,(en x).all AV.atom=true) (n:Nat):Leq (frz H (n+1) v) (.sl sz (l.map en) .none):=by
 rcases h with ⟨rfl,rfl⟩|⟨hne,rfl,hb⟩
 · rw [frz_noRef (by simp)];simp
 · have hc:=chunk_flat hl l []
   rw [List.append_nil] at hc
   have hall:((chunk sz l.length (l.flatMap en)).map (·.map (Abs.frz H n))).all (·.all AV.atom)=true:=by
    rw [hc,frz_rows hn,List.all_map,List.all_eq_true]
    intro x _
    exact ha x
   unfold Abs.frz
   simp only [noRef,Bool.false_eq_true,if_false,hb,List.drop_zero]
   rw [if_pos ⟨by rw [flat_len hl];omega,hall⟩,hc,frz_rows hn]
   exact Leq.refl _
theorem OwnAt.append {D:Nat→Option TI} {T:List (Option Nat)} {ty e:Nat} {i j:TI} {tok:Tok} (h:OwnAt b sz en H v l) (hi:D ty=some i) (hd:i.d=.sl e) (hj:D e=some j) (hsz:j.size=sz) (h0:0<sz) (hz:j.zero.length=sz) (hbt:j.bytes≤65536)
 (hl:∀ x,(en x).length=sz) (hlen:l.length+m.length≤1073741824) (hm:m≠[]) :
 ∃ v' H',appendX D ⟨H,T⟩ ty ty v (.sl sz (m.map en) tok)=some (v',⟨H',T⟩)∧OwnAt H.length sz en H' v' (l++m)∧(∀ (k:Nat) (x:Blk),H[k]?=some x→(l=[]∨k≠b)→H'[k]?=some x)∧H'.length=H.length+1:=by
 subst hsz
 have hml:m.length≠0:=fun h=>hm (List.length_eq_zero_iff.1 h)
 have hfl:(m.map en).flatten=m.flatMap en:=by rw [List.flatMap_def]
 rcases h with ⟨rfl,rfl⟩|⟨hne,rfl,hb⟩
 · refine⟨.ms H.length 0 m.length j.size,H++[.cells (m.flatMap en)],?_,?_,?_,by simp⟩
   · have:m.length≤1073741824:=by simpa using hlen
     simp [appendX,appendM,hi,hd,hj,h0,hz,hbt,srcA,plainTD,hml,this,hm,hfl]
   · right
     refine⟨by simpa using hm,by simp,by simp⟩
   · intro k x hk _
     rw [List.getElem?_append_left (List.getElem?_eq_some_iff.1 hk).1,hk]
 · have hfl2:=flat_len hl l
   refine⟨.ms H.length 0 (l.length+m.length) j.size,H.set b .dead++[.cells (l.flatMap en++m.flatMap en)],?_,?_,?_,by simp⟩
   · have ht:(l.flatMap en).take (l.length*j.size)=l.flatMap en:=List.take_of_length_le (by omega)
     have hle:l.length*j.size≤(l.flatMap en).length:=by omega
     rw [hfl2] at hle
     simp [appendX,appendM,hi,hd,hj,h0,hz,hbt,srcA,plainTD,hml,hlen,hm,hfl,hb,hfl2,ht]
   · right
     refine⟨by simp [hne],by simp,by simp⟩
   · intro k x hk hkb
     have hkb:=hkb.resolve_left hne
     rw [List.getElem?_append_left (by rw [List.length_set];exact (List.getElem?_eq_some_iff.1 hk).1),List.getElem?_set_ne (Ne.symm hkb),hk]
theorem OwnAt.append0 {D:Nat→Option TI} {T:List (Option Nat)} {ty e:Nat} {i j:TI} {sz2:Nat} {tok:Tok} (h:OwnAt b sz en H v l) (hi:D ty=some i) (hd:i.d=.sl e) (hj:D e=some j) (hne:l≠[]) :
 appendX D ⟨H,T⟩ ty ty v (.sl sz2 [] tok)=some (v,⟨H,T⟩):=by
 rcases h with ⟨rfl,rfl⟩|⟨hne,rfl,hb⟩
 · exact absurd rfl hne
 · simp only [appendX,appendM,hi,hd,hj,plainTD,srcA]
   split<;>simp_all
theorem OwnAt.frzNo (h:OwnAt b sz en H v l) (hl:∀ x,(en x).length=sz) (hn:∀ x,noRefs (en x)=true) (ha:∀ x,(en x).all AV.atom=true) (n:Nat):noRef (Abs.frz H (n+1) v)=true:=by
 rcases h with ⟨rfl,rfl⟩|⟨hne,rfl,hb⟩
 · rw [frz_noRef (by simp)];simp
 · have hc:=chunk_flat hl l []
   rw [List.append_nil] at hc
   have hall:((chunk sz l.length (l.flatMap en)).map (·.map (Abs.frz H n))).all (·.all AV.atom)=true:=by
    rw [hc,frz_rows hn,List.all_map,List.all_eq_true]
    intro x _
    exact ha x
   unfold Abs.frz
   simp only [noRef,Bool.false_eq_true,if_false,hb,List.drop_zero]
   rw [if_pos ⟨by rw [flat_len hl];omega,hall⟩,hc,frz_rows hn]
   simpa using noRefss_map hn l
theorem OwnAt.acells (h:OwnAt b sz en H v l):acells v=some [v]:=by
 rcases h with ⟨_,rfl⟩|⟨_,rfl,_⟩<;>rfl
theorem OwnAt.atom (h:OwnAt b sz en H v l):AV.atom v=true:=by
 rcases h with ⟨_,rfl⟩|⟨_,rfl,_⟩<;>rfl
theorem OwnAt.lt (h:OwnAt b sz en H v l) (hl:l≠[]):b<H.length:=by
 rcases h with ⟨h,_⟩|⟨_,_,h⟩
 · exact absurd h hl
 · exact (List.getElem?_eq_some_iff.1 h).1
theorem OwnAt.keep {H':List Blk} (h:OwnAt b sz en H v l) (hk:∀ x,l≠[]→H[b]?=some x→H'[b]?=some x):OwnAt b sz en H' v l:=by
 rcases h with h|⟨h1,h2,h3⟩
 · exact .inl h
 · exact .inr ⟨h1,h2,hk _ h1 h3⟩
theorem OwnAt.at (h:OwnAt b sz en H v l) (hl:l≠[]):v=.ms b 0 l.length sz∧H[b]?=some (.cells (l.flatMap en)):=by
 rcases h with ⟨h,_⟩|⟨_,h1,h2⟩
 · exact absurd h hl
 · exact⟨h1,h2⟩
end
section
variable {α:Type} {b sz:Nat} {en:α→List AV} {H:List Blk} {v:AV} {l m:List α}
theorem OwnAt.appendK {P:Program} {G:Nat→AV} {o:Opts} {D:Nat→Option TI} {T:List (Option Nat)} {ty e:Nat} {i j:TI} {tok:Tok} (h:OwnAt b sz en H v l) (hi:D ty=some i) (hd:i.d=.sl e) (hj:D e=some j) (hsz:j.size=sz) (h0:0<sz) (hz:j.zero.length=sz) (hbt:j.bytes≤65536)
 (hl:∀ x,(en x).length=sz) (hlen:l.length+m.length≤1073741824) :
 ∃ v' b' H',(∀ ops dst ct env ks Q,kY P G o ops ((appendX D ⟨H,T⟩ ty ty v (.sl sz (m.map en) tok)).map fun p=>[p]) (appendA D ⟨H,T⟩ ty v (.sl sz (m.map en) tok)) dst ct env ks Q=kT P G o ops ct (upd env dst v') ⟨H',T⟩ ks Q) ∧
  OwnAt b' sz en H' v' (l++m)∧(b'=b∨b'=H.length)∧(∀ (k:Nat) (x:Blk),H[k]?=some x→(l=[]∨k≠b)→H'[k]?=some x)∧H.length≤H'.length:=by
 by_cases hm:m=[]
 · subst hm
   rw [List.append_nil]
   by_cases hne:l=[]
   · rcases h with ⟨rfl,rfl⟩|⟨hne',_⟩
     · refine⟨.sl 0 [] .nil,b,H,fun ops dst ct env ks Q=>?_,.inl ⟨rfl,rfl⟩,.inl rfl,fun k x hk _=>hk,Nat.le_refl _⟩
       subst hsz
       have hX:appendX D ⟨H,T⟩ ty ty (.sl 0 [] .nil) (.sl j.size [] tok)=none:=by
        simp [appendX,appendM,hi,hd,hj,plainTD,srcA]
       have hA:appendA D ⟨H,T⟩ ty (.sl 0 [] .nil) (.sl j.size [] tok)=some (.sl 0 [] .nil,⟨H,T⟩):=by
        simp [appendA,hi,hd,hj,rowsOf,h0,hz,hbt]
       rw [List.map_nil,hX,hA]
       simp
     · exact absurd hne hne'
   · refine⟨v,b,H,fun ops dst ct env ks Q=>?_,h,.inl rfl,fun k x hk _=>hk,Nat.le_refl _⟩
     rw [List.map_nil,h.append0 hi hd hj hne]
     simp
 · obtain⟨v',H',h1,h2,h3,h4⟩:=h.append (T:=T) (tok:=tok) hi hd hj hsz h0 hz hbt hl hlen hm
   refine⟨v',H.length,H',fun ops dst ct env ks Q=>?_,h2,.inr rfl,h3,by omega⟩
   rw [h1]
   simp
end
section
variable {A t:List Blk} {b k:Nat} {x y:Blk}
theorem set_look (h:A[b]?=some x):(A.set b y++t)[b]?=some y:=by
 have:=(List.getElem?_eq_some_iff.1 h).1
 rw [List.getElem?_append_left (by simpa using this),List.getElem?_set_self this]
theorem set_look_ne (h:A[k]?=some x) (hk:k≠b):(A.set b y++t)[k]?=some x:=by
 have:=(List.getElem?_eq_some_iff.1 h).1
 rw [List.getElem?_append_left (by simpa using this),List.getElem?_set_ne (Ne.symm hk),h]
theorem blk_ne {c c':List AV} {k':Nat} (h:A[k]?=some (.cells c)) (h':A[k']?=some (.cells c')) (hc:c[1]?≠c'[1]?):k≠k':=by
 rintro rfl
 rw [h] at h'
 cases h'
 exact hc rfl
def Kp (H:List Blk) (b:Nat) (H':List Blk):Prop:=H.length≤H'.length∧∀ (k:Nat) (x:Blk),H[k]?=some x→k≠b→H'[k]?=some x
theorem Kp.trans {H H' H'':List Blk} (h:Kp H b H') (h':Kp H' b H''):Kp H b H'':=⟨Nat.le_trans h.1 h'.1,fun k x hk hb=>h'.2 k x (h.2 k x hk hb) hb⟩
theorem Kp.set {H:List Blk}:Kp H b (H.set b y++t):=⟨by simp,fun k x hk hb=>set_look_ne hk hb⟩
end
theorem putAt_append {c:List AV}:∀ (new:List AV) (pre:List AV) (off:Nat),putAt (pre++c) (pre.length+off) new=pre++putAt c off new
 | new,pre,off=>by
  induction new generalizing c off with
  | nil=>rfl
  | cons v r ih=>
   rw [putAt,putAt,List.set_append_right _ _ (by omega),Nat.add_sub_cancel_left,Nat.add_assoc]
   exact ih (off+1)
theorem putAt_front:∀ (new c t:List AV),c.length=new.length→putAt (c++t) 0 new=new++t:=by
 have gen:∀ (new pre c t:List AV),c.length=new.length→putAt (pre++(c++t)) pre.length new=pre++(new++t):=by
  intro new
  induction new with
  | nil=>intro pre c t h;have:c=[]:=List.length_eq_zero_iff.1 h;subst this;simp [putAt]
  | cons v r ih=>
   intro pre c t h
   cases c with
   | nil=>simp at h
   | cons x c=>
    have h':c.length=r.length:=by simpa using h
    have:=ih (pre++[v]) c t h'
    simp only [List.append_assoc,List.singleton_append,List.length_append,List.length_singleton] at this
    rw [putAt]
    have e:(pre++(x::c++t)).set pre.length v=pre++v::(c++t):=by simp
    rw [e]
    exact this
 intro new c t h
 simpa using gen new [] c t h
theorem putAt_flat {α:Type} {sz:Nat} {en:α→List AV} (hl:∀ x,(en x).length=sz):∀ (l:List α) (i:Nat) (v:α),i<l.length→putAt (l.flatMap en) (i*sz) (en v)=(l.set i v).flatMap en
 | [],i,v,h=>by simp at h
 | a::r,0,v,_=>by
  rw [List.flatMap_cons,Nat.zero_mul,List.set_cons_zero,List.flatMap_cons]
  exact putAt_front _ _ _ (by rw [hl,hl])
 | a::r,i+1,v,h=>by
  have h':i<r.length:=by simpa using h
  rw [List.flatMap_cons,List.set_cons_succ,List.flatMap_cons,← putAt_flat hl r i v h',Nat.succ_mul,Nat.add_comm]
  have:=putAt_append (c:=r.flatMap en) (en v) (en a) (i*sz)
  rwa [hl] at this
section
variable {P:Program} {G:Nat→AV} {o:Opts} {env:Env} {σ:St} {ks:List Fr} {Q:Exit→Env→St→Prop}
theorem kLoop.listR {α:Type} (l:List α) (J:List α→Env→St→Prop) {c:Code} (h0:J [] env σ)
 (hs:∀ d v r env σ (R:Env→St→Prop),(∀ env σ,J (d++[v]) env σ→R env σ)→l=d++v::r→l[d.length]?=some v→d.length<l.length→J d env σ→kC P G o c env σ (.loop R::ks) Q)
 (he:∀ env σ,J l env σ→kC P G o c env σ (.loop (fun _ _=>False)::ks) Q) (hp:plainC c=true:=by rfl):kLoop P G o c env σ ks Q :=
 kLoop.list l J h0 (fun d v r env σ h1 h2 h3 hJ=>hs d v r env σ _ (fun _ _ h=>h) h1 h2 h3 hJ) he hp
end
section
variable {P:Program} {G:Nat→AV} {o:Opts} {env:Env} {σ:St} {ks:List Fr} {Q:Exit→Env→St→Prop}
theorem kC_range {α:Type} {g:Operand} {pi pe gb b k:Nat} {x y:Code} {tok:Tok} (l:List α) (en:α→List AV) (J:Nat→St→Prop) (hg:ev G env g=.fn gb [] [.ptr b 0]) (hbw:BwOk P G gb k) (hfit:l.length<2 ^ 62) (hJ:J l.length σ)
 (hcells:∀ i σ,J i σ→σ.H[b]?=some (.cells [.sl k (l.map en) tok]))
 (hs:∀ i v σ,l[i]?=some v→J (i+1) σ→kC P G o x (upd (upd env (some pi) (.int .i64 i)) (some pe) (.agg (en v))) σ [] (fun e env' σ'=>e=.normal∧kC P G o y env' σ' [] (fun e _ σ''=>e=.normal∧J i σ'')))
 (he:∀ σ,J 0 σ→kX P G o .normal env σ ks Q) (hpx:plainC x=true:=by rfl) (hpy:plainC y=true:=by rfl):kC P G o (.rangeFunc g #[pi,pe] x y) env σ ks Q:=by
 have hr:∀ n σ,n≤l.length→J n σ→rounds (fun env σ Q=>vcC P G o x env σ Q) (fun env σ Q=>vcC P G o y env σ Q) k b pi pe env n σ (fun σ=>itp P G o ks Q .normal env σ):=by
  intro n
  induction n with
  | zero=>intro σ _ h;exact he σ h
  | succ n ih=>
   intro σ hn h
   obtain⟨v,hv⟩:∃ v,l[n]?=some v:=⟨_,List.getElem?_eq_getElem (by omega)⟩
   have h1:=hs n v σ hv h
   simp only [rounds,hcells _ _ h]
   refine⟨trivial,?_⟩
   have hv':(l.map en)[n]?=some (en v):=by rw [List.getElem?_map,hv];rfl
   simp only [hv']
   refine vcC_imp x hpx (fun e env' σ' hq=>⟨hq.1,?_⟩) h1
   exact vcC_imp y hpy (fun e _ σ'' hq=>⟨hq.1,ih σ'' (by omega) hq.2⟩) hq.2
 unfold kC
 simp only [vcC,hg]
 refine⟨k,hbw,?_⟩
 simp only [hcells _ _ hJ]
 exact⟨by simpa using hfit,by simpa using hr l.length σ (Nat.le_refl _) hJ⟩
end
theorem frz_ptr {H:List Blk} {b off n:Nat} {c:List AV} (h:H[b]?=some (.cells c)):frz H (n+1) (.ptr b off)=.rptr ((c.drop off).map (frz H n)):=by
 rw [frz];simp [noRef,h]
theorem frz_str {H:List Blk} {n:Nat} {s:List UInt8}:frz H n (.str s)=.str s:=frz_noRef rfl
theorem frz_int {H:List Blk} {n:Nat} {k:IntKind} {z:Int}:frz H n (.int k z)=.int k z:=frz_noRef rfl
theorem frz_bool {H:List Blk} {n:Nat} {z:Bool}:frz H n (.bool z)=.bool z:=frz_noRef rfl
section
variable {P:Program} {G:Nat→AV} {o:Opts} {ops:Array Oper} {ac dp:List Nat} {env:Env} {σ:St} {ks:List Fr} {Q:Exit→Env→St→Prop}
def kAl (P:Program) (G:Nat→AV) (o:Opts) (ops:Array Oper) (ac:List Nat) (al:Alts) (env:Env) (σ:St) (ks:List Fr) (Q:Exit→Env→St→Prop):Prop:=vcAlts P G o.mu ac ops al env σ (fun env σ=>itp P G o ks Q .normal env σ)
@[simp ↓] theorem kT_fork {al:Alts}:kT P G o ops (.plan ac (.fork al)) env σ ks Q=kAl P G o ops ac al env σ ks Q:=by simp only [kT,vcS,kAl]
@[simp ↓] theorem kAl_nil:kAl P G o ops ac .nil env σ ks Q=True:=by simp only [kAl,vcAlts]
@[simp ↓] theorem kAl_cons {k:Nat} {s:Sch} {r:Alts}:kAl P G o ops ac (.cons k s r) env σ ks Q=(kP P G o ops (ops[k]?) (match ops[k]? with | some u=>clsB o.mu ac k u.op != 9 | none=>false) (.plan ac s) env σ ks Q∧kAl P G o ops ac r env σ ks Q):=by
 simp only [kAl,vcAlts,kP,kT]
 congr 1
 split<;>rename_i h<;>simp [h]
end
end
section
def outD {α:Type} (sz:Nat) (en:α→List AV) (t:Nat) (a s:List α):AV:=match s with
 | []=>.sl sz (a.map en) .tight
 | x::r=>.sl sz ((a++x::r).map en) (.chain t (r.length+1))
section
variable {α:Type} {sz t:Nat} {en:α→List AV} {T:List (Option Nat)} {a s m:List α}
theorem outD_ne (h:s≠[]):outD sz en t a s=.sl sz ((a++s).map en) (.chain t s.length):=by
 cases s with
 | nil=>exact absurd rfl h
 | cons x r=>rfl
theorem append_outD {D:Nat→Option TI} {H:List Blk} {ty e:Nat} {i j:TI} {tok:Tok} (hi:D ty=some i) (hd:i.d=.sl e) (hj:D e=some j) (hsz:j.size=sz) (h0:0<sz) (hz:j.zero.length=sz) (hb:j.bytes≤65536) (hlen:a.length+s.length+m.length≤1073741824) (sz2:Nat) (h2:sz2=sz∨m=[]) :
 appendA D ⟨H,outCT T s⟩ ty (outD sz en T.length a s) (.sl sz2 (m.map en) tok)=some (outD sz en T.length a (s++m),⟨H,outCT T (s++m)⟩):=by
 subst hsz
 by_cases hm:m=[]
 · subst hm
   rw [List.append_nil]
   cases s with
   | nil=>
    have:a.length≤1073741824:=by simp at hlen;omega
    simp [appendA,hi,hd,hj,h0,hz,hb,rowsOf,outD,this]
   | cons x r=>
    have:a.length+(r.length+1)≤1073741824:=by simpa using hlen
    simp [appendA,hi,hd,hj,h0,hz,hb,rowsOf,outD,outCT,this]
 · have h2:sz2=j.size:=h2.resolve_right hm
   subst h2
   cases s with
   | nil=>
    have:a.length+m.length≤1073741824:=by simpa using hlen
    rw [List.nil_append,outD_ne hm,outCT_ne hm]
    simp [appendA,hi,hd,hj,h0,hz,hb,rowsOf,this,hm,outD]
   | cons x r=>
    have:a.length+(r.length+1+m.length)≤1073741824:=by simp at hlen;omega
    simp only [List.cons_append,outD,outCT]
    simp [appendA,hi,hd,hj,h0,hz,hb,rowsOf,this,hm]
    omega
@[simp high] theorem outD_atom:AV.atom (outD sz en t a s)=true:=by cases s<;>rfl
@[simp high] theorem outD_acells:acells (outD sz en t a s)=some [outD sz en t a s]:=by cases s<;>rfl
def outE {α:Type} (sz:Nat) (en:α→List AV) (a s:List α):AV:=match s with
 | []=>.sl sz (a.map en) .tight
 | x::r=>.sl sz ((a++x::r).map en) .none
@[simp high] theorem pl1_outD:pl1 (outD sz en t a s)=outE sz en a s:=by cases s<;>rfl
@[simp high] theorem pl2_outD:pl2 (outD sz en t a s)=outE sz en a s:=by cases s<;>rfl
@[simp high] theorem plain_outD:plain (outD sz en t a s)=outE sz en a s:=by cases s<;>rfl
@[simp high] theorem fin1_outD {H:List Blk}:fin1 H (outD sz en t a s)=outE sz en a s:=by cases s<;>rfl
@[simp high] theorem fin2_outD {H:List Blk}:fin2 H (outD sz en t a s)=outE sz en a s:=by cases s<;>rfl
@[simp high] theorem fin_outD {H:List Blk}:fin H (outD sz en t a s)=outE sz en a s:=by cases s<;>rfl
@[simp high] theorem outE_atom:AV.atom (outE sz en a s)=true:=by cases s<;>rfl
@[simp high] theorem noRef_outE (hn:∀ x,noRefs (en x)=true):noRef (outE sz en a s)=true:=by
 cases s with
 | nil=>simpa [outE] using noRefss_map hn a
 | cons x r=>simpa [outE] using noRefss_map hn (a++x::r)
theorem leq_outE:Leq (outE sz en a s) (.sl sz ((a++s).map en) .none):=by
 cases s with
 | nil=>rw [List.append_nil];exact Leq.sl rfl
 | cons x r=>exact Leq.sl rfl
end
section
variable {P:Program} {G:Nat→AV} {o:Opts} {env:Env} {σ:St} {ks:List Fr} {Q:Exit→Env→St→Prop}
theorem kC_cut {x y:Code} (I:Env→St→Prop) (h1:kC P G o x env σ (.loop I::ks) Q) (h2:∀ env σ,I env σ→kC P G o y env σ ks Q) (hp:plainC x=true:=by rfl):kC P G o x env σ (.seq y::ks) Q:=by
 unfold kC at h1 ⊢
 exact vcC_imp x hp (fun e env σ h=>aThen_imp (fun env σ h=>h2 env σ h) (fun _ _ _ h=>h) e env σ h) h1
end
end
section
def Ext (σ σ':St):Prop:=∃ t u,σ'=⟨σ.H++t,σ.T++u⟩
theorem Ext.refl {σ:St}:Ext σ σ:=⟨[],[],by simp⟩
theorem Ext.trans {σ σ' σ'':St} (h:Ext σ σ') (h':Ext σ' σ''):Ext σ σ'':=by
 obtain⟨t,u,rfl⟩:=h
 obtain⟨t',u',rfl⟩:=h'
 exact⟨t++t',u++u',by simp⟩
theorem Ext.at {σ σ':St} (h:Ext σ σ') {k:Nat} {x:Blk} (hk:σ.H[k]?=some x):σ'.H[k]?=some x:=by
 obtain⟨t,u,rfl⟩:=h
 exact look_app hk t
section
variable {P:Program} {G:Nat→AV} {σ:St} {f:FuncId} {args args':List AV} {Q:AV→St→Prop}
theorem ACall.leq (h:ACall P G f args' σ Q) (ha:LeqL args args'):ACall P G f args σ Q :=
 ⟨h.1,fun w0 ro0 K w vs hw hvs=>h.2 w0 ro0 K w vs hw (LeqL.rel _ _ ha hvs)⟩
end
end
section
section
variable {P:Program} {G:Nat→AV} {o:Opts} {ops:Array Oper} {ct:Ct} {env:Env} {σ:St} {ks:List Fr} {Q:Exit→Env→St→Prop}
theorem kT_cut {y:Code} (I:Env→St→Prop) (h1:kT P G o ops ct env σ (.loop I::ks) Q) (h2:∀ env σ,I env σ→kC P G o y env σ ks Q):kT P G o ops ct env σ (.seq y::ks) Q:=by
 unfold kT at h1 ⊢
 cases ct with
 | run d lw rest=>exact vcR_imp (fun env σ h=>h2 env σ h) rest h1
 | plan ac s=>exact vcS_imp (fun env σ h=>h2 env σ h) s h1
theorem kCd_cut {v:AV} {x y z:Code} (I:Env→St→Prop) (h1:kCd P G o v x y env σ (.loop I::ks) Q) (h2:∀ env σ,I env σ→kC P G o z env σ ks Q) (hp:plainC x=true:=by rfl) (hq:plainC y=true:=by rfl):kCd P G o v x y env σ (.seq z::ks) Q:=by
 unfold kCd at h1 ⊢
 cases v with
 | bool b=>exact⟨fun e=>kC_cut I (h1.1 e) h2 hp,fun e=>kC_cut I (h1.2 e) h2 hq⟩
 | _=>exact h1
end
theorem Ext.push {H t:List Blk} {T:List (Option Nat)}:Ext ⟨H,T⟩ ⟨H++t,T⟩:=⟨t,[],by simp⟩
theorem Ext.pushT {H t:List Blk} {T T':List (Option Nat)} (h:T <+: T'):Ext ⟨H,T⟩ ⟨H++t,T'⟩:=by
 obtain⟨u,rfl⟩:=h
 exact⟨t,u,rfl⟩
end
end Go.Abs
end
