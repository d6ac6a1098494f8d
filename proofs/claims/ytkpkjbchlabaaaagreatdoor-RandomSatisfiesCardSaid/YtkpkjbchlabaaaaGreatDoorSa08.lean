/- A part of the proof. -/
import Derived.Test.YtkpkjbchlabaaaaGreatDoorSa07
set_option linter.unusedVariables false
set_option linter.unusedSimpArgs false
set_option maxRecDepth 100000
set_option maxHeartbeats 16000000
set_option linter.defProp false
section
namespace Go.Abs
open Go Go.RowKit
section
inductive Fr where
 | seq (y:Code)
 | block (id:Nat)
 | loop (n:Env->St->Prop)
 | scope
inductive Ct where
 | run (d lw:Bool) (rest:List Oper)
 | plan (ac:List Nat) (s:Sch)
section
variable (P:Program)(G:Glo)(o:Opts)
def itp:List Fr->(Exit->Env->St->Prop)->Exit->Env->St->Prop
 | [],Q=>Q
 | .seq y::ks,Q=>wo (fun env U=>vcC P G o y env U (itp ks Q)) (itp ks Q)
 | .block id::ks,Q=>wq id (itp ks Q)
 | .loop n::ks,Q=>wo n (itp ks Q)
 | .scope::ks,Q=>qnG (itp ks Q)
def kC (c:Code)(env:Env)(U:St)(ks:List Fr)(Q:Exit->Env->St->Prop):Prop:=vcC P G o c env U (itp P G o ks Q)
def kX (e:Exit)(env:Env)(U:St)(ks:List Fr)(Q:Exit->Env->St->Prop):Prop:=itp P G o ks Q e env U
def kT (ops:Array Oper)(ct:Ct)(env:Env)(U:St)(ks:List Fr)(Q:Exit->Env->St->Prop):Prop:=match ct with
 | .run d lw rest=>vcR P G o.mu ops d lw rest env U (fun env U=>itp P G o ks Q .normal env U)
 | .plan ac s=>vcS P G o.mu ac ops s env U (fun env U=>itp P G o ks Q .normal env U)
def kO (ops:Array Oper)(d:Bool)(op:Op)(dst:Option Nat)(ct:Ct)(env:Env)(U:St)(ks:List Fr)(Q:Exit->Env->St->Prop):Prop :=
 jw P G o.mu d op env U (fun v U'=>kT P G o ops ct (upd env dst v) U' ks Q)
def kS (ops:Array Oper)(x:Option (AV×St))(dst:Option Nat)(ct:Ct)(env:Env)(ks:List Fr)(Q:Exit->Env->St->Prop):Prop :=
 jp x (fun v U'=>kT P G o ops ct (upd env dst v) U' ks Q)
def kY (ops:Array Oper)(l:Option (List (AV×St)))(x:Option (AV×St))(dst:Option Nat)(ct:Ct)(env:Env)(ks:List Fr)(Q:Exit->Env->St->Prop):Prop :=
 vcX l x (fun v U'=>kT P G o ops ct (upd env dst v) U' ks Q)
def kFn (ops:Array Oper)(d:Bool)(f:AV)(args:List AV)(U:St)(dst:Option Nat)(ct:Ct)(env:Env)(ks:List Fr)(Q:Exit->Env->St->Prop):Prop :=
 vcFn P G d f args U (fun v U'=>kT P G o ops ct (upd env dst v) U' ks Q)
def qc (ops:Array Oper)(d:Bool)(g:FuncId)(args:List AV)(U:St)(dst:Option Nat)(ct:Ct)(env:Env)(ks:List Fr)(Q:Exit->Env->St->Prop):Prop :=
 qb P G d g args U (fun v U'=>kT P G o ops ct (upd env dst v) U' ks Q)
def kCd (v:AV)(x y:Code)(env:Env)(U:St)(ks:List Fr)(Q:Exit->Env->St->Prop):Prop:=match v with
 | .bool b=>(b=true->kC P G o x env U ks Q)/\(b=false->kC P G o y env U ks Q)
 | _=>False
def kGv (ops:Array Oper)(d:Bool)(t:Nat)(v:AV)(b:Bool)(op:Op)(dst:Option Nat)(ct:Ct)(env:Env)(U:St)(ks:List Fr)(Q:Exit->Env->St->Prop):Prop:=match v with
 | .bool c=>((c==b)=true->kO P G o ops d op dst ct (upd env (some t) (.bool b)) U ks Q)/\((c==b)=false->kT P G o ops ct (upd (upd env (some t) (.bool (!b))) dst (.tup [])) U ks Q)
 | .tup []=>kT P G o ops ct (upd env dst (.tup [])) U ks Q
 | _=>False
def kG (ops:Array Oper)(d:Bool)(x:Option Nat)(b:Bool)(op:Op)(dst:Option Nat)(ct:Ct)(env:Env)(U:St)(ks:List Fr)(Q:Exit->Env->St->Prop):Prop:=match x with
 | some t=>kGv P G o ops d t (env t) b op dst ct env U ks Q
 | none=>kT P G o ops ct (upd env dst (.tup [])) U ks Q
def qX (c:Code)(env:Env)(U:St)(ks:List Fr)(Q:Exit->Env->St->Prop):Prop:=qy P G o c env U (itp P G o ks Q)
def kP (ops:Array Oper)(x:Option Oper)(d:Bool)(ct:Ct)(env:Env)(U:St)(ks:List Fr)(Q:Exit->Env->St->Prop):Prop:=match x with
 | some u=>vcG P G o.mu d ops u env U (fun env v U'=>kT P G o ops ct (upd env u.dst v) U' ks Q)
 | none=>False
end
section
variable {P:Program}{G:Glo}{o:Opts}{env:Env}{U:St}{ks:List Fr}{Q:Exit->Env->St->Prop}
@[simp ↓]theorem kC_skip:kC P G o .skip env U ks Q=kX P G o .normal env U ks Q:=by simp only[kC,kX,vcC]
@[simp ↓]theorem kC_ret:kC P G o .ret env U ks Q=kX P G o .ret env U ks Q:=by simp only[kC,kX,vcC]
@[simp ↓]theorem kC_exit {id:Nat}:kC P G o (.exit id) env U ks Q=kX P G o (.exit id) env U ks Q:=by simp only[kC,kX,vcC]
@[simp ↓]theorem kC_seq {x y:Code}:kC P G o (.seq x y) env U ks Q=kC P G o x env U (.seq y::ks) Q:=by simp only[kC,vcC,itp]
@[simp ↓]theorem kC_block {id:Nat}{x:Code}:kC P G o (.block id x) env U ks Q=kC P G o x env U (.block id::ks) Q:=by simp only[kC,vcC,itp]
@[simp ↓]theorem kC_scope {x:Code}:kC P G o (.scope x) env U ks Q=kC P G o x env U (.scope::ks) Q:=by simp only[kC,vcC,itp]
@[simp ↓]theorem kC_label {l:Nat}:kC P G o (.label l) env U ks Q=kX P G o .normal env U ks Q:=by simp only[kC,kX,vcC]
@[simp ↓]theorem qm7:kX P G o .ret env U (.scope::ks) Q=kX P G o .ret env U ks Q:=zN rfl
@[simp ↓]theorem kC_cond {c:Operand}{x y:Code}:kC P G o (.cond c x y) env U ks Q=kCd P G o (ev G env c) x y env U ks Q:=by
 simp only[kC,vcC,kCd,qe8];split<;>simp_all[]
@[simp ↓]theorem kC_loop {x:Code}:kC P G o (.loop x) env U ks Q=qX P G o x env U ks Q:=by simp only[kC,qX,vcC]<;>rfl
@[simp ↓ high]theorem kC_region0 {id:Nat}{l:List Oper}:kC P G o0 (.region id l.toArray false) env U ks Q=kT P G o0 l.toArray (.run false false l) env U ks Q:=by simp only[kC,kT,vcC];rfl
@[simp ↓ high]theorem kC_regionL {m:Bool}{x:List (Nat×Sch×List Nat)}{y:List (Nat×Nat)}{id:Nat}{l:List Oper}:kC P G ⟨m,x,[],y⟩ (.region id l.toArray false) env U ks Q=kT P G ⟨m,x,[],y⟩ l.toArray (.run false false l) env U ks Q:=by simp only[kC,kT,vcC];rfl
@[simp ↓]theorem kC_draw0 {id:Nat}{l:List Oper}:kC P G o0 (.region id l.toArray true) env U ks Q=kT P G o0 l.toArray (.run true false l) env U ks Q:=by simp[kC,kT,vcC,o0]
theorem Zv {id:Nat}{l:List Oper}(h:o.fk.lookup id=none):kC P G o (.region id l.toArray true) env U ks Q=kT P G o l.toArray (.run true (o.lw.contains id) l) env U ks Q:=by simp only[kC,kT,vcC,h]
theorem qG {id:Nat}{l:List Oper}{s:Sch}{ac:List Nat}(h:o.fk.lookup id=some (s,ac)):kC P G o (.region id l.toArray true) env U ks Q=kT P G o l.toArray (.plan ac s) env U ks Q:=by simp only[kC,kT,vcC,h]
@[simp]theorem kCd_true {x y:Code}:kCd P G o (.bool true) x y env U ks Q=kC P G o x env U ks Q:=by simp[kCd]
@[simp]theorem kCd_false {x y:Code}:kCd P G o (.bool false) x y env U ks Q=kC P G o y env U ks Q:=by simp[kCd]
@[simp low]theorem kCd_bool {b:Bool}{x y:Code}:kCd P G o (.bool b) x y env U ks Q=((b=true->kC P G o x env U ks Q)/\(b=false->kC P G o y env U ks Q)):=zN rfl
@[simp ↓]theorem kX_nil {e:Exit}:kX P G o e env U [] Q=Q e env U:=zN rfl
@[simp ↓]theorem kX_seq {y:Code}:kX P G o .normal env U (.seq y::ks) Q=kC P G o y env U ks Q:=zN rfl
@[simp ↓]theorem kX_seq_ret {y:Code}:kX P G o .ret env U (.seq y::ks) Q=kX P G o .ret env U ks Q:=zN rfl
@[simp ↓]theorem qo3 {y:Code}{i:Nat}:kX P G o (.exit i) env U (.seq y::ks) Q=kX P G o (.exit i) env U ks Q:=zN rfl
@[simp ↓]theorem kX_block {id:Nat}:kX P G o .normal env U (.block id::ks) Q=kX P G o .normal env U ks Q:=zN rfl
@[simp ↓]theorem qm9 {id:Nat}:kX P G o .ret env U (.block id::ks) Q=kX P G o .ret env U ks Q:=zN rfl
@[simp ↓]theorem qlg {id i:Nat}:kX P G o (.exit i) env U (.block id::ks) Q=if i=id then kX P G o .normal env U ks Q else kX P G o (.exit i) env U ks Q:=by
 simp only[kX,itp,wq]
@[simp ↓]theorem kX_loop {n:Env->St->Prop}:kX P G o .normal env U (.loop n::ks) Q=n env U:=zN rfl
@[simp ↓]theorem qo4 {n:Env->St->Prop}:kX P G o .ret env U (.loop n::ks) Q=kX P G o .ret env U ks Q:=zN rfl
@[simp ↓]theorem qm8 {n:Env->St->Prop}{i:Nat}:kX P G o (.exit i) env U (.loop n::ks) Q=kX P G o (.exit i) env U ks Q:=zN rfl
end
section
variable {P:Program}{G:Glo}{o:Opts}{ops:Array Oper}{d lw:Bool}{env:Env}{U:St}{ks:List Fr}{Q:Exit->Env->St->Prop}{dst:Option Nat}{op:Op}{ct:Ct}
@[simp ↓]theorem kT_nil:kT P G o ops (.run d lw []) env U ks Q=kX P G o .normal env U ks Q:=zN rfl
@[simp ↓]theorem kT_run {type:TypeId}{pos:String}{after:Array Edge}{rest:List Oper} :
 kT P G o ops (.run d false ({ dst:=dst,op:=op,type:=type,pos:=pos,after:=after,guard:=none }::rest)) env U ks Q=kO P G o ops d op dst (.run d false rest) env U ks Q:=by
 simp only[kT,kO];rw[qnW]
@[simp ↓]theorem kT_guard {type:TypeId}{pos:String}{after:Array Edge}{rest:List Oper}{j:Nat}{b:Bool} :
 kT P G o ops (.run d false ({ dst:=dst,op:=op,type:=type,pos:=pos,after:=after,guard:=some (j,b) }::rest)) env U ks Q=kG P G o ops d ((ops[j]?).bind (·.dst)) b op dst (.run d false rest) env U ks Q:=by
 simp only[kT];rw[qgy];unfold vg kG;generalize (ops[j]?).bind (·.dst)=x
 cases x with
 | none=>rfl
 | some t=>
  simp only[kGv];generalize env t=v
  cases v with
  | tup vs=>cases vs<;>rfl
  | _=>rfl
@[simp ↓]theorem kT_done {ac:List Nat}:kT P G o ops (.plan ac .done) env U ks Q=kX P G o .normal env U ks Q:=by simp only[kT,vcS,kX]
@[simp ↓]theorem kT_step {ac dp:List Nat}{k:Nat}{s:Sch}:kT P G o ops (.plan ac (.step k dp s)) env U ks Q=kP P G o ops (ops[k]?) (match ops[k]? with | some u=>qN o.mu ac k u.op != 9 | none=>false) (.plan ac s) env U ks Q:=by
 simp only[kT,vcS,kP];split<;>rename_i h<;>simp[h]
@[simp]theorem kP_run {type:TypeId}{pos:String}{after:Array Edge}:kP P G o ops (some { dst:=dst,op:=op,type:=type,pos:=pos,after:=after,guard:=none }) d ct env U ks Q=kO P G o ops d op dst ct env U ks Q:=by
 simp only[kP,vcG,kO]
@[simp]theorem kG_some {t:Nat}{b:Bool}:kG P G o ops d (some t) b op dst ct env U ks Q=kGv P G o ops d t (env t) b op dst ct env U ks Q:=zN rfl
@[simp]theorem kGv_off {t:Nat}{b:Bool}:kGv P G o ops d t (.tup []) b op dst ct env U ks Q=kT P G o ops ct (upd env dst (.tup [])) U ks Q:=zN rfl
@[simp]theorem kGv_tt {t:Nat}:kGv P G o ops d t (.bool true) true op dst ct env U ks Q=kO P G o ops d op dst ct (upd env (some t) (.bool true)) U ks Q:=by simp[kGv]
@[simp]theorem kGv_ff {t:Nat}:kGv P G o ops d t (.bool false) false op dst ct env U ks Q=kO P G o ops d op dst ct (upd env (some t) (.bool false)) U ks Q:=by simp[kGv]
@[simp]theorem kGv_tf {t:Nat}:kGv P G o ops d t (.bool true) false op dst ct env U ks Q=kT P G o ops ct (upd (upd env (some t) (.bool true)) dst (.tup [])) U ks Q:=by simp[kGv]
@[simp]theorem kGv_ft {t:Nat}:kGv P G o ops d t (.bool false) true op dst ct env U ks Q=kT P G o ops ct (upd (upd env (some t) (.bool false)) dst (.tup [])) U ks Q:=by simp[kGv]
@[simp low]theorem kGv_true {t:Nat}{c:Bool}:kGv P G o ops d t (.bool c) true op dst ct env U ks Q=((c=true->kO P G o ops d op dst ct (upd env (some t) (.bool true)) U ks Q)/\(c=false->kT P G o ops ct (upd (upd env (some t) (.bool false)) dst (.tup [])) U ks Q)):=by simp[kGv]
@[simp low]theorem kGv_false {t:Nat}{c:Bool}:kGv P G o ops d t (.bool c) false op dst ct env U ks Q=((c=false->kO P G o ops d op dst ct (upd env (some t) (.bool false)) U ks Q)/\(c=true->kT P G o ops ct (upd (upd env (some t) (.bool true)) dst (.tup [])) U ks Q)):=by simp[kGv]
@[simp]theorem kS_some {v:AV}{U:St}:kS P G o ops (some (v,U)) dst ct env ks Q=kT P G o ops ct (upd env dst v) U ks Q:=zN rfl
@[simp]theorem kS_none:kS P G o ops none dst ct env ks Q=False:=zN rfl
@[simp]theorem kY_none {x:Option (AV×St)}:kY P G o ops none x dst ct env ks Q=kS P G o ops x dst ct env ks Q:=by simp only[kY,kS];rw[WI]
@[simp]theorem kY_one {v:AV}{τ:St}{x:Option (AV×St)}:kY P G o ops (some [(v,τ)]) x dst ct env ks Q=kT P G o ops ct (upd env dst v) τ ks Q:=by simp only[kY];rw[qnU]
@[simp]theorem kY_two {v v':AV}{τ τ':St}{x:Option (AV×St)}:kY P G o ops (some [(v,τ),(v',τ')]) x dst ct env ks Q=(kT P G o ops ct (upd env dst v) τ ks Q/\kT P G o ops ct (upd env dst v') τ' ks Q):=by simp only[kY];rw[qnT]
@[simp]theorem kFn_fn {g:FuncId}{first args cap:List AV}:kFn P G o ops d (.fn g first cap) args U dst ct env ks Q=qc P G o ops d g (jS first args cap) U dst ct env ks Q:=zN rfl
@[simp ↓]theorem kO_call {f:Operand}{a:Array Operand}{t:Array TypeId}:kO P G o ops d (.call { callee:=.value f,args:=a,argTypes:=t }) dst ct env U ks Q=kFn P G o ops d (ev G env f) (Wc G env a.toList) U dst ct env ks Q:=zN rfl
@[simp ↓]theorem kO_move {x:Operand}:kO P G o ops d (.move x) dst ct env U ks Q=kS P G o ops (sem (Dof P) G env U (.move x)) dst ct env ks Q:=by simp only[kO,kS];rw[qgB]
@[simp ↓]theorem kO_assign {x:Operand}:kO P G o ops d (.assign x) dst ct env U ks Q=kS P G o ops (sem (Dof P) G env U (.assign x)) dst ct env ks Q:=by simp only[kO,kS];rw[qb8]
@[simp ↓]theorem kO_pick {a b c:Operand}:kO P G o ops d (.pick a b c) dst ct env U ks Q=kS P G o ops (sem (Dof P) G env U (.pick a b c)) dst ct env ks Q:=by simp only[kO,kS];rw[qgA]
@[simp ↓]theorem kO_alloc {t:TypeId}:kO P G o ops d (.alloc t) dst ct env U ks Q=kS P G o ops (sem (Dof P) G env U (.alloc t)) dst ct env ks Q:=by simp only[kO,kS];rw[qe7]
@[simp ↓]theorem kO_box {t:TypeId}{x:Operand}:kO P G o ops d (.box t x) dst ct env U ks Q=kS P G o ops (sem (Dof P) G env U (.box t x)) dst ct env ks Q:=by simp only[kO,kS];rw[qjU]
@[simp ↓]theorem kO_build {t:TypeId}{p:Array (Nat×Operand)}:kO P G o ops d (.build t p) dst ct env U ks Q=kS P G o ops (sem (Dof P) G env U (.build t p)) dst ct env ks Q:=by simp only[kO,kS];rw[qe5]
@[simp ↓]theorem qlk {t:TypeId}{n:Nat}{p:Array (Nat×Operand)}:kO P G o ops d (.buildSlice t n p) dst ct env U ks Q=kS P G o ops (sem (Dof P) G env U (.buildSlice t n p)) dst ct env ks Q:=by simp only[kO,kS];rw[J1]
@[simp ↓]theorem kO_load {t:TypeId}{x:Operand}:kO P G o ops d (.load t x) dst ct env U ks Q=kS P G o ops (sem (Dof P) G env U (.load t x)) dst ct env ks Q:=by simp only[kO,kS];rw[qgC]
@[simp ↓]theorem kO_store {t:TypeId}{x y:Operand}:kO P G o ops d (.store t x y) dst ct env U ks Q=kS P G o ops (sem (Dof P) G env U (.store t x y)) dst ct env ks Q:=by simp only[kO,kS];rw[qe1]
@[simp ↓]theorem qo5 {x:Operand}:kO P G o ops d (.nilCheck x) dst ct env U ks Q=kS P G o ops (sem (Dof P) G env U (.nilCheck x)) dst ct env ks Q:=by simp only[kO,kS];rw[WJ]
@[simp ↓]theorem kO_binOp {b:BinOp}{t u:TypeId}{x y:Operand}(h:b≠.eql)(h':b≠.neq):kO P G o ops d (.binOp b t x y u) dst ct env U ks Q=kS P G o ops (sem (Dof P) G env U (.binOp b t x y u)) dst ct env ks Q:=by simp only[kO,kS];rw[qe6 h h']
@[simp ↓]theorem kO_eql {t u:TypeId}{x y:Operand}:kO P G o ops d (.binOp .eql t x y u) dst ct env U ks Q=kY P G o ops (qhJ d false (Dof P) t (ev G env x) (ev G env y) U) (sem (Dof P) G env U (.binOp .eql t x y u)) dst ct env ks Q:=by simp only[kO,kY];rw[qjS]
@[simp ↓]theorem kO_neq {t u:TypeId}{x y:Operand}:kO P G o ops d (.binOp .neq t x y u) dst ct env U ks Q=kY P G o ops (qhJ d true (Dof P) t (ev G env x) (ev G env y) U) (sem (Dof P) G env U (.binOp .neq t x y u)) dst ct env ks Q:=by simp only[kO,kY];rw[qjP]
@[simp ↓]theorem kO_unOp {u:UnOp}{t:TypeId}{x:Operand}:kO P G o ops d (.unOp u t x) dst ct env U ks Q=kS P G o ops (sem (Dof P) G env U (.unOp u t x)) dst ct env ks Q:=by simp only[kO,kS];rw[qgz]
@[simp ↓]theorem kO_convert {t u:TypeId}{x:Operand}:kO P G o ops d (.convert t u x) dst ct env U ks Q=kS P G o ops (sem (Dof P) G env U (.convert t u x)) dst ct env ks Q:=by simp only[kO,kS];rw[qae]
@[simp ↓]theorem qo6 {f:Fn}{a b:Array Operand}:kO P G o ops d (.makeFunc f a b) dst ct env U ks Q=kS P G o ops (sem (Dof P) G env U (.makeFunc f a b)) dst ct env ks Q:=by simp only[kO,kS];rw[WK]
@[simp ↓]theorem kO_makeMap {t:TypeId}{r:Option Operand}:kO P G o ops d (.makeMap t r) dst ct env U ks Q=kS P G o ops (sem (Dof P) G env U (.makeMap t r)) dst ct env ks Q:=by simp only[kO,kS];rw[qac]
theorem Q1 {t:TypeId}{x y:Operand}(hmu:o.mu=false):kO P G o ops d (.makeSlice t x y) dst ct env U ks Q=kS P G o ops (sem (Dof P) G env U (.makeSlice t x y)) dst ct env ks Q:=by
 simp only[kO,kS];cases d
 . rw[Qg,hmu,qhN,WI]
 . rw[J0]
@[simp ↓]theorem qli {u:List (Nat×Sch×List Nat)}{lw:List Nat}{v:List (Nat×Nat)}{t:TypeId}{x y:Operand}:kO P G ⟨false,u,lw,v⟩ ops d (.makeSlice t x y) dst ct env U ks Q=kS P G ⟨false,u,lw,v⟩ ops (sem (Dof P) G env U (.makeSlice t x y)) dst ct env ks Q:=Q1 rfl
@[simp ↓]theorem qlj {t:TypeId}{x y:Operand}:kO P G o0 ops d (.makeSlice t x y) dst ct env U ks Q=kS P G o0 ops (sem (Dof P) G env U (.makeSlice t x y)) dst ct env ks Q:=Q1 rfl
@[simp ↓]theorem qlh {u:List (Nat×Sch×List Nat)}{lw:List Nat}{v:List (Nat×Nat)}{t:TypeId}{x y:Operand}:kO P G ⟨true,u,lw,v⟩ ops false (.makeSlice t x y) dst ct env U ks Q=kY P G ⟨true,u,lw,v⟩ ops (mkX (Dof P) true U t (ev G env x) (ev G env y)) (sem (Dof P) G env U (.makeSlice t x y)) dst ct env ks Q:=by simp only[kO,kY];rw[Qg]
@[simp ↓]theorem kO_slice {t:TypeId}{x:Operand}{lo hi mx:Option Operand}:kO P G o ops d (.slice t x lo hi mx) dst ct env U ks Q=kS P G o ops (sem (Dof P) G env U (.slice t x lo hi mx)) dst ct env ks Q:=by simp only[kO,kS];rw[qe2]
@[simp ↓]theorem qnc {t:TypeId}{x:Operand}{i:Nat}:kO P G o ops d (.fieldAddr t x i) dst ct env U ks Q=kS P G o ops (sem (Dof P) G env U (.fieldAddr t x i)) dst ct env ks Q:=by simp only[kO,kS];rw[Kr]
@[simp ↓]theorem kO_field {t:TypeId}{x:Operand}{i:Nat}:kO P G o ops d (.field t x i) dst ct env U ks Q=kS P G o ops (sem (Dof P) G env U (.field t x i)) dst ct env ks Q:=by simp only[kO,kS];rw[qe4]
@[simp ↓]theorem qnb {t:TypeId}{x y:Operand}:kO P G o ops d (.indexAddr t x y) dst ct env U ks Q=kS P G o ops (sem (Dof P) G env U (.indexAddr t x y)) dst ct env ks Q:=by simp only[kO,kS];rw[Kq]
@[simp ↓]theorem kO_index {t:TypeId}{x y:Operand}:kO P G o ops d (.index t x y) dst ct env U ks Q=kS P G o ops (sem (Dof P) G env U (.index t x y)) dst ct env ks Q:=by simp only[kO,kS];rw[qe3]
@[simp ↓]theorem kO_lookup {t:TypeId}{x y:Operand}{k:Bool}:kO P G o ops d (.lookup t x y k) dst ct env U ks Q=kS P G o ops (sem (Dof P) G env U (.lookup t x y k)) dst ct env ks Q:=by simp only[kO,kS];rw[qb7]
@[simp ↓]theorem qna {t:TypeId}{x y z:Operand}:kO P G o ops d (.mapUpdate t x y z) dst ct env U ks Q=kS P G o ops (sem (Dof P) G env U (.mapUpdate t x y z)) dst ct env ks Q:=by simp only[kO,kS];rw[Kp]
@[simp ↓]theorem kO_extract {x:Operand}{i:Nat}:kO P G o ops d (.extract x i) dst ct env U ks Q=kS P G o ops (sem (Dof P) G env U (.extract x i)) dst ct env ks Q:=by simp only[kO,kS];rw[qad]
@[simp ↓]theorem kO_len {a:Array Operand}{t:Array TypeId}:kO P G o ops d (.call { callee:=.builtin .len,args:=a,argTypes:=t }) dst ct env U ks Q=kS P G o ops (sem (Dof P) G env U (.call { callee:=.builtin .len,args:=a,argTypes:=t })) dst ct env ks Q:=by simp only[kO,kS];rw[qjR]
@[simp ↓]theorem kO_min {a:Array Operand}{t:Array TypeId}:kO P G o ops d (.call { callee:=.builtin .min,args:=a,argTypes:=t }) dst ct env U ks Q=kS P G o ops (sem (Dof P) G env U (.call { callee:=.builtin .min,args:=a,argTypes:=t })) dst ct env ks Q:=by simp only[kO,kS];rw[qjQ]
@[simp ↓]theorem qh4 {a:Array Operand}{t:Array TypeId}(hmu:o.mu=false):kO P G o ops d (.call { callee:=.builtin .append,args:=a,argTypes:=t }) dst ct env U ks Q=kS P G o ops (sem (Dof P) G env U (.call { callee:=.builtin .append,args:=a,argTypes:=t })) dst ct env ks Q:=by simp only[kO,kS,hmu];rw[qb9]
@[simp ↓]theorem kO_appendM {s x:Operand}{t u:TypeId}(hmu:o.mu=true):kO P G o ops false (.call { callee:=.builtin .append,args:=#[s,x],argTypes:=#[t,u] }) dst ct env U ks Q=kY P G o ops ((zx (Dof P) U t u (ev G env s) (ev G env x)).map fun p=>[p]) (sem (Dof P) G env U (.call { callee:=.builtin .append,args:=#[s,x],argTypes:=#[t,u] })) dst ct env ks Q:=by simp only[kO,kY,hmu];rw[qaf]
@[simp ↓]theorem kO_copy {x y:Operand}{t u:TypeId}:kO P G o ops false (.call { callee:=.builtin .copy,args:=#[x,y],argTypes:=#[t,u] }) dst ct env U ks Q=kY P G o ops ((yJ (Dof P) U t (ev G env x) (ev G env y)).map fun p=>[p]) none dst ct env ks Q:=by simp only[kO,kY];rw[qgD]
@[simp ↓]theorem kO_append0 {a:Array Operand}{t:Array TypeId}:kO P G o0 ops d (.call { callee:=.builtin .append,args:=a,argTypes:=t }) dst ct env U ks Q=kS P G o0 ops (sem (Dof P) G env U (.call { callee:=.builtin .append,args:=a,argTypes:=t })) dst ct env ks Q:=qh4 rfl
end
section
@[simp]theorem atom_any  : AV.atom (.any)=false:=rfl
@[simp]theorem qp3  : qQ (.any)=none:=rfl
@[simp]theorem pl1_any  : pl1 (.any)=.any:=rfl
@[simp]theorem pl2_any  : pl2 (.any)=.any:=rfl
@[simp]theorem plain_any  : plain (.any)=.any:=rfl
@[simp]theorem fin1_any  {H:List Blk}:kN H (.any)=.any:=rfl
@[simp]theorem fin2_any  {H:List Blk}:ZD H (.any)=.any:=rfl
@[simp]theorem fin_any  {H:List Blk}:fin H (.any)=.any:=rfl
@[simp]theorem atom_bool {b:Bool}:AV.atom (.bool b)=true:=rfl
@[simp]theorem qnE {b:Bool}:qQ (.bool b)=some [.bool b]:=rfl
@[simp]theorem pl1_bool {b:Bool}:pl1 (.bool b)=.bool b:=rfl
@[simp]theorem pl2_bool {b:Bool}:pl2 (.bool b)=.bool b:=rfl
@[simp]theorem plain_bool {b:Bool}:plain (.bool b)=.bool b:=rfl
@[simp]theorem fin1_bool {b:Bool}{H:List Blk}:kN H (.bool b)=.bool b:=rfl
@[simp]theorem fin2_bool {b:Bool}{H:List Blk}:ZD H (.bool b)=.bool b:=rfl
@[simp]theorem fin_bool {b:Bool}{H:List Blk}:fin H (.bool b)=.bool b:=rfl
@[simp]theorem atom_int {k:IntKind}{n:Int}:AV.atom (.int k n)=true:=rfl
@[simp]theorem qp2 {k:IntKind}{n:Int}:qQ (.int k n)=some [.int k n]:=rfl
@[simp]theorem pl1_int {k:IntKind}{n:Int}:pl1 (.int k n)=.int k n:=rfl
@[simp]theorem pl2_int {k:IntKind}{n:Int}:pl2 (.int k n)=.int k n:=rfl
@[simp]theorem plain_int {k:IntKind}{n:Int}:plain (.int k n)=.int k n:=rfl
@[simp]theorem fin1_int {k:IntKind}{n:Int}{H:List Blk}:kN H (.int k n)=.int k n:=rfl
@[simp]theorem fin2_int {k:IntKind}{n:Int}{H:List Blk}:ZD H (.int k n)=.int k n:=rfl
@[simp]theorem fin_int {k:IntKind}{n:Int}{H:List Blk}:fin H (.int k n)=.int k n:=rfl
@[simp]theorem atom_str {s:List UInt8}:AV.atom (.str s)=true:=rfl
@[simp]theorem qpZ {s:List UInt8}:qQ (.str s)=some [.str s]:=rfl
@[simp]theorem pl1_str {s:List UInt8}:pl1 (.str s)=.str s:=rfl
@[simp]theorem pl2_str {s:List UInt8}:pl2 (.str s)=.str s:=rfl
@[simp]theorem plain_str {s:List UInt8}:plain (.str s)=.str s:=rfl
@[simp]theorem fin1_str {s:List UInt8}{H:List Blk}:kN H (.str s)=.str s:=rfl
@[simp]theorem fin2_str {s:List UInt8}{H:List Blk}:ZD H (.str s)=.str s:=rfl
@[simp]theorem fin_str {s:List UInt8}{H:List Blk}:fin H (.str s)=.str s:=rfl
@[simp]theorem atom_nilp  : AV.atom (.nilp)=true:=rfl
@[simp]theorem qnA  : qQ (.nilp)=some [.nilp]:=rfl
@[simp]theorem pl1_nilp  : pl1 (.nilp)=.nilp:=rfl
@[simp]theorem pl2_nilp  : pl2 (.nilp)=.nilp:=rfl
@[simp]theorem plain_nilp  : plain (.nilp)=.nilp:=rfl
@[simp]theorem fin1_nilp  {H:List Blk}:kN H (.nilp)=.nilp:=rfl
@[simp]theorem fin2_nilp  {H:List Blk}:ZD H (.nilp)=.nilp:=rfl
@[simp]theorem fin_nilp  {H:List Blk}:fin H (.nilp)=.nilp:=rfl
@[simp]theorem atom_ptr {b o:Nat}:AV.atom (.ptr b o)=true:=rfl
@[simp]theorem qp0 {b o:Nat}:qQ (.ptr b o)=some [.ptr b o]:=rfl
@[simp]theorem pl1_ptr {b o:Nat}:pl1 (.ptr b o)=.ptr b o:=rfl
@[simp]theorem pl2_ptr {b o:Nat}:pl2 (.ptr b o)=.ptr b o:=rfl
@[simp]theorem plain_ptr {b o:Nat}:plain (.ptr b o)=.ptr b o:=rfl
@[simp]theorem fin1_ptr {b o:Nat}{H:List Blk}:kN H (.ptr b o)=.ptr b o:=rfl
@[simp]theorem fin2_ptr {b o:Nat}{H:List Blk}:ZD H (.ptr b o)=.ptr b o:=rfl
@[simp]theorem fin_ptr {b o:Nat}{H:List Blk}:fin H (.ptr b o)=.ptr b o:=rfl
@[simp]theorem atom_rptr {c:List AV}:AV.atom (.rptr c)=true:=rfl
@[simp]theorem qnz {c:List AV}:qQ (.rptr c)=some [.rptr c]:=rfl
@[simp]theorem pl1_rptr {c:List AV}:pl1 (.rptr c)=.rptr c:=rfl
@[simp]theorem pl2_rptr {c:List AV}:pl2 (.rptr c)=.rptr c:=rfl
@[simp]theorem plain_rptr {c:List AV}:plain (.rptr c)=.rptr c:=rfl
@[simp]theorem fin1_rptr {c:List AV}{H:List Blk}:kN H (.rptr c)=.rptr c:=rfl
@[simp]theorem fin2_rptr {c:List AV}{H:List Blk}:ZD H (.rptr c)=.rptr c:=rfl
@[simp]theorem fin_rptr {c:List AV}{H:List Blk}:fin H (.rptr c)=.rptr c:=rfl
@[simp]theorem atom_nilm  : AV.atom (.nilm)=true:=rfl
@[simp]theorem qnB  : qQ (.nilm)=some [.nilm]:=rfl
@[simp]theorem pl1_nilm  : pl1 (.nilm)=.nilm:=rfl
@[simp]theorem pl2_nilm  : pl2 (.nilm)=.nilm:=rfl
@[simp]theorem plain_nilm  : plain (.nilm)=.nilm:=rfl
@[simp]theorem fin1_nilm  {H:List Blk}:kN H (.nilm)=.nilm:=rfl
@[simp]theorem fin2_nilm  {H:List Blk}:ZD H (.nilm)=.nilm:=rfl
@[simp]theorem fin_nilm  {H:List Blk}:fin H (.nilm)=.nilm:=rfl
@[simp]theorem atom_map {b:Nat}:AV.atom (.map b)=true:=rfl
@[simp]theorem qp1 {b:Nat}:qQ (.map b)=some [.map b]:=rfl
@[simp]theorem pl1_map {b:Nat}:pl1 (.map b)=.map b:=rfl
@[simp]theorem pl2_map {b:Nat}:pl2 (.map b)=.map b:=rfl
@[simp]theorem plain_map {b:Nat}:plain (.map b)=.map b:=rfl
@[simp]theorem fin1_map {b:Nat}{H:List Blk}:kN H (.map b)=.map b:=rfl
@[simp]theorem fin2_map {b:Nat}{H:List Blk}:ZD H (.map b)=.map b:=rfl
@[simp]theorem fin_map {b:Nat}{H:List Blk}:fin H (.map b)=.map b:=rfl
@[simp]theorem atom_iter {b:Nat}:AV.atom (.iter b)=true:=rfl
@[simp]theorem qnD {b:Nat}:qQ (.iter b)=some [.iter b]:=rfl
@[simp]theorem pl1_iter {b:Nat}:pl1 (.iter b)=.iter b:=rfl
@[simp]theorem pl2_iter {b:Nat}:pl2 (.iter b)=.iter b:=rfl
@[simp]theorem plain_iter {b:Nat}:plain (.iter b)=.iter b:=rfl
@[simp]theorem fin1_iter {b:Nat}{H:List Blk}:kN H (.iter b)=.iter b:=rfl
@[simp]theorem fin2_iter {b:Nat}{H:List Blk}:ZD H (.iter b)=.iter b:=rfl
@[simp]theorem fin_iter {b:Nat}{H:List Blk}:fin H (.iter b)=.iter b:=rfl
@[simp]theorem atom_fn {f:FuncId}{a c:List AV}:AV.atom (.fn f a c)=true:=rfl
@[simp]theorem acells_fnB {f:FuncId}{a c:List AV}:qQ (.fn f a c)=some [.fn f a c]:=rfl
@[simp]theorem pl1_fn {f:FuncId}{a c:List AV}:pl1 (.fn f a c)=.fn f a c:=rfl
@[simp]theorem pl2_fn {f:FuncId}{a c:List AV}:pl2 (.fn f a c)=.fn f a c:=rfl
@[simp]theorem plain_fn {f:FuncId}{a c:List AV}:plain (.fn f a c)=.fn f a c:=rfl
@[simp]theorem fin1_fn {f:FuncId}{a c:List AV}{H:List Blk}:kN H (.fn f a c)=.fn f a c:=rfl
@[simp]theorem fin2_fn {f:FuncId}{a c:List AV}{H:List Blk}:ZD H (.fn f a c)=.fn f a c:=rfl
@[simp]theorem fin_fn {f:FuncId}{a c:List AV}{H:List Blk}:fin H (.fn f a c)=.fn f a c:=rfl
@[simp]theorem atom_nilf  : AV.atom (.nilf)=true:=rfl
@[simp]theorem qnC  : qQ (.nilf)=some [.nilf]:=rfl
@[simp]theorem pl1_nilf  : pl1 (.nilf)=.nilf:=rfl
@[simp]theorem pl2_nilf  : pl2 (.nilf)=.nilf:=rfl
@[simp]theorem plain_nilf  : plain (.nilf)=.nilf:=rfl
@[simp]theorem fin1_nilf  {H:List Blk}:kN H (.nilf)=.nilf:=rfl
@[simp]theorem fin2_nilf  {H:List Blk}:ZD H (.nilf)=.nilf:=rfl
@[simp]theorem fin_nilf  {H:List Blk}:fin H (.nilf)=.nilf:=rfl
@[simp]theorem atom_sl {sz:Nat}{rows:List (List AV)}{tok:Tok}:AV.atom (.sl sz rows tok)=true:=rfl
@[simp]theorem acells_slB {sz:Nat}{rows:List (List AV)}{tok:Tok}:qQ (.sl sz rows tok)=some [.sl sz rows tok]:=rfl
@[simp]theorem qoy {sz:Nat}{rows:List (List AV)}  : pl1 (.sl sz rows .none)=.sl sz rows .none:=rfl
@[simp]theorem qox {sz:Nat}{rows:List (List AV)}  : pl2 (.sl sz rows .none)=.sl sz rows .none:=rfl
@[simp]theorem qkN {sz:Nat}{rows:List (List AV)}  : plain (.sl sz rows .none)=.sl sz rows .none:=rfl
@[simp]theorem qnk {sz:Nat}{rows:List (List AV)}  {H:List Blk}:kN H (.sl sz rows .none)=.sl sz rows .none:=rfl
@[simp]theorem qnj {sz:Nat}{rows:List (List AV)}  {H:List Blk}:ZD H (.sl sz rows .none)=.sl sz rows .none:=rfl
@[simp]theorem qpo {sz:Nat}{rows:List (List AV)}  {H:List Blk}:fin H (.sl sz rows .none)=.sl sz rows .none:=rfl
@[simp]theorem pl1_sl_nil {sz:Nat}{rows:List (List AV)}  : pl1 (.sl sz rows .nil)=.sl sz rows .nil:=rfl
@[simp]theorem pl2_sl_nil {sz:Nat}{rows:List (List AV)}  : pl2 (.sl sz rows .nil)=.sl sz rows .nil:=rfl
@[simp]theorem qmS {sz:Nat}{rows:List (List AV)}  : plain (.sl sz rows .nil)=.sl sz rows .nil:=rfl
@[simp]theorem qpr {sz:Nat}{rows:List (List AV)}  {H:List Blk}:kN H (.sl sz rows .nil)=.sl sz rows .nil:=rfl
@[simp]theorem qpq {sz:Nat}{rows:List (List AV)}  {H:List Blk}:ZD H (.sl sz rows .nil)=.sl sz rows .nil:=rfl
@[simp]theorem fin_sl_nil {sz:Nat}{rows:List (List AV)}  {H:List Blk}:fin H (.sl sz rows .nil)=.sl sz rows .nil:=rfl
@[simp]theorem qmV {sz:Nat}{rows:List (List AV)}  : pl1 (.sl sz rows .tight)=.sl sz rows .tight:=rfl
@[simp]theorem qmT {sz:Nat}{rows:List (List AV)}  : pl2 (.sl sz rows .tight)=.sl sz rows .tight:=rfl
@[simp]theorem qjF {sz:Nat}{rows:List (List AV)}  : plain (.sl sz rows .tight)=.sl sz rows .tight:=rfl
@[simp]theorem qlH {sz:Nat}{rows:List (List AV)}  {H:List Blk}:kN H (.sl sz rows .tight)=.sl sz rows .tight:=rfl
@[simp]theorem qlF {sz:Nat}{rows:List (List AV)}  {H:List Blk}:ZD H (.sl sz rows .tight)=.sl sz rows .tight:=rfl
@[simp]theorem qnh {sz:Nat}{rows:List (List AV)}  {H:List Blk}:fin H (.sl sz rows .tight)=.sl sz rows .tight:=rfl
@[simp]theorem qmW {sz:Nat}{rows:List (List AV)}{t k:Nat}:pl1 (.sl sz rows (.chain t k))=.sl sz rows .none:=rfl
@[simp]theorem qmU {sz:Nat}{rows:List (List AV)}{t k:Nat}:pl2 (.sl sz rows (.chain t k))=.sl sz rows .none:=rfl
@[simp]theorem qjG {sz:Nat}{rows:List (List AV)}{t k:Nat}:plain (.sl sz rows (.chain t k))=.sl sz rows .none:=rfl
@[simp]theorem qlI {sz:Nat}{rows:List (List AV)}{t k:Nat}{H:List Blk}:kN H (.sl sz rows (.chain t k))=.sl sz rows .none:=rfl
@[simp]theorem qlG {sz:Nat}{rows:List (List AV)}{t k:Nat}{H:List Blk}:ZD H (.sl sz rows (.chain t k))=.sl sz rows .none:=rfl
@[simp]theorem qni {sz:Nat}{rows:List (List AV)}{t k:Nat}{H:List Blk}:fin H (.sl sz rows (.chain t k))=.sl sz rows .none:=rfl
@[simp]theorem atom_ms {b o l z:Nat}:AV.atom (.ms b o l z)=true:=rfl
@[simp]theorem acells_msB {b o l z:Nat}:qQ (.ms b o l z)=some [.ms b o l z]:=rfl
@[simp]theorem pl1_ms {b o l z:Nat}:pl1 (.ms b o l z)=.ms b o l z:=rfl
@[simp]theorem pl2_ms {b o l z:Nat}:pl2 (.ms b o l z)=.ms b o l z:=rfl
@[simp]theorem plain_ms {b o l z:Nat}:plain (.ms b o l z)=.ms b o l z:=rfl
@[simp]theorem atom_agg {c:List AV}:AV.atom (.agg c)=false:=rfl
@[simp]theorem atom_tup {c:List AV}:AV.atom (.tup c)=false:=rfl
@[simp]theorem qp4 {c:List AV}:qQ (.agg c)=if c.all AV.atom=true then some c else none:=rfl
@[simp]theorem acells_tup {c:List AV}:qQ (.tup c)=none:=rfl
@[simp]theorem pl2_agg {c:List AV}:pl2 (.agg c)=.agg (c.map pl1):=rfl
@[simp]theorem plain_agg {c:List AV}:plain (.agg c)=.agg (c.map pl1):=rfl
@[simp]theorem fin2_agg {c:List AV}{H:List Blk}:ZD H (.agg c)=.agg (c.map (kN H)):=rfl
@[simp]theorem fin_agg {c:List AV}{H:List Blk}:fin H (.agg c)=.agg (c.map (kN H)):=rfl
@[simp]theorem plain_tup {c:List AV}:plain (.tup c)=.tup (c.map pl2):=rfl
@[simp]theorem fin_tup {c:List AV}{H:List Blk}:fin H (.tup c)=.tup (c.map (ZD H)):=rfl
end
attribute [simp] qtA qsr
attribute [simp] zn zS qF qk qu zL Zq qU TD.isSl TD.isPtr TD.isMap TD.isFn
section
variable {A t:List Blk}{k:Nat}{x:Blk}
@[simp]theorem at_app0:(A++t)[A.length]?=t[0]? := by rw[qql (qqn _),qro]
@[simp]theorem at_appk:(A++t)[A.length+k]?=t[k]? := by rw[qql (by omega)];congr 1;try omega
theorem qa (h:A[k]?=some x)(t:List Blk):(A++t)[k]?=some x:=by rw[qqq (qqc.1 h).1,h]
theorem yQ {b:Nat}(h:A[b]?=some x)(t:List Blk)(y:Blk):(A++t).set b y=A.set b y++t:=List.set_append_left _ _ (qqc.1 h).1
end
section
variable {P:Program}{G:Glo}{U:St}{f:FuncId}{args:List AV}{r:AV}
theorem Pure.kO {G : Nat → AV} {fn : Func} {c : Code} (o : Opts) (deep : Bool) (hm : P.follows .mixedOrders = true) (hf : P.funcs[f]? = some fn) (hb : fn.body = some c) (hk : (jC fn.ntmps o c && decide (args.length ≤ fn.ntmps) && fn.name != "runtime.NumGoroutine") = true)
 (h:kC P G o c (ZH args) ⟨[],[]⟩ [] (qbr P deep fn.results.toList r)):Pure P G f args r:=Pure.vcO o deep hm hf hb hk h
theorem Pure.k {G : Nat → AV} {fn : Func} {c : Code} (hm : P.follows .mixedOrders = true) (hf : P.funcs[f]? = some fn) (hb : fn.body = some c) (hk : (jC fn.ntmps o0 c && decide (args.length ≤ fn.ntmps) && fn.name != "runtime.NumGoroutine") = true)
 (h:kC P G o0 c (ZH args) ⟨[],[]⟩ [] (qbr P false fn.results.toList r)):Pure P G f args r:=Pure.vc hm hf hb hk h
theorem qf.kO {fn : Func} {c : Code} {Q : AV → St → Prop} (o : Opts) (hm : P.follows .mixedOrders = true) (hf : P.funcs[f]? = some fn) (hb : fn.body = some c) (hk : (jC fn.ntmps o c && decide (args.length ≤ fn.ntmps) && fn.name != "runtime.NumGoroutine") = true)
 (h:kC P G o c (ZH args) U [] (qbU P fn.results.toList Q)):qf P G f args U Q:=qf.vcO o hm hf hb hk h
theorem qf.k {fn : Func} {c : Code} {Q : AV → St → Prop} (hm : P.follows .mixedOrders = true) (hf : P.funcs[f]? = some fn) (hb : fn.body = some c) (hk : (jC fn.ntmps o0 c && decide (args.length ≤ fn.ntmps) && fn.name != "runtime.NumGoroutine") = true)
 (h:kC P G o0 c (ZH args) U [] (qbU P fn.results.toList Q)):qf P G f args U Q:=qf.vc hm hf hb hk h
end
section
variable {P:Program}{G:Glo}{o:Opts}{ops:Array Oper}{d:Bool}{g:FuncId}{args args':List AV}{env:Env}{U:St}{ks:List Fr}{Q:Exit->Env->St->Prop}{dst:Option Nat}{ct:Ct}{r:AV}
theorem qc.call (h:Pure P G g args r)(hno:qv args=true)(hq:kT P G o ops ct (upd env dst r) U ks Q):qc P G o ops d g args U dst ct env ks Q:=qb.call h hno hq
theorem qc.less (h:Pure P G g args' r)(hno:qv args=true)(ha:zu args args')(hq:kT P G o ops ct (upd env dst r) U ks Q):qc P G o ops d g args U dst ct env ks Q:=qb.less h hno ha hq
theorem qc.pure (h:Pure P G g args' r)(hno:qv (args.map plain)=true)(ha:zu (args.map plain) args')(hq:kT P G o ops ct (upd env dst r) U ks Q):qc P G o ops d g args U dst ct env ks Q:=qb.pure h hno ha hq
theorem qc.lent (h:Pure P G g args' r)(hb:bare r=true)(ha:zu (args.map (frz U.H 8)) args')(hq:kT P G o ops ct (upd env dst r) U ks Q):qc P G o ops d g args U dst ct env ks Q:=qb.lent h hb ha hq
theorem qc.acall {R:AV->St->Prop}(h:qf P G g args U R)(hq:∀ v U',R v U'->kT P G o ops ct (upd env dst v) U' ks Q):qc P G o ops false g args U dst ct env ks Q:=qf.imp h hq
theorem qX.list {α:Type}(l:List α)(J:List α->Env->St->Prop){c:Code}(h0:J [] env U)
 (hs:∀ d v r env U,l=d++v::r->l[d.length]?=some v->d.length<l.length->J d env U->kC P G o c env U (.loop (J (d++[v]))::ks) Q)
 (he:∀ env U,J l env U->kC P G o c env U (.loop (fun _ _=>False)::ks) Q) (hp:jQ c=true:=by rfl):qX P G o c env U ks Q:=qy.list l J h0 hs he hp
theorem qX.count (n:Nat)(J:Nat->Env->St->Prop){c:Code}(h0:J 0 env U)
 (hs:∀ i env U,i<n->J i env U->kC P G o c env U (.loop (J (i+1))::ks) Q)
 (he:∀ env U,J n env U->kC P G o c env U (.loop (fun _ _=>False)::ks) Q) (hp:jQ c=true:=by rfl):qX P G o c env U ks Q:=qy.count n J h0 hs he hp
theorem qX.gen {c:Code}(I:Nat->Env->St->Prop)(n:Nat)(h:I n env U)(hr:∀ n env U (R:Env->St->Prop),(∀ m env U,m<n->I m env U->R env U)->I n env U->kC P G o c env U (.loop R::ks) Q):qX P G o c env U ks Q :=
 qy.intro I n h fun n env U hI=>hr n env U _ (fun m env U hm hI=>⟨m,hm,hI⟩) hI
end
end
section
def js {α:Type}(b sz:Nat)(en:α->List AV)(H:List Blk)(v:AV)(l:List α):Prop :=
 (l=[]/\v=.sl 0 [] .nil)\/(l≠[]/\v=.ms b 0 l.length sz/\H[b]?=some (.cells (l.flatMap en)))
section
variable {α:Type}{b sz:Nat}{en:α->List AV}{H:List Blk}{v:AV}{l m:List α}
theorem v8 (hl:∀ x,(en x).length=sz):∀ (l:List α) (t:List AV),wN sz l.length (l.flatMap en++t)=l.map en
 | [],t=>by simp[wN]
 | a::r,t=>by
  have h1:((a::r).flatMap en++t).take sz=en a:=by
   rw[qqD,qqI,qre (by rw[hl];exact qqn _),qqk (by rw[hl];exact qqn _)]
  have h2:((a::r).flatMap en++t).drop sz=r.flatMap en++t:=by
   rw[qqD,qqI,qsB (by rw[hl];exact qqn _),qqO (by rw[hl];exact qqn _),qqw]
  show ((a::r).flatMap en++t).take sz::wN sz r.length (((a::r).flatMap en++t).drop sz)=en a::r.map en;rw[h1,h2,v8 hl r t]
theorem z9 (hl:∀ x,(en x).length=sz):∀ (l:List α),(l.flatMap en).length=l.length*sz
 | []=>by simp
 | a::r=>by rw[qqD,qqg,hl,z9 hl r,qqs,qso];omega
theorem Q5 (hn:∀ x,qv (en x)=true){n:Nat}:∀ (l:List α),(l.map en).map (·.map (frz H n))=l.map en
 | []=>rfl
 | a::r=>by
  have h:(en a).map (frz H n)=en a:=by
   have:=hn a;generalize en a=c at this
   induction c with
   | nil=>rfl
   | cons x y ih=>
    simp only[qv,qqi]at this;rw[qqp,qI this.1,ih this.2]
  rw[qqp,qqp,h,Q5 hn r]
theorem js.frz (h:js b sz en H v l)(hl:∀ x,(en x).length=sz)(hn:∀ x,qv (en x)=true)(ha:∀ x,(en x).all AV.atom=true)(n:Nat):Leq (frz H (n+1) v) (.sl sz (l.map en) .none):=by
 rcases h with ⟨rfl,rfl⟩|⟨hne,rfl,hb⟩
 . rw[qI (by simp)];simp
 . have hc:=v8 hl l [];rw[qqV]at hc;have hall:((wN sz l.length (l.flatMap en)).map (·.map (Abs.frz H n))).all (·.all AV.atom)=true:=by
    rw[hc,Q5 hn,qtv,qqo];intro x _;exact ha x
   unfold Abs.frz;simp only[qR,qqy,if_false,hb,qrx];rw[if_pos ⟨by rw[z9 hl];omega,hall⟩,hc,Q5 hn];exact Leq.refl _
theorem js.append {D:Nat->Option TI}{T:List (Option Nat)}{ty e:Nat}{i j:TI}{tok:Tok}(h:js b sz en H v l)(hi:D ty=some i)(hd:i.d=.sl e)(hj:D e=some j)(hsz:j.size=sz)(h0:0<sz)(hz:j.zero.length=sz)(hbt:j.bytes<=256)
 (hl:∀ x,(en x).length=sz) (hlen:l.length+m.length<=549755813888) (hm:m≠[]) :
 ∃ v' H',zx D ⟨H,T⟩ ty ty v (.sl sz (m.map en) tok)=some (v',⟨H',T⟩)/\js H.length sz en H' v' (l++m)/\(∀ (k:Nat) (x:Blk),H[k]?=some x->(l=[]\/k≠b)->H'[k]?=some x)/\H'.length=H.length+1:=by
 subst hsz;have hml:m.length≠0:=fun h=>hm (qsq.1 h)
 have hfl:(m.map en).flatten=m.flatMap en:=by rw[qr0]
 rcases h with ⟨rfl,rfl⟩|⟨hne,rfl,hb⟩
 . refine⟨.ms H.length 0 m.length j.size,H++[.cells (m.flatMap en)],?_,?_,?_,by simp⟩
   . have:m.length<=549755813888:=by simpa using hlen
     simp[zx,jg,hi,hd,hj,h0,hz,hbt,WV,qU,hml,this,hm,hfl]
   . right;refine⟨by simpa using hm,by simp,by simp⟩
   . intro k x hk _;rw[qqq (qqc.1 hk).1,hk]
 . have hfl2:=z9 hl l;refine⟨.ms H.length 0 (l.length+m.length) j.size,H.set b .dead++[.cells (l.flatMap en++m.flatMap en)],?_,?_,?_,by simp⟩
   . have ht:(l.flatMap en).take (l.length*j.size)=l.flatMap en:=qqk (by omega);have hle:l.length*j.size<=(l.flatMap en).length:=(by omega);rw[hfl2]at hle;simp[zx,jg,hi,hd,hj,h0,hz,hbt,WV,qU,hml,hlen,hm,hfl,hb,hfl2,ht]
   . right;refine⟨by simp[hne],by simp,by simp⟩
   . intro k x hk hkb;have hkb:=hkb.resolve_left hne;rw[qqq (by rw[qry];exact (qqc.1 hk).1),qqf (Ne.symm hkb),hk]
theorem js.append0 {D:Nat->Option TI}{T:List (Option Nat)}{ty e:Nat}{i j:TI}{sz2:Nat}{tok:Tok}(h:js b sz en H v l)(hi:D ty=some i)(hd:i.d=.sl e)(hj:D e=some j)(hne:l≠[]) :
 zx D ⟨H,T⟩ ty ty v (.sl sz2 [] tok)=some (v,⟨H,T⟩):=by
 rcases h with ⟨rfl,rfl⟩|⟨hne,rfl,hb⟩
 . exact absurd rfl hne
 . simp only[zx,jg,hi,hd,hj,qU,WV];split<;>simp_all
theorem js.frzNo (h:js b sz en H v l)(hl:∀ x,(en x).length=sz)(hn:∀ x,qv (en x)=true)(ha:∀ x,(en x).all AV.atom=true)(n:Nat):qR (Abs.frz H (n+1) v)=true:=by
 rcases h with ⟨rfl,rfl⟩|⟨hne,rfl,hb⟩
 . rw[qI (by simp)];simp
 . have hc:=v8 hl l [];rw[qqV]at hc;have hall:((wN sz l.length (l.flatMap en)).map (·.map (Abs.frz H n))).all (·.all AV.atom)=true:=by
    rw[hc,Q5 hn,qtv,qqo];intro x _;exact ha x
   unfold Abs.frz;simp only[qR,qqy,if_false,hb,qrx];rw[if_pos ⟨by rw[z9 hl];omega,hall⟩,hc,Q5 hn];simpa using zy hn l
theorem js.lt (h:js b sz en H v l)(hl:l≠[]):b<H.length:=by
 rcases h with ⟨h,_⟩|⟨_,_,h⟩
 . exact absurd h hl
 . exact (qqc.1 h).1
theorem js.keep {H':List Blk}(h:js b sz en H v l)(hk:∀ x,l≠[]->H[b]?=some x->H'[b]?=some x):js b sz en H' v l:=by
 rcases h with h|⟨h1,h2,h3⟩
 . exact .inl h
 . exact .inr ⟨h1,h2,hk _ h1 h3⟩
theorem js.at (h:js b sz en H v l)(hl:l≠[]):v=.ms b 0 l.length sz/\H[b]?=some (.cells (l.flatMap en)):=by
 rcases h with ⟨h,_⟩|⟨_,h1,h2⟩
 . exact absurd h hl
 . exact⟨h1,h2⟩
end
section
variable {α:Type}{b sz:Nat}{en:α->List AV}{H:List Blk}{v:AV}{l m:List α}
theorem js.appendK {P:Program}{G:Glo}{o:Opts}{D:Nat->Option TI}{T:List (Option Nat)}{ty e:Nat}{i j:TI}{tok:Tok}(h:js b sz en H v l)(hi:D ty=some i)(hd:i.d=.sl e)(hj:D e=some j)(hsz:j.size=sz)(h0:0<sz)(hz:j.zero.length=sz)(hbt:j.bytes<=256)
 (hl:∀ x,(en x).length=sz) (hlen:l.length+m.length<=549755813888) :
 ∃ v' b' H',(∀ ops dst ct env ks Q,kY P G o ops ((zx D ⟨H,T⟩ ty ty v (.sl sz (m.map en) tok)).map fun p=>[p]) (qO D ⟨H,T⟩ ty v (.sl sz (m.map en) tok)) dst ct env ks Q=kT P G o ops ct (upd env dst v') ⟨H',T⟩ ks Q) /\
  js b' sz en H' v' (l++m)/\(b'=b\/b'=H.length)/\(∀ (k:Nat) (x:Blk),H[k]?=some x->(l=[]\/k≠b)->H'[k]?=some x)/\H.length<=H'.length:=by
 by_cases hm:m=[]
 . subst hm;rw[qqV];by_cases hne:l=[]
   . rcases h with ⟨rfl,rfl⟩|⟨hne',_⟩
     . refine⟨.sl 0 [] .nil,b,H,fun ops dst ct env ks Q=>?_,.inl ⟨rfl,rfl⟩,.inl rfl,fun k x hk _=>hk,qqn _⟩;subst hsz;have hX:zx D ⟨H,T⟩ ty ty (.sl 0 [] .nil) (.sl j.size [] tok)=none:=by
        simp[zx,jg,hi,hd,hj,qU,WV]
       have hA:qO D ⟨H,T⟩ ty (.sl 0 [] .nil) (.sl j.size [] tok)=some (.sl 0 [] .nil,⟨H,T⟩):=by
        simp[qO,hi,hd,hj,zL,h0,hz,hbt]
       rw[qqU,hX,hA];simp
     . exact absurd hne hne'
   . refine⟨v,b,H,fun ops dst ct env ks Q=>?_,h,.inl rfl,fun k x hk _=>hk,qqn _⟩;rw[qqU,h.append0 hi hd hj hne];simp
 . obtain⟨v',H',h1,h2,h3,h4⟩:=h.append (T:=T) (tok:=tok) hi hd hj hsz h0 hz hbt hl hlen hm;refine⟨v',H.length,H',fun ops dst ct env ks Q=>?_,h2,.inr rfl,h3,by omega⟩;rw[h1];simp
end
section
variable {A t:List Blk}{b k:Nat}{x y:Blk}
end
theorem vz {c:List AV}:∀ (new:List AV) (pre:List AV) (off:Nat),zj (pre++c) (pre.length+off) new=pre++zj c off new
 | new,pre,off=>by
  induction new generalizing c off with
  | nil=>rfl
  | cons v r ih=>
   rw[zj,zj,qrh _ _ (by omega),qq7,qsb];exact ih (off+1)
theorem wA:∀ (new c t:List AV),c.length=new.length->zj (c++t) 0 new=new++t:=by
 have gen:∀ (new pre c t:List AV),c.length=new.length->zj (pre++(c++t)) pre.length new=pre++(new++t):=by
  intro new
  induction new with
  | nil=>intro pre c t h;have:c=[]:=qsq.1 h;subst this;simp[zj]
  | cons v r ih=>
   intro pre c t h
   cases c with
   | nil=>simp at h
   | cons x c=>
    have h':c.length=r.length:=(by simpa using h);have:=ih (pre++[v]) c t h';simp only[qqI,qr3,qqg,qqK]at this;rw[zj];have e:(pre++(x::c++t)).set pre.length v=pre++v::(c++t):=(by simp);rw[e];exact this
 intro new c t h;simpa using gen new [] c t h
theorem vS {α:Type}{sz:Nat}{en:α->List AV}(hl:∀ x,(en x).length=sz):∀ (l:List α) (i:Nat) (v:α),i<l.length->zj (l.flatMap en) (i*sz) (en v)=(l.set i v).flatMap en
 | [],i,v,h=>by simp at h
 | a::r,0,v,_=>by
  rw[qqD,qrK,qti,qqD];exact wA _ _ _ (by rw[hl,hl])
 | a::r,i+1,v,h=>by
  have h':i<r.length:=by simpa using h
  rw[qqD,qsR,qqD,<- vS hl r i v h',qso,qrZ];have:=vz (c:=r.flatMap en) (en v) (en a) (i*sz)
  rwa[hl]at this
section
variable {P:Program}{G:Glo}{o:Opts}{env:Env}{U:St}{ks:List Fr}{Q:Exit->Env->St->Prop}
theorem qX.listR {α:Type}(l:List α)(J:List α->Env->St->Prop){c:Code}(h0:J [] env U)
 (hs:∀ d v r env U (R:Env->St->Prop),(∀ env U,J (d++[v]) env U->R env U)->l=d++v::r->l[d.length]?=some v->d.length<l.length->J d env U->kC P G o c env U (.loop R::ks) Q)
 (he:∀ env U,J l env U->kC P G o c env U (.loop (fun _ _=>False)::ks) Q) (hp:jQ c=true:=by rfl):qX P G o c env U ks Q :=
 qX.list l J h0 (fun d v r env U h1 h2 h3 hJ=>hs d v r env U _ (fun _ _ h=>h) h1 h2 h3 hJ) he hp
end
section
variable {P:Program}{G:Glo}{o:Opts}{env:Env}{U:St}{ks:List Fr}{Q:Exit->Env->St->Prop}
theorem qh5 (hX:G.NoX){g:Operand}{pe gb:Nat}{cap:List AV}{x y:Code}(pre:St->Prop)(vals:List AV)(J:Nat->St->Prop)(hg:ev G env g=.fn gb [] cap)(hfw:FwOk P G gb cap pre vals)(hpre:∀ i U,J i U->pre U)(hJ:J 0 U)
 (hs:∀ i v U,vals[i]?=some v->J i U->kC P G o x (upd env (some pe) v) U [] (fun e env' U'=>e=.normal/\kC P G o y env' U' [] (fun e _ U''=>e=.normal/\J (i+1) U'')))
 (he:∀ U,J vals.length U->kX P G o .normal env U ks Q):kC P G o (.rangeFunc g #[pe] x y) env U ks Q:=by
 unfold kC;simp only[vcC,hg];exact⟨pre,vals,J,hX,hfw,hpre,hJ,hs,he⟩
end
theorem qik {H:List Blk}{b off n:Nat}{c:List AV}(h:H[b]?=some (.cells c)):frz H (n+1) (.ptr b off)=.rptr ((c.drop off).map (frz H n)):=by
 rw[frz];simp[qR,h]
theorem qij {H:List Blk}{n:Nat}{s:List UInt8}:frz H n (.str s)=.str s:=qI rfl
theorem ZA {H:List Blk}{n:Nat}{k:IntKind}{z:Int}:frz H n (.int k z)=.int k z:=qI rfl
theorem qex {H:List Blk}{n:Nat}{z:Bool}:frz H n (.bool z)=.bool z:=qI rfl
section
variable {P:Program}{G:Glo}{o:Opts}{ops:Array Oper}{ac dp:List Nat}{env:Env}{U:St}{ks:List Fr}{Q:Exit->Env->St->Prop}
def kAl (P:Program)(G:Glo)(o:Opts)(ops:Array Oper)(ac:List Nat)(al:Alts)(env:Env)(U:St)(ks:List Fr)(Q:Exit->Env->St->Prop):Prop:=vk P G o.mu ac ops al env U (fun env U=>itp P G o ks Q .normal env U)
@[simp ↓]theorem kT_fork {al:Alts}:kT P G o ops (.plan ac (.fork al)) env U ks Q=kAl P G o ops ac al env U ks Q:=by simp only[kT,vcS,kAl]
@[simp ↓]theorem kAl_nil:kAl P G o ops ac .nil env U ks Q=True:=by simp only[kAl,vk]
@[simp ↓]theorem kAl_cons {k:Nat}{s:Sch}{r:Alts}:kAl P G o ops ac (.cons k s r) env U ks Q=(kP P G o ops (ops[k]?) (match ops[k]? with | some u=>qN o.mu ac k u.op != 9 | none=>false) (.plan ac s) env U ks Q/\kAl P G o ops ac r env U ks Q):=by
 simp only[kAl,vk,kP,kT];congr 1;split<;>rename_i h<;>simp[h]
end
end
section
section
variable {α:Type}{sz t:Nat}{en:α->List AV}{T:List (Option Nat)}{a s m:List α}
end
section
variable {P:Program}{G:Glo}{o:Opts}{env:Env}{U:St}{ks:List Fr}{Q:Exit->Env->St->Prop}
end
end
section
section
variable {P:Program}{G:Glo}{U:St}{f:FuncId}{args args':List AV}{Q:AV->St->Prop}
theorem qf.leq (h:qf P G f args' U Q)(ha:zu args args'):qf P G f args U Q :=
 ⟨h.1,fun w0 ro0 K w vs hw hvs=>h.2 w0 ro0 K w vs hw (zu.rel _ _ ha hvs)⟩
end
end
section
section
variable {P:Program}{G:Glo}{o:Opts}{ops:Array Oper}{ct:Ct}{env:Env}{U:St}{ks:List Fr}{Q:Exit->Env->St->Prop}
end
end
section
def KD {α:Type}(n sz:Nat)(en:α->List AV)(T:List (Option Nat))(v:AV)(l:List α):Prop :=
 (l=[]/\v=.sl 0 [] .nil)\/(l≠[]/\∃ t,n<=t/\v=.sl sz (l.map en) (.chain t l.length)/\T[t]?=some (some l.length))
section
variable {α:Type}{n sz:Nat}{en:α->List AV}{T T':List (Option Nat)}{v:AV}{l m:List α}
theorem KD.nil:KD n sz en T (.sl 0 [] .nil) ([]:List α):=.inl ⟨rfl,rfl⟩
theorem KD.ext (h:KD n sz en T v l)(hT:T <+: T'):KD n sz en T' v l:=by
 rcases h with h|⟨h1,t,h2,h3,h4⟩
 . exact .inl h
 . obtain⟨u,rfl⟩:=hT;exact .inr ⟨h1,t,h2,h3,by rw[qqq (qqc.1 h4).1,h4]⟩
theorem qfx {T0 T:List (Option Nat)}(h:T0 <+: T){t:Nat}(ht:T0.length<=t)(x:Option Nat):T0 <+: T.set t x:=by
 obtain⟨u,rfl⟩:=h;rw[qrh _ _ ht];exact⟨_,rfl⟩
theorem KD.append {T0:List (Option Nat)}{D:Nat->Option TI}{ty e:Nat}{i j:TI}{tok:Tok}(h:KD T0.length sz en T v l)(hT:T0 <+: T)(hi:D ty=some i)(hd:i.d=.sl e)(hj:D e=some j)(hsz:j.size=sz)(h0:0<sz)(hz:j.zero.length=sz)(hb:j.bytes<=256)
 (hlen:l.length+m.length<=549755813888) (sz2:Nat) (h2:sz2=sz\/m=[]) :
 ∃ v' T',(∀ H,qO D ⟨H,T⟩ ty v (.sl sz2 (m.map en) tok)=some (v',⟨H,T'⟩))/\KD T0.length sz en T' v' (l++m)/\T0 <+: T':=by
 subst hsz;by_cases hm:m=[]
 . subst hm;rw[qqV];refine⟨v,T,fun H=>?_,h,hT⟩;rcases h with ⟨rfl,rfl⟩|⟨hne,t,_,rfl,_⟩
   . simp[qO,hi,hd,hj,h0,hz,hb,zL]
   . have:l.length<=549755813888:=by simpa using hlen
     simp[qO,hi,hd,hj,h0,hz,hb,zL,this]
 . have h2:sz2=j.size:=h2.resolve_right hm;subst h2;have hml:m.length≠0:=fun h=>hm (qsq.1 h)
   rcases h with ⟨rfl,rfl⟩|⟨hne,t,ht,rfl,hk⟩
   . have:m.length<=549755813888:=by simpa using hlen
     refine⟨.sl j.size (m.map en) (.chain T.length m.length),T++[some m.length],fun H=>?_,.inr ⟨by simpa using hm,T.length,?_,by simp,by simp⟩,hT.trans (qtg _ _)⟩
     . simp[qO,hi,hd,hj,h0,hz,hb,zL,this,hm]
     . obtain⟨u,rfl⟩:=hT;simp
   . refine⟨.sl j.size ((l++m).map en) (.chain t (l.length+m.length)),T.set t (some (l.length+m.length)),fun H=>?_,.inr ⟨by simp[hne],t,ht,by simp,?_⟩,qfx hT ht _⟩
     . simp[qO,hi,hd,hj,h0,hz,hb,zL,hlen,hm,hk]
     . rw[qqh (qqc.1 hk).1];simp
end
section
variable {P:Program}{G:Glo}{f:FuncId}{args:List AV}{U:St}{Q:AV->St->Prop}
theorem qf.up (h:qf P G f args U (fun r τ=>∃ w,Leq r w/\Q w τ)):qf P G f args U Q :=
 ⟨h.1,fun w0 ro0 K w vs hw hvs=>(h.2 w0 ro0 K w vs hw hvs).mono fun e w' h=>h.imp (fun ⟨v',v,U',K',h1,h2,h3,h4,u,h5,h6⟩=>⟨v',u,U',K',h1,h2,h3,Leq.rel _ _ h5 h4,h6⟩) id⟩
end
end
section
section
variable {P:Program}{G:Glo}{o:Opts}{ops:Array Oper}{ct:Ct}{env:Env}{U:St}{ks:List Fr}{Q:Exit->Env->St->Prop}{dst:Option Nat}
end
section
variable {es:List (AV×AV×Nat)}{H:List Blk}{T:List (Option Nat)}{it m clk:Nat}{seen:List Nat}
end
end
end Go.Abs
end
section
namespace Go.Proofs.YtkpkjbchlabaaaaGreatDoor
open Go Go.Abs
@[simp]def qw (n:Nd):List AV:=[.int .i64 n.1,.int .i64 n.2.1,.int .i64 n.2.2]
@[simp]theorem nrNd (l:List Nd):zl (l.map qw)=true:=zy (fun x=>by simp) l
@[simp]def zt (d:List Nd):List AV:=[.sl 3 (d.map qw) .none]
def ndE (q:Nd×AV×Nat):AV×AV×Nat:=(.agg (qw q.1),q.2.1,q.2.2)
theorem qh1 (a b:Nd):Qe (.agg (qw a)) (.agg (qw b))=some (decide (a=b)):=by
 obtain⟨a1,a2,a3⟩:=a;obtain⟨b1,b2,b3⟩:=b;simp only[Qe,qw,zX,ka,if_true];congr 1;rw[qq4];simp;omega
theorem qit (n:Nd):zw (Dof Tryz.prog) 155 (.agg (qw n))=true:=by
 simp[zw,YX,yM,qU,zR,qrG]
theorem Zr {n:Nd}:∀ (E:List (Nd×AV×Nat)) (s:Nat),(∀ q∈E,q.1≠n)->jy (.agg (qw n)) (E.map ndE) s=some none
 | [],_,_=>rfl
 | q::E,s,h=>by
  have h0:=h q (by simp);simp only[qqp,ndE,jy,qh1];have:decide (n=q.1)=false:=by simpa using fun e=>h0 e.symm
  rw[this];exact Zr E (s+1) fun x hx=>h x (by simp[hx])
theorem Ve {n:Nd}:∀ (E:List (Nd×AV×Nat)) (s:Nat),(E.map (·.1)).Nodup->∀ q∈E,q.1=n->∃ j,jy (.agg (qw n)) (E.map ndE) s=some (some (s+j,q.2.1))/\E[j]?=some q
 | [],_,_,q,hq,_=>by cases hq
 | e::E,s,hn,q,hq,hqn=>by
  simp only[qqp,qrX]at hn;simp only[qqp,ndE,jy,qh1];by_cases h0:n=e.1
  . have:decide (n=e.1)=true:=by simpa using h0
    rw[this];rcases qqE.1 hq with rfl|hq
    . exact⟨0,by simp,by simp⟩
    . exact absurd (qqG.2 ⟨q,hq,by rw[hqn,h0]⟩) hn.1
  . have:decide (n=e.1)=false:=by simpa using h0
    rw[this];rcases qqE.1 hq with rfl|hq
    . exact absurd hqn.symm h0
    . obtain⟨j,h1,h2⟩:=Ve E (s+1) hn.2 q hq hqn;exact⟨j+1,by simp only[h1];congr 3;omega,by simpa using h2⟩
theorem qm3:Pure Tryz.prog GG 99 [] (.agg (zt [(20,0,0),(20,1,1)])):=by
 refine Pure.k qe Tryz.func99 rfl (by kernel_rfl) ?_;simp[zn,zS,qF,qk,qu]
theorem eq_nd (a b:Nd):Vw (Dof Tryz.prog) 155 (qw a) (qw b)=some (decide (a=b)):=by
 have:=qh1 a b;simp only[Qe]at this;simp[Vw,YX,yM,qU,zR,qrG];simpa using this
theorem qlN (l:List Nd)(hl:Fits l):Pure Tryz.prog GG 221 [.sl 3 (l.map qw) .none,.sl 3 (l.map qw) .none] (.bool true):=by
 refine Pure.k qe Tryz.func221 rfl (by kernel_rfl) ?_;simp;refine qX.listR l (fun d ev U=>ev 0=.sl 3 (l.map qw) .none/\ev 1=.sl 3 (l.map qw) .none/\ev 12=.int .i64 l.length/\ev 13=.int .i64 d.length) ?_ ?_ ?_
 . simp
 . rintro d n rest ev U R hR hd hx hlt ⟨e0,e1,e12,e13⟩;have hdw:IntKind.i64.wrap ((d.length:Int)+1)=(d.length+1:Nat):=(by rw[wr (by omega) (by omega)];omega);have he:=eq_nd n n;simp only[qw]at he;simp[-getElem?_pos,e0,e1,e12,e13,hlt,hx,he,hdw];exact hR _ _ ⟨by simp[e0],by simp[e1],by simp[e12],by simp⟩
 . rintro ev U ⟨e0,e1,e12,e13⟩;simp[-getElem?_pos,e12,e13]
theorem qpv (d:List Nd)(h:DagOk d):Pure Tryz.prog GG 164 [.sl 3 (d.map qw) .none] (.bool true):=by
 refine Pure.k qe Tryz.func164 rfl (by kernel_rfl) ?_;have h2:(2:Int)<=d.length:=by have:=h.two;omega
 have h3:(d.length:Int)<=8192:=by have:=h.most;omega
 have ht:d.take 2=[(20,0,0),(20,1,1)]:=by
  have a:=h.n0;have b:=h.n1
  match d,a,b with
  | [],a,_=>cases a
  | [_],_,b=>cases b
  | x::y::r,a,b=>simp at a b;subst a b;rfl
 have he:=qlN [(20,0,0),(20,1,1)] (by simp);simp[h2,h3,zq,zU,kv,zY,<- List.map_take,ht];refine qc.call qm3 (by simp) ?_;simp;refine qc.call he (by simp) ?_;simp
theorem qht (d:List Nd)(h:DagOk d)(i:Nat)(hi:2<=i)(hl:i<d.length):Pure Tryz.prog GG 165 [.sl 3 (d.map qw) .none,.int .i64 i] (.bool true):=by
 obtain⟨n,hn⟩:∃ n,d[i]?=some n:=⟨_,qqe hl⟩;obtain⟨g1,g2,g3,g4,g5,g6⟩:=h.node i n hi hn;obtain⟨x,hx⟩:∃ x,d[n.2.1]?=some x:=⟨_,qqe (by omega)⟩;obtain⟨y,hy⟩:∃ y,d[n.2.2]?=some y:=⟨_,qqe (by omega)⟩;rw[zJ hx]at g5;rw[zJ hy]at g6;refine Pure.k qe Tryz.func165 rfl (by kernel_rfl) ?_;have q1:(n.1:Int)<20:=by omega
 have q2:(n.2.1:Int)<i:=by omega
 have q3:(n.2.2:Int)<i:=by omega
 have q4:¬ (n.2.1:Int)=n.2.2:=by omega
 obtain⟨a,b,c⟩:=n;simp only at *;have hm:∀ v:Int,v=(if (y.1:Int)<x.1 then (y.1:Int) else x.1)->(a:Int)<v:=by intro v hv;split at hv<;>omega
 simp[-getElem?_pos,hn,q1,q2,q3,q4,g4,hx,hy,w7];split<;>omega
def QK (d:List Nd):List (Nd×AV×Nat):=(d.zipIdx).map fun q=>(q.1,.bool true,q.2)
theorem qfp (d:List Nd)(n:Nd):QK (d++[n])=QK d++[(n,.bool true,d.length)]:=by
 simp[QK,qsV]
theorem qha (d:List Nd):(QK d).map (·.1)=d:=by simp[QK,qrz,Function.comp_def]
theorem qg9 {d:List Nd}{n:Nd}(h:n∉d):∀ q∈QK d,q.1≠n:=fun q hq e=>h (by
 have:q.1∈(QK d).map (·.1):=qqG.2 ⟨q,hq,rfl⟩;rw[qha]at this;exact e▸this)
theorem Y8 (d:List Nd)(h:DagOk d):Pure Tryz.prog GG 102 [.agg (zt d)] (.bool true):=by
 have hmost:=h.most;refine Pure.k qe Tryz.func102 rfl (by kernel_rfl) ?_;simp;refine qc.call (qpv d h) (by simp) ?_;simp;refine qX.listR d (fun s ev U=>ev 1=.ptr 0 0/\ev 3=.map 1/\ev 12=.sl 3 (d.map qw) .none/\ev 13=.int .i64 d.length/\ev 14=.int .i64 s.length/\∃ t,U=⟨.cells (zt d)::.map ((QK s).map ndE) s.length::t,[]⟩) ?_ ?_ ?_
 . exact⟨by simp,by simp,by simp,by simp,by simp,[],by simp[QK]⟩
 . rintro s n rest ev U R hR hd hx hlt ⟨e1,e3,e12,e13,e14,t,rfl⟩;have hdw:IntKind.i64.wrap ((s.length:Int)+1)=(s.length+1:Nat):=(by rw[wr (by omega) (by omega)];omega);have hns:n∉s:=by
    have:=h.nodup;rw[hd]at this;intro hm;exact (qq9.1 this).2.2 n hm n (by simp) rfl
   have hfind:=Zr (n:=n) (QK s) 0 (qg9 hns);have hfit:=qit n;have hlk:∀ (T:List (Option Nat)) (u:List Blk),zm (Dof Tryz.prog) ⟨.cells (zt d)::.map ((QK s).map ndE) s.length::u,T⟩ 218 (.map 1) (.agg (qw n)) false=some (.bool false):=by
    intro T u;simp only[zm,D218,hfit,if_true];simp[-qw,hfind,WF]
   have hup:∀ (T:List (Option Nat)) (u:List Blk),qZ (Dof Tryz.prog) ⟨.cells (zt d)::.map ((QK s).map ndE) s.length::u,T⟩ 218 (.map 1) (.agg (qw n)) (.bool true)=some ⟨.cells (zt d)::.map ((QK (s++[n])).map ndE) (s.length+1)::u,T⟩:=by
    intro T u;simp only[qZ,D218,hfit,if_true];simp[-qw,hfind,qfp,ndE]
   simp only[qw]at hlk hup;have hgo:∀ (ev':Env) (u:List Blk),ev' 1=.ptr 0 0->ev' 3=.map 1->ev' 12=.sl 3 (d.map qw) .none->ev' 13=.int .i64 d.length->ev' 14=.int .i64 (s.length+1:Nat)->R ev' ⟨.cells (zt d)::.map ((QK (s++[n])).map ndE) (s.length+1)::u,[]⟩ :=
    fun ev' u a1 a2 a3 a4 a5=>hR _ _ ⟨a1,a2,a3,a4,by simpa using a5,u,by simp⟩
   simp only[zt]at hlk hup hgo;by_cases h2:2<=s.length
   . have h2':(2:Int)<=s.length:=(by omega);simp[-getElem?_pos,e1,e3,e12,e13,e14,hlt,hx,h2'];refine qc.call (qht d h s.length h2 hlt) (by simp) ?_;simp[-getElem?_pos,e1,e3,e12,e13,e14,hlk,hup,hdw];exact hgo _ _ (by simp[e1]) (by simp[e3]) (by simp[e12]) (by simp[e13]) (by simp)
   . have h2':¬ (2:Int)<=s.length:=(by omega);simp[-getElem?_pos,e1,e3,e12,e13,e14,hlt,hx,h2',hlk,hup,hdw];exact hgo _ _ (by simp[e1]) (by simp[e3]) (by simp[e12]) (by simp[e13]) (by simp)
 . rintro ev U ⟨e1,e3,e12,e13,e14,t,rfl⟩;simp[-getElem?_pos,e13,e14]
theorem qfT (n:Int):Pure Tryz.prog GG 331 [.int .i64 n] (.bool (decide (0<=n)&&decide (n<20))):=by
 refine Pure.k qe Tryz.func331 rfl (by kernel_rfl) ?_;by_cases h:0<=n<;>simp[h]
theorem qne (d:List Nd)(h:DagOk d)(l:List Nat)(hl:l.length<=100)(hi:∀ i∈l,i<d.length)(tok:Tok):Pure Tryz.prog GG 217 [.agg (zt d),.sl 1 (l.map fun i:Nat=>[.int .i64 i]) .none] (.bool true):=by
 refine Pure.k qe Tryz.func217 rfl (by kernel_rfl) ?_;simp;refine qc.call (Y8 d h) (by simp) ?_;simp;refine qX.listR l (fun s ev U=>ev 1=.sl 1 (l.map fun i:Nat=>[.int .i64 i]) .none/\ev 2=.ptr 0 0/\ev 10=.sl 1 (l.map fun i:Nat=>[.int .i64 i]) .none/\ev 11=.int .i64 l.length/\ev 12=.int .i64 s.length/\U=⟨[.cells (zt d)],[]⟩) ?_ ?_ ?_
 . simp
 . rintro s i rest ev U R hR hd hx hlt ⟨e1,e2,e10,e11,e12,rfl⟩;have hdw:IntKind.i64.wrap ((s.length:Int)+1)=(s.length+1:Nat):=(by rw[wr (by omega) (by omega)];omega);have h1:=hi i (qqd hx);have h2:¬ (i:Int)<0:=(by omega);have h3:(i:Int)<d.length:=(by omega);simp[-getElem?_pos,e1,e2,e10,e11,e12,hlt,hx,h1,h3,hdw];exact hR _ _ ⟨by simp[e1],by simp[e2],by simp[e10],by simp[e11],by simp,rfl⟩
 . rintro ev U ⟨e1,e2,e10,e11,e12,rfl⟩;simp[-getElem?_pos,e11,e12]
def frzB (d:List Nd)(full:Bool):AV:=.rptr [.sl 3 (d.map qw) .none,.any,.bool full]
theorem Zx (d:List Nd)(full one:Bool)(f L:Nat)(hf:f<d.length):Pure Tryz.prog GG 283 [frzB d full,.int .i64 f,.int .i64 L,.bool one] (.int .i64 (jR d f L one:Nat)):=by
 obtain⟨n,hn⟩:∃ n,d[f]?=some n:=⟨_,qqe hf⟩;refine Pure.k qe Tryz.func283 rfl (by kernel_rfl) ?_;generalize hr:jR d f L one=r;unfold jR at hr;rw[hn]at hr;simp only at hr;by_cases hl:n.1=L
 . rw[if_pos hl]at hr;have hl':(n.1:Int)=L:=(by omega);cases one
   . simp at hr;subst hr;simp[-getElem?_pos,frzB,hn,hl']
   . simp at hr;subst hr;simp[-getElem?_pos,frzB,hn,hl']
 . rw[if_neg hl]at hr;subst hr;have hl':¬ (n.1:Int)=L:=(by omega);simp[-getElem?_pos,frzB,hn,hl']
def KpL (bs:List Nat)(H H':List Blk):Prop:=H.length<=H'.length/\∀ (k:Nat) (x:Blk),H[k]?=some x->k∉bs->H'[k]?=some x
theorem KpL.refl {bs:List Nat}{H:List Blk}:KpL bs H H:=⟨qqn _,fun _ _ h _=>h⟩
theorem KpL.trans {bs:List Nat}{H H' H'':List Blk}(h:KpL bs H H')(h':KpL bs H' H''):KpL bs H H'':=⟨qq6 h.1 h'.1,fun k x hk h1=>h'.2 k x (h.2 k x hk h1) h1⟩
theorem KpL.app {bs:List Nat}{H t:List Blk}:KpL bs H (H++t):=⟨by simp,fun k x hk _=>qa hk t⟩
theorem KpL.set {bs:List Nat}{H:List Blk}{b:Nat}{y:Blk}(hb:b∈bs):KpL bs H (H.set b y):=⟨by simp,fun k x hk hn=>by
 rw[qqf (by rintro rfl;exact hn hb)];exact hk⟩
theorem KpL.sub {bs cs:List Nat}{H H':List Blk}(h:KpL bs H H')(hs:∀ b∈bs,b∈cs):KpL cs H H':=⟨h.1,fun k x hk hn=>h.2 k x hk fun hb=>hn (hs k hb)⟩
theorem KpL.setF {bs:List Nat}{H H':List Blk}{b:Nat}{y:Blk}(h:KpL bs H H')(hb:H.length<=b):KpL bs H (H'.set b y):=⟨by rw[qry];exact h.1,fun k x hk hn=>by
 have:=(qqc.1 hk).1;rw[qqf (by omega)];exact h.2 k x hk hn⟩
def atE (d:List Nd):List (Nd×AV×Nat):=d.zipIdx.map fun q=>(q.1,.int .i64 q.2,q.2)
structure BR (B M t:Nat)(d:List Nd)(full:Bool)(U:St):Prop where
 b:U.H[B]?=some (.cells [.sl 3 (d.map qw) (.chain t d.length),.map M,.bool full])
 m:U.H[M]?=some (.map ((atE d).map ndE) d.length)
 t:U.T[t]?=some (some d.length)
theorem BR.ne {B M t:Nat}{d:List Nd}{full:Bool}{U:St}(h:BR B M t d full U):B≠M:=by
 rintro rfl;have:=h.b;rw[h.m]at this;cases this
theorem qjh (d:List Nd):(atE d).map (·.1)=d:=by simp[atE,qrz,Function.comp_def]
theorem qeP (d:List Nd)(n:Nd):atE (d++[n])=atE d++[(n,.int .i64 d.length,d.length)]:=by
 simp[atE,qsV]
theorem qjg {d:List Nd}{n:Nd}(h:n∉d):∀ q∈atE d,q.1≠n:=fun q hq e=>h (by
 have:q.1∈(atE d).map (·.1):=qqG.2 ⟨q,hq,rfl⟩;rw[qjh]at this;exact e▸this)
theorem qpS {d:List Nd}{n:Nd}{i:Nat}(h:d[i]?=some n):(n,AV.int .i64 i,i)∈atE d:=by
 refine qqG.2 ⟨(n,i),?_,rfl⟩;exact List.mem_zipIdx_iff_getElem?.2 h
def qaR (w:Int):List Int:=(List.range (2 ^ w.toNat)).map fun n:Nat=>(n:Int)
theorem qhA (w:Int):(qaR w).length=2 ^ w.toNat:=by simp[qaR]
theorem qhB {w:Int}{d r:List Int}{v:Int}(h:qaR w=d++v::r):v=d.length:=by
 have h1:(qaR w)[d.length]?=some v:=by rw[h];simp
 unfold qaR at h1;rw[qqB]at h1;obtain⟨m,hm,e⟩:=qqj.1 h1;obtain⟨_,hm⟩:=qqc.1 hm;simp at hm;omega
theorem Qp {w:Int}(h0:0<=w)(h1:w<=28):IntKind.i64.wrap (2 ^ (min w.toNat 64))=((2 ^ w.toNat:Nat):Int):=by
 have e:min w.toNat 64=w.toNat:=by omega
 have hp:(2:Nat) ^ w.toNat<=2 ^ 28:=qqJ (by omega) (by omega);rw[e,show ((2:Int) ^ w.toNat)=((2 ^ w.toNat:Nat):Int) by simp];generalize 2 ^ w.toNat=N at hp;exact wr (by omega) (by omega)
theorem qcV {α:Type}(p:α->Bool)(d:List α)(v:α):(d++[v]).filter p=if p v then d.filter p++[v] else d.filter p:=by
 rw[List.filter_append];cases h:p v<;>simp[h]
@[simp]def encCyc (c:List (List Int)):List AV:=[.sl 1 (c.map zG) .none]
theorem zc (e:Ex):(qr e).length=4:=by rw[qd];rfl
theorem yA (e:Ex):(qr e).all AV.atom=true:=by
 rw[qd];simp
theorem yh (e:Ex):qQ (.agg (qr e))=some (qr e):=by rw[qd];simp[qQ,AV.atom]
theorem qpX (k:IntKind)(n:Int):qQ (.int k n)=some [.int k n]:=rfl
theorem qpW (t:List UInt8):qQ (.str t)=some [.str t]:=rfl
theorem acl_sl (sz:Nat)(rows:List (List AV))(tok:Tok):qQ (.sl sz rows tok)=some [.sl sz rows tok]:=rfl
theorem qpY {cs:List AV}(h:cs.all AV.atom=true):qQ (.agg cs)=some cs:=by simp only[qQ,h,if_true]
theorem putAt_all:∀ (c new:List AV),c.length=new.length->zj c 0 new=new:=by
 have gen:∀ (new pre c:List AV),c.length=new.length->zj (pre++c) pre.length new=pre++new:=by
  intro new
  induction new with
  | nil=>intro pre c h;have:c=[]:=qsq.1 h;subst this;simp[zj]
  | cons v r ih=>
   intro pre c h
   cases c with
   | nil=>simp at h
   | cons x c=>
    have h':c.length=r.length:=(by simpa using h);have:=ih (pre++[v]) c h';simp only[qqI,qr3,qqg,qqK]at this;rw[zj];have e:(pre++x::c).set pre.length v=pre++v::c:=(by simp);rw[e];exact this
 intro c new h;simpa using gen new [] c h
structure Near (c:List AV)(Y:Ex):Prop where
 len:c.length=4
 atoms:c.all AV.atom=true
 leq:zu c (qr Y)
 nr:qv c=true
theorem qa7 {a b:List AV}{r s:List (List AV)}(h1:a=b\/(zu a b/\b.all AV.atom=true))(h2:j7 r s):j7 (a::r) (b::s):=by
 simp only[j7];exact⟨h1,h2⟩
theorem qlb:j7 [] []:=by simp only[j7]
theorem Near.row {c:List AV}{Y:Ex}(h:Near c Y):c=qr Y\/(zu c (qr Y)/\(qr Y).all AV.atom=true):=.inr ⟨h.leq,yA Y⟩
theorem qk1 (Y:Ex):Near (qr Y) Y:=⟨zc Y,yA Y,zu.refl _,nrE' Y⟩
theorem qoS {o n:Int}{s:Str}{rows:List (List AV)}{args:List Ex}(h:j7 rows (args.map qr))(hn:zl rows=true):Near [.int .i64 o,.int .i64 n,.str s,.sl 4 rows .tight] (.mk o n s args):=by
 refine⟨rfl,rfl,?_,?_⟩
 . rw[qd];simp only[zu,Leq,and_true,true_and,Ex.op_mk,Ex.n_mk,Ex.name_mk,Ex.args_mk];exact .inr ⟨h,.inl trivial⟩
 . simp[hn]
theorem Near.four {c:List AV}{Y:Ex}(h:Near c Y):∃ c0 c1 c2 c3,c=[c0,c1,c2,c3]:=by
 have:=h.len
 match c,this with
 | [c0,c1,c2,c3],_=>exact⟨c0,c1,c2,c3,rfl⟩
theorem Near.fin {c0 c1 c2 c3:AV}{Y:Ex}(h:Near [c0,c1,c2,c3] Y)(H:List Blk):kN H c0=c0/\kN H c1=c1/\kN H c2=c2/\kN H c3=c3:=by
 have:=h.nr;simp only[qv,qqi,and_true]at this;exact⟨vX this.1,vX this.2.1,vX this.2.2.1,vX this.2.2.2⟩
theorem wru {n:Int}(h0:0<=n)(h1:n<18446744073709551616):IntKind.u64.wrap n=n:=by
 simp[IntKind.wrap,IntKind.bits,IntKind.signed];omega
theorem WY (n:Nat)(h:n<9223372036854775808):Pure Tryz.prog GG 149 [.int .i64 n] (.int .u64 n):=by
 refine Pure.k qe Tryz.func149 rfl (by kernel_rfl) ?_;have h1:=wru (n:=n) (by omega) (by omega);have h2:¬ (n:Int)<0:=by omega
 simp[h2,yK,h1]
theorem qav (n:Nat)(h:n<18446744073709551616):Pure Tryz.prog GG 150 [.bool false,.int .u64 n] (if n<9223372036854775808 then .tup [.int .i64 n,.int .i64 0] else .tup [.int .i64 0,.int .i64 3]):=by
 refine Pure.k qe Tryz.func150 rfl (by kernel_rfl) ?_;by_cases hn:n<9223372036854775808
 . have h1:=wr (n:=n) (by omega) (by omega);have h2:(n:Int)<9223372036854775808:=(by omega);simp[hn,h2,yK,h1]
 . have h2:¬ (n:Int)<9223372036854775808:=(by omega);simp[hn,h2]
theorem qf5:∀ (b a:Nat),a<18446744073709551616->b<18446744073709551616->Pure Tryz.prog GG 198 [.int .u64 a,.int .u64 b] (.int .u64 (Nat.gcd a b:Nat)):=by
 intro b a ha hb;refine Pure.k qe Tryz.func198 rfl (by kernel_rfl) ?_;simp;refine qX.gen (fun n ev U=>∃ x y:Nat,n=y/\x<18446744073709551616/\y<18446744073709551616/\ev 0=.int .u64 x/\ev 1=.int .u64 y/\Nat.gcd x y=Nat.gcd a b) b ⟨a,b,rfl,ha,hb,by simp,by simp,rfl⟩ ?_;rintro y ev U R hR ⟨x,_,rfl,hx,hy,h0,h1,hg⟩;by_cases hz:y=0
 . subst hz;simp at hg;simp[h0,h1,hg]
 . simp[h0,h1,hz];refine hR (x % y) _ _ (qs5 _ (by omega)) ⟨y,x % y,rfl,hy,qrI (Nat.mod_le _ _) hx,by simp,by simp[qsl],?_⟩;rw[qtz y,<- Nat.gcd_rec,qtz];exact hg
theorem qpV (n m:Nat)(h:n % 4294967296=m):zp .and .u64 n 4294967295=some (.int .u64 m):=by
 have h1:((BitVec.ofInt 64 n &&& BitVec.ofInt 64 4294967295).toNat:Int)=m:=by
  rw[BitVec.toNat_and,BitVec.toNat_ofInt];have e:(BitVec.ofInt 64 4294967295).toNat=2 ^ 32-1:=by decide
  rw[e,qsz];omega
 show some (AV.int .u64 (IntKind.u64.wrap ((BitVec.ofInt 64 n &&& BitVec.ofInt 64 4294967295).toNat:Int)))=_;rw[h1,wru (by omega) (by omega)]
theorem qg8 (n m:Nat)(h:n / 4294967296=m):(n:Int).fdiv 4294967296=m:=by
 rw[qsk _ (by omega)];omega
theorem umul (a b c:Nat)(h:a*b=c)(hc:c<18446744073709551616):zp .mul .u64 a b=some (.int .u64 c):=by
 show some (AV.int .u64 (IntKind.u64.wrap ((a:Int)*b)))=_;rw[<- qsw,h,wru (by omega) (by omega)]
theorem uadd (a b c:Nat)(h:a+b=c)(hc:c<18446744073709551616):zp .add .u64 a b=some (.int .u64 c):=by
 show some (AV.int .u64 (IntKind.u64.wrap ((a:Int)+b)))=_;rw[<- qtE,h,wru (by omega) (by omega)]
theorem umulw (a b c d:Nat)(h:a*b=18446744073709551616*d+c)(hc:c<18446744073709551616):zp .mul .u64 a b=some (.int .u64 c):=by
 show some (AV.int .u64 (IntKind.u64.wrap ((a:Int)*b)))=_;rw[<- qsw,h];simp only[IntKind.wrap,IntKind.bits,IntKind.signed];simp;omega
theorem qnf (x:Nat)(hx:x<18446744073709551616):∃ a b:Nat,x % 4294967296=a/\x / 4294967296=b/\x=4294967296*b+a/\a<=4294967295/\b<=4294967295:=⟨_,_,rfl,rfl,by omega,by omega,by omega⟩
theorem pow32:((2:Int) ^ min 32 IntKind.u64.bits)=4294967296:=by decide
theorem qaZ (x y hi lo:Nat)(hx:x<18446744073709551616)(hy:y<18446744073709551616)(hh:x*y=18446744073709551616*hi+lo)(hlo:lo<18446744073709551616) :
 Pure Tryz.prog GG 122 [.int .u64 x,.int .u64 y] (.tup [.int .u64 hi,.int .u64 lo]):=by
 have hlast:=umulw x y lo hi hh hlo;have key:∃ x0 x1 y0 y1 p00 p10 t t0 t1 q r p01 p11 u v w:Nat,zp .and .u64 x 4294967295=some (.int .u64 x0)/\(x:Int).fdiv 4294967296=x1/\zp .and .u64 y 4294967295=some (.int .u64 y0)/\(y:Int).fdiv 4294967296=y1 /\
  zp .mul .u64 x0 y0=some (.int .u64 p00)/\zp .mul .u64 x1 y0=some (.int .u64 p10)/\(p00:Int).fdiv 4294967296=q/\zp .add .u64 p10 q=some (.int .u64 t)/\zp .and .u64 t 4294967295=some (.int .u64 t0)/\(t:Int).fdiv 4294967296=t1 /\
  zp .mul .u64 x0 y1=some (.int .u64 p01)/\zp .add .u64 t0 p01=some (.int .u64 r)/\zp .mul .u64 x1 y1=some (.int .u64 p11)/\zp .add .u64 p11 t1=some (.int .u64 u)/\(r:Int).fdiv 4294967296=v/\zp .add .u64 u v=some (.int .u64 hi):=by
  obtain⟨x0,x1,a1,a2,a3,a4,a5⟩:=qnf x hx;obtain⟨y0,y1,b1,b2,b3,b4,b5⟩:=qnf y hy;have m11:=qse a5 b5;have m10:=qse a5 b4;have m01:=qse a4 b5;have m00:=qse a4 b4;have hp:x*y=18446744073709551616*(x1*y1)+4294967296*(x1*y0)+4294967296*(x0*y1)+x0*y0:=by
   rw[a3,b3,qra,qtI,qtI,Nat.mul_mul_mul_comm,qtk 4294967296 x1 y0,Nat.mul_left_comm x0 4294967296 y1];omega
  rw[hh]at hp;obtain⟨p11,e11⟩:∃ p,x1*y1=p:=⟨_,rfl⟩;obtain⟨p10,e10⟩:∃ p,x1*y0=p:=⟨_,rfl⟩;obtain⟨p01,e01⟩:∃ p,x0*y1=p:=⟨_,rfl⟩;obtain⟨p00,e00⟩:∃ p,x0*y0=p:=⟨_,rfl⟩;rw[e11]at hp m11;rw[e10]at hp m10;rw[e01]at hp m01;rw[e00]at hp m00;obtain⟨q,eq⟩:∃ p,p00 / 4294967296=p:=⟨_,rfl⟩;obtain⟨t,et⟩:∃ p,p10+q=p:=⟨_,rfl⟩;obtain⟨t0,et0⟩:∃ p,t % 4294967296=p:=⟨_,rfl⟩;obtain⟨t1,et1⟩:∃ p,t / 4294967296=p:=⟨_,rfl⟩;obtain⟨r,er⟩:∃ p,t0+p01=p:=⟨_,rfl⟩;obtain⟨u,eu⟩:∃ p,p11+t1=p:=⟨_,rfl⟩;obtain⟨v,ev⟩:∃ p,r / 4294967296=p:=⟨_,rfl⟩;exact⟨x0,x1,y0,y1,p00,p10,t,t0,t1,q,r,p01,p11,u,v,0,qpV _ _ a1,qg8 _ _ a2,qpV _ _ b1,qg8 _ _ b2,umul _ _ _ e00 (by omega),umul _ _ _ e10 (by omega),qg8 _ _ eq,uadd _ _ _ et (by omega),qpV _ _ et0,qg8 _ _ et1,
   umul _ _ _ e01 (by omega),uadd _ _ _ er (by omega),umul _ _ _ e11 (by omega),uadd _ _ _ eu (by omega),qg8 _ _ ev,uadd _ _ _ (by omega) (by omega)⟩
 clear hx hy hh hlo;obtain⟨x0,x1,y0,y1,p00,p10,t,t0,t1,q,r,p01,p11,u,v,_,k1,k2,k3,k4,k5,k6,k7,k8,k9,k10,k11,k12,k13,k14,k15,k16⟩:=key;refine Pure.k qe Tryz.func122 rfl (by kernel_rfl) ?_;simp[-zp,pow32,k1,k2,k3,k4,k5,k6,k7,k8,k9,k10,k11,k12,k13,k14,k15,k16,hlast]
def qb1 (n:Nat):Int×Int:=if n<9223372036854775808 then (n,0) else (0,3)
theorem qhG (a b:Nat)(ha:a<9223372036854775808)(hb:b<9223372036854775808):Pure Tryz.prog GG 89 [.int .i64 a,.int .i64 b] (.tup [.int .i64 (qb1 (a*b)).1,.int .i64 (qb1 (a*b)).2]):=by
 obtain⟨hi,lo,hh,hlo⟩:∃ hi lo,a*b=18446744073709551616*hi+lo/\lo<18446744073709551616:=⟨_,_,(Nat.div_add_mod _ _).symm,qs5 _ (by omega)⟩;have hm:=qaZ a b hi lo (by omega) (by omega) hh hlo;have hs1:=WY a ha;have hs2:=WY b hb;have hsg:=qav lo hlo;have h2:¬ (a:Int)<0:=by omega
 have h3:¬ (b:Int)<0:=by omega
 refine Pure.k qe Tryz.func89 rfl (by kernel_rfl) ?_;generalize hr:qb1 (a*b)=r;clear hm;have hm:=qaZ a b hi lo (by omega) (by omega) hh hlo;simp;refine qc.call hs1 (by simp) ?_;simp;refine qc.call hs2 (by simp) ?_;simp;refine qc.call hm (by simp) ?_;simp;refine⟨fun h0=>?_,fun h0=>?_⟩
 . have h0':¬ a*b<9223372036854775808:=(by omega);simp[qb1,h0']at hr;subst hr;simp
 . have:a*b=lo:=by omega
   simp[h2,h3];refine qc.call hsg (by simp) ?_;rw[this]at hr;unfold qb1 at hr;split at hr<;>subst hr<;>rename_i h<;>simp[h]
theorem lcm249 (a b:Nat)(ha:0<a)(hb:0<b)(ha1:a<9223372036854775808)(hb1:b<9223372036854775808):Pure Tryz.prog GG 147 [.int .i64 a,.int .i64 b] (.tup [.int .i64 (qb1 (Nat.lcm a b)).1,.int .i64 (qb1 (Nat.lcm a b)).2]):=by
 have hg:=qss b ha;have hgl:Nat.gcd a b<=a:=qsc ha (qsh a b);have hlcm:a / Nat.gcd a b*b=Nat.lcm a b:=by
  unfold Nat.lcm;exact Nat.div_mul_right_comm (qsh a b) b
 have hq:a / Nat.gcd a b<=a:=qrs _ _;obtain⟨g,hge⟩:∃ g,Nat.gcd a b=g:=⟨_,rfl⟩;obtain⟨q,hqe⟩:∃ q,a / g=q:=⟨_,rfl⟩;obtain⟨l,hle⟩:∃ l,Nat.lcm a b=l:=⟨_,rfl⟩;have hd:=qf5 b a (by omega) (by omega);rw[hge]at hg hgl hlcm hq hd;rw[hqe]at hlcm hq;rw[hle]at hlcm ⊢;obtain⟨hi,lo,hh,hlo⟩:∃ hi lo,l=18446744073709551616*hi+lo/\lo<18446744073709551616:=⟨_,_,(Nat.div_add_mod _ _).symm,qs5 _ (by omega)⟩;have hm:=qaZ q b hi lo (by omega) (by omega) (by omega) hlo;have hs1:=WY a ha1;have hs2:=WY b hb1;have hsg:=qav lo hlo;have ha0:¬ a=0:=by omega
 have hb0:¬ b=0:=by omega
 have hg0:¬ g=0:=by omega
 have hdiv:(a:Int).tdiv g=q:=by
  rw[qsm (by omega)];omega
 have hqu:=wru (n:=q) (by omega) (by omega);generalize hr:qb1 l=r;refine Pure.k qe Tryz.func147 rfl (by kernel_rfl) ?_;simp[ha0,hb0];refine qc.call hs1 (by simp) ?_;simp;refine qc.call hs1 (by simp) ?_;simp;refine qc.call hs2 (by simp) ?_;simp;refine qc.call hd (by simp) ?_;simp[hg0,hdiv,hqu];refine qc.call hs2 (by simp) ?_;simp;refine qc.call hm (by simp) ?_;simp;refine⟨fun h0=>?_,fun h0=>?_⟩
 . have h0':¬ l<9223372036854775808:=(by omega);simp[qb1,h0']at hr;subst hr;simp
 . have:l=lo:=by omega
   refine qc.call hsg (by simp) ?_;rw[this]at hr;unfold qb1 at hr;split at hr<;>subst hr<;>rename_i h<;>simp[h]
end Go.Proofs.YtkpkjbchlabaaaaGreatDoor
end
