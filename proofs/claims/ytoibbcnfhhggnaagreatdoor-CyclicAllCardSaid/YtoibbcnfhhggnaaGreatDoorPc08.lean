/- A part of the proof. -/
import Derived.Test.YtoibbcnfhhggnaaGreatDoorPc07
set_option linter.unusedVariables false
set_option linter.unusedSimpArgs false
set_option maxRecDepth 100000
set_option maxHeartbeats 16000000
set_option linter.defProp false
section
namespace Go.Abs
open Go Go.RowKit
section
inductive Fr where
 | seq (y:Code)
 | block (id:Nat)
 | loop (n:Env->St->Prop)
 | scope
inductive Ct where
 | run (d lw:Bool) (rest:List Oper)
 | plan (ac:List Nat) (s:Sch)
section
variable (P:Program)(G:Glo)(o:Opts)
def itp:List Fr->(Exit->Env->St->Prop)->Exit->Env->St->Prop
 | [],Q=>Q
 | .seq y::ks,Q=>wG (fun env U=>vcC P G o y env U (itp ks Q)) (itp ks Q)
 | .block id::ks,Q=>wH id (itp ks Q)
 | .loop n::ks,Q=>wG n (itp ks Q)
 | .scope::ks,Q=>qnL (itp ks Q)
def kC (c:Code)(env:Env)(U:St)(ks:List Fr)(Q:Exit->Env->St->Prop):Prop:=vcC P G o c env U (itp P G o ks Q)
def kX (e:Exit)(env:Env)(U:St)(ks:List Fr)(Q:Exit->Env->St->Prop):Prop:=itp P G o ks Q e env U
def kT (ops:Array Oper)(ct:Ct)(env:Env)(U:St)(ks:List Fr)(Q:Exit->Env->St->Prop):Prop:=match ct with
 | .run d lw rest=>vcR P G o.mu ops d lw rest env U (fun env U=>itp P G o ks Q .normal env U)
 | .plan ac s=>vcS P G o.mu ac ops s env U (fun env U=>itp P G o ks Q .normal env U)
def kO (ops:Array Oper)(d:Bool)(op:Op)(dst:Option Nat)(ct:Ct)(env:Env)(U:St)(ks:List Fr)(Q:Exit->Env->St->Prop):Prop :=
 jC P G o.mu d op env U (fun v U'=>kT P G o ops ct (upd env dst v) U' ks Q)
def kS (ops:Array Oper)(x:Option (AV×St))(dst:Option Nat)(ct:Ct)(env:Env)(ks:List Fr)(Q:Exit->Env->St->Prop):Prop :=
 jz x (fun v U'=>kT P G o ops ct (upd env dst v) U' ks Q)
def kY (ops:Array Oper)(l:Option (List (AV×St)))(x:Option (AV×St))(dst:Option Nat)(ct:Ct)(env:Env)(ks:List Fr)(Q:Exit->Env->St->Prop):Prop :=
 vcX l x (fun v U'=>kT P G o ops ct (upd env dst v) U' ks Q)
def kFn (ops:Array Oper)(d:Bool)(f:AV)(args:List AV)(U:St)(dst:Option Nat)(ct:Ct)(env:Env)(ks:List Fr)(Q:Exit->Env->St->Prop):Prop :=
 vcFn P G d f args U (fun v U'=>kT P G o ops ct (upd env dst v) U' ks Q)
def qc (ops:Array Oper)(d:Bool)(g:FuncId)(args:List AV)(U:St)(dst:Option Nat)(ct:Ct)(env:Env)(ks:List Fr)(Q:Exit->Env->St->Prop):Prop :=
 qb P G d g args U (fun v U'=>kT P G o ops ct (upd env dst v) U' ks Q)
def kCd (v:AV)(x y:Code)(env:Env)(U:St)(ks:List Fr)(Q:Exit->Env->St->Prop):Prop:=match v with
 | .bool b=>(b=true->kC P G o x env U ks Q)/\(b=false->kC P G o y env U ks Q)
 | _=>False
def kGv (ops:Array Oper)(d:Bool)(t:Nat)(v:AV)(b:Bool)(op:Op)(dst:Option Nat)(ct:Ct)(env:Env)(U:St)(ks:List Fr)(Q:Exit->Env->St->Prop):Prop:=match v with
 | .bool c=>((c==b)=true->kO P G o ops d op dst ct (upd env (some t) (.bool b)) U ks Q)/\((c==b)=false->kT P G o ops ct (upd (upd env (some t) (.bool (!b))) dst (.tup [])) U ks Q)
 | .tup []=>kT P G o ops ct (upd env dst (.tup [])) U ks Q
 | _=>False
def kG (ops:Array Oper)(d:Bool)(x:Option Nat)(b:Bool)(op:Op)(dst:Option Nat)(ct:Ct)(env:Env)(U:St)(ks:List Fr)(Q:Exit->Env->St->Prop):Prop:=match x with
 | some t=>kGv P G o ops d t (env t) b op dst ct env U ks Q
 | none=>kT P G o ops ct (upd env dst (.tup [])) U ks Q
def qL (c:Code)(env:Env)(U:St)(ks:List Fr)(Q:Exit->Env->St->Prop):Prop:=qD P G o c env U (itp P G o ks Q)
def kP (ops:Array Oper)(x:Option Oper)(d:Bool)(ct:Ct)(env:Env)(U:St)(ks:List Fr)(Q:Exit->Env->St->Prop):Prop:=match x with
 | some u=>vcG P G o.mu d ops u env U (fun env v U'=>kT P G o ops ct (upd env u.dst v) U' ks Q)
 | none=>False
end
section
variable {P:Program}{G:Glo}{o:Opts}{env:Env}{U:St}{ks:List Fr}{Q:Exit->Env->St->Prop}
@[simp ↓]theorem kC_skip:kC P G o .skip env U ks Q=kX P G o .normal env U ks Q:=by simp only[kC,kX,vcC]
@[simp ↓]theorem kC_ret:kC P G o .ret env U ks Q=kX P G o .ret env U ks Q:=by simp only[kC,kX,vcC]
@[simp ↓]theorem kC_exit {id:Nat}:kC P G o (.exit id) env U ks Q=kX P G o (.exit id) env U ks Q:=by simp only[kC,kX,vcC]
@[simp ↓]theorem kC_seq {x y:Code}:kC P G o (.seq x y) env U ks Q=kC P G o x env U (.seq y::ks) Q:=by simp only[kC,vcC,itp]
@[simp ↓]theorem kC_block {id:Nat}{x:Code}:kC P G o (.block id x) env U ks Q=kC P G o x env U (.block id::ks) Q:=by simp only[kC,vcC,itp]
@[simp ↓]theorem kC_scope {x:Code}:kC P G o (.scope x) env U ks Q=kC P G o x env U (.scope::ks) Q:=by simp only[kC,vcC,itp]
@[simp ↓]theorem kC_label {l:Nat}:kC P G o (.label l) env U ks Q=kX P G o .normal env U ks Q:=by simp only[kC,kX,vcC]
@[simp ↓]theorem qne:kX P G o .ret env U (.scope::ks) Q=kX P G o .ret env U ks Q:=zW rfl
@[simp ↓]theorem kC_cond {c:Operand}{x y:Code}:kC P G o (.cond c x y) env U ks Q=kCd P G o (ev G env c) x y env U ks Q:=by
 simp only[kC,vcC,kCd,qfg];split<;>simp_all[]
@[simp ↓]theorem kC_loop {x:Code}:kC P G o (.loop x) env U ks Q=qL P G o x env U ks Q:=by simp only[kC,qL,vcC]<;>rfl
@[simp ↓ high]theorem kC_region0 {id:Nat}{l:List Oper}:kC P G o0 (.region id l.toArray false) env U ks Q=kT P G o0 l.toArray (.run false false l) env U ks Q:=by simp only[kC,kT,vcC];rfl
@[simp ↓ high]theorem kC_regionL {m:Bool}{x:List (Nat×Sch×List Nat)}{y:List (Nat×Nat)}{id:Nat}{l:List Oper}:kC P G ⟨m,x,[],y⟩ (.region id l.toArray false) env U ks Q=kT P G ⟨m,x,[],y⟩ l.toArray (.run false false l) env U ks Q:=by simp only[kC,kT,vcC];rfl
@[simp ↓]theorem kC_draw0 {id:Nat}{l:List Oper}:kC P G o0 (.region id l.toArray true) env U ks Q=kT P G o0 l.toArray (.run true false l) env U ks Q:=by simp[kC,kT,vcC,o0]
theorem QP {id:Nat}{l:List Oper}(h:o.fk.lookup id=none):kC P G o (.region id l.toArray true) env U ks Q=kT P G o l.toArray (.run true (o.lw.contains id) l) env U ks Q:=by simp only[kC,kT,vcC,h]
theorem qG {id:Nat}{l:List Oper}{s:Sch}{ac:List Nat}(h:o.fk.lookup id=some (s,ac)):kC P G o (.region id l.toArray true) env U ks Q=kT P G o l.toArray (.plan ac s) env U ks Q:=by simp only[kC,kT,vcC,h]
@[simp]theorem kCd_true {x y:Code}:kCd P G o (.bool true) x y env U ks Q=kC P G o x env U ks Q:=by simp[kCd]
@[simp]theorem kCd_false {x y:Code}:kCd P G o (.bool false) x y env U ks Q=kC P G o y env U ks Q:=by simp[kCd]
@[simp low]theorem kCd_bool {b:Bool}{x y:Code}:kCd P G o (.bool b) x y env U ks Q=((b=true->kC P G o x env U ks Q)/\(b=false->kC P G o y env U ks Q)):=zW rfl
@[simp ↓]theorem kX_nil {e:Exit}:kX P G o e env U [] Q=Q e env U:=zW rfl
@[simp ↓]theorem kX_seq {y:Code}:kX P G o .normal env U (.seq y::ks) Q=kC P G o y env U ks Q:=zW rfl
@[simp ↓]theorem kX_seq_ret {y:Code}:kX P G o .ret env U (.seq y::ks) Q=kX P G o .ret env U ks Q:=zW rfl
@[simp ↓]theorem qo8 {y:Code}{i:Nat}:kX P G o (.exit i) env U (.seq y::ks) Q=kX P G o (.exit i) env U ks Q:=zW rfl
@[simp ↓]theorem kX_block {id:Nat}:kX P G o .normal env U (.block id::ks) Q=kX P G o .normal env U ks Q:=zW rfl
@[simp ↓]theorem qng {id:Nat}:kX P G o .ret env U (.block id::ks) Q=kX P G o .ret env U ks Q:=zW rfl
@[simp ↓]theorem qlw {id i:Nat}:kX P G o (.exit i) env U (.block id::ks) Q=if i=id then kX P G o .normal env U ks Q else kX P G o (.exit i) env U ks Q:=by
 simp only[kX,itp,wH]
@[simp ↓]theorem kX_loop {n:Env->St->Prop}:kX P G o .normal env U (.loop n::ks) Q=n env U:=zW rfl
@[simp ↓]theorem qo9 {n:Env->St->Prop}:kX P G o .ret env U (.loop n::ks) Q=kX P G o .ret env U ks Q:=zW rfl
@[simp ↓]theorem qnf {n:Env->St->Prop}{i:Nat}:kX P G o (.exit i) env U (.loop n::ks) Q=kX P G o (.exit i) env U ks Q:=zW rfl
end
section
variable {P:Program}{G:Glo}{o:Opts}{ops:Array Oper}{d lw:Bool}{env:Env}{U:St}{ks:List Fr}{Q:Exit->Env->St->Prop}{dst:Option Nat}{op:Op}{ct:Ct}
@[simp ↓]theorem kT_nil:kT P G o ops (.run d lw []) env U ks Q=kX P G o .normal env U ks Q:=zW rfl
@[simp ↓]theorem kT_run {type:TypeId}{pos:String}{after:Array Edge}{rest:List Oper} :
 kT P G o ops (.run d false ({ dst:=dst,op:=op,type:=type,pos:=pos,after:=after,guard:=none }::rest)) env U ks Q=kO P G o ops d op dst (.run d false rest) env U ks Q:=by
 simp only[kT,kO];rw[qn3]
@[simp ↓]theorem kT_guard {type:TypeId}{pos:String}{after:Array Edge}{rest:List Oper}{j:Nat}{b:Bool} :
 kT P G o ops (.run d false ({ dst:=dst,op:=op,type:=type,pos:=pos,after:=after,guard:=some (j,b) }::rest)) env U ks Q=kG P G o ops d ((ops[j]?).bind (·.dst)) b op dst (.run d false rest) env U ks Q:=by
 simp only[kT];rw[qgO];unfold vE kG;generalize (ops[j]?).bind (·.dst)=x
 cases x with
 | none=>rfl
 | some t=>
  simp only[kGv];generalize env t=v
  cases v with
  | tup vs=>cases vs<;>rfl
  | _=>rfl
@[simp ↓]theorem kT_done {ac:List Nat}:kT P G o ops (.plan ac .done) env U ks Q=kX P G o .normal env U ks Q:=by simp only[kT,vcS,kX]
@[simp ↓]theorem kT_step {ac dp:List Nat}{k:Nat}{s:Sch}:kT P G o ops (.plan ac (.step k dp s)) env U ks Q=kP P G o ops (ops[k]?) (match ops[k]? with | some u=>qM o.mu ac k u.op != 9 | none=>false) (.plan ac s) env U ks Q:=by
 simp only[kT,vcS,kP];split<;>rename_i h<;>simp[h]
@[simp]theorem kP_run {type:TypeId}{pos:String}{after:Array Edge}:kP P G o ops (some { dst:=dst,op:=op,type:=type,pos:=pos,after:=after,guard:=none }) d ct env U ks Q=kO P G o ops d op dst ct env U ks Q:=by
 simp only[kP,vcG,kO]
@[simp]theorem kG_some {t:Nat}{b:Bool}:kG P G o ops d (some t) b op dst ct env U ks Q=kGv P G o ops d t (env t) b op dst ct env U ks Q:=zW rfl
@[simp]theorem kGv_off {t:Nat}{b:Bool}:kGv P G o ops d t (.tup []) b op dst ct env U ks Q=kT P G o ops ct (upd env dst (.tup [])) U ks Q:=zW rfl
@[simp]theorem kGv_tt {t:Nat}:kGv P G o ops d t (.bool true) true op dst ct env U ks Q=kO P G o ops d op dst ct (upd env (some t) (.bool true)) U ks Q:=by simp[kGv]
@[simp]theorem kGv_ff {t:Nat}:kGv P G o ops d t (.bool false) false op dst ct env U ks Q=kO P G o ops d op dst ct (upd env (some t) (.bool false)) U ks Q:=by simp[kGv]
@[simp]theorem kGv_tf {t:Nat}:kGv P G o ops d t (.bool true) false op dst ct env U ks Q=kT P G o ops ct (upd (upd env (some t) (.bool true)) dst (.tup [])) U ks Q:=by simp[kGv]
@[simp]theorem kGv_ft {t:Nat}:kGv P G o ops d t (.bool false) true op dst ct env U ks Q=kT P G o ops ct (upd (upd env (some t) (.bool false)) dst (.tup [])) U ks Q:=by simp[kGv]
@[simp low]theorem kGv_true {t:Nat}{c:Bool}:kGv P G o ops d t (.bool c) true op dst ct env U ks Q=((c=true->kO P G o ops d op dst ct (upd env (some t) (.bool true)) U ks Q)/\(c=false->kT P G o ops ct (upd (upd env (some t) (.bool false)) dst (.tup [])) U ks Q)):=by simp[kGv]
@[simp low]theorem kGv_false {t:Nat}{c:Bool}:kGv P G o ops d t (.bool c) false op dst ct env U ks Q=((c=false->kO P G o ops d op dst ct (upd env (some t) (.bool false)) U ks Q)/\(c=true->kT P G o ops ct (upd (upd env (some t) (.bool true)) dst (.tup [])) U ks Q)):=by simp[kGv]
@[simp]theorem kS_some {v:AV}{U:St}:kS P G o ops (some (v,U)) dst ct env ks Q=kT P G o ops ct (upd env dst v) U ks Q:=zW rfl
@[simp]theorem kY_none {x:Option (AV×St)}:kY P G o ops none x dst ct env ks Q=kS P G o ops x dst ct env ks Q:=by simp only[kY,kS];rw[WY]
@[simp]theorem kY_one {v:AV}{τ:St}{x:Option (AV×St)}:kY P G o ops (some [(v,τ)]) x dst ct env ks Q=kT P G o ops ct (upd env dst v) τ ks Q:=by simp only[kY];rw[qn1]
@[simp]theorem kY_two {v v':AV}{τ τ':St}{x:Option (AV×St)}:kY P G o ops (some [(v,τ),(v',τ')]) x dst ct env ks Q=(kT P G o ops ct (upd env dst v) τ ks Q/\kT P G o ops ct (upd env dst v') τ' ks Q):=by simp only[kY];rw[qn0]
@[simp]theorem kFn_fn {g:FuncId}{first args cap:List AV}:kFn P G o ops d (.fn g first cap) args U dst ct env ks Q=qc P G o ops d g (j5 first args cap) U dst ct env ks Q:=zW rfl
@[simp ↓]theorem kO_call {f:Operand}{a:Array Operand}{t:Array TypeId}:kO P G o ops d (.call { callee:=.value f,args:=a,argTypes:=t }) dst ct env U ks Q=kFn P G o ops d (ev G env f) (Wx G env a.toList) U dst ct env ks Q:=zW rfl
@[simp ↓]theorem kO_move {x:Operand}:kO P G o ops d (.move x) dst ct env U ks Q=kS P G o ops (sem (Dof P) G env U (.move x)) dst ct env ks Q:=by simp only[kO,kS];rw[qgR]
@[simp ↓]theorem kO_assign {x:Operand}:kO P G o ops d (.assign x) dst ct env U ks Q=kS P G o ops (sem (Dof P) G env U (.assign x)) dst ct env ks Q:=by simp only[kO,kS];rw[qca]
@[simp ↓]theorem kO_pick {a b c:Operand}:kO P G o ops d (.pick a b c) dst ct env U ks Q=kS P G o ops (sem (Dof P) G env U (.pick a b c)) dst ct env ks Q:=by simp only[kO,kS];rw[qgQ]
@[simp ↓]theorem kO_alloc {t:TypeId}:kO P G o ops d (.alloc t) dst ct env U ks Q=kS P G o ops (sem (Dof P) G env U (.alloc t)) dst ct env ks Q:=by simp only[kO,kS];rw[qff]
@[simp ↓]theorem kO_box {t:TypeId}{x:Operand}:kO P G o ops d (.box t x) dst ct env U ks Q=kS P G o ops (sem (Dof P) G env U (.box t x)) dst ct env ks Q:=by simp only[kO,kS];rw[qkc]
@[simp ↓]theorem kO_build {t:TypeId}{p:Array (Nat×Operand)}:kO P G o ops d (.build t p) dst ct env U ks Q=kS P G o ops (sem (Dof P) G env U (.build t p)) dst ct env ks Q:=by simp only[kO,kS];rw[qfd]
@[simp ↓]theorem qlA {t:TypeId}{n:Nat}{p:Array (Nat×Operand)}:kO P G o ops d (.buildSlice t n p) dst ct env U ks Q=kS P G o ops (sem (Dof P) G env U (.buildSlice t n p)) dst ct env ks Q:=by simp only[kO,kS];rw[Yf]
@[simp ↓]theorem kO_load {t:TypeId}{x:Operand}:kO P G o ops d (.load t x) dst ct env U ks Q=kS P G o ops (sem (Dof P) G env U (.load t x)) dst ct env ks Q:=by simp only[kO,kS];rw[qgS]
@[simp ↓]theorem kO_store {t:TypeId}{x y:Operand}:kO P G o ops d (.store t x y) dst ct env U ks Q=kS P G o ops (sem (Dof P) G env U (.store t x y)) dst ct env ks Q:=by simp only[kO,kS];rw[qe9]
@[simp ↓]theorem qpa {x:Operand}:kO P G o ops d (.nilCheck x) dst ct env U ks Q=kS P G o ops (sem (Dof P) G env U (.nilCheck x)) dst ct env ks Q:=by simp only[kO,kS];rw[W2]
@[simp ↓]theorem kO_binOp {b:BinOp}{t u:TypeId}{x y:Operand}(h:b≠.eql)(h':b≠.neq):kO P G o ops d (.binOp b t x y u) dst ct env U ks Q=kS P G o ops (sem (Dof P) G env U (.binOp b t x y u)) dst ct env ks Q:=by simp only[kO,kS];rw[qfe h h']
@[simp ↓]theorem kO_eql {t u:TypeId}{x y:Operand}:kO P G o ops d (.binOp .eql t x y u) dst ct env U ks Q=kY P G o ops (qh2 d false (Dof P) t (ev G env x) (ev G env y) U) (sem (Dof P) G env U (.binOp .eql t x y u)) dst ct env ks Q:=by simp only[kO,kY];rw[qka]
@[simp ↓]theorem kO_neq {t u:TypeId}{x y:Operand}:kO P G o ops d (.binOp .neq t x y u) dst ct env U ks Q=kY P G o ops (qh2 d true (Dof P) t (ev G env x) (ev G env y) U) (sem (Dof P) G env U (.binOp .neq t x y u)) dst ct env ks Q:=by simp only[kO,kY];rw[qj7]
@[simp ↓]theorem kO_unOp {u:UnOp}{t:TypeId}{x:Operand}:kO P G o ops d (.unOp u t x) dst ct env U ks Q=kS P G o ops (sem (Dof P) G env U (.unOp u t x)) dst ct env ks Q:=by simp only[kO,kS];rw[qgP]
@[simp ↓]theorem kO_convert {t u:TypeId}{x:Operand}:kO P G o ops d (.convert t u x) dst ct env U ks Q=kS P G o ops (sem (Dof P) G env U (.convert t u x)) dst ct env ks Q:=by simp only[kO,kS];rw[qap]
@[simp ↓]theorem qpb {f:Fn}{a b:Array Operand}:kO P G o ops d (.makeFunc f a b) dst ct env U ks Q=kS P G o ops (sem (Dof P) G env U (.makeFunc f a b)) dst ct env ks Q:=by simp only[kO,kS];rw[W4]
@[simp ↓]theorem kO_makeMap {t:TypeId}{r:Option Operand}:kO P G o ops d (.makeMap t r) dst ct env U ks Q=kS P G o ops (sem (Dof P) G env U (.makeMap t r)) dst ct env ks Q:=by simp only[kO,kS];rw[qan]
theorem Zq {t:TypeId}{x y:Operand}(hmu:o.mu=false):kO P G o ops d (.makeSlice t x y) dst ct env U ks Q=kS P G o ops (sem (Dof P) G env U (.makeSlice t x y)) dst ct env ks Q:=by
 simp only[kO,kS];cases d
 . rw[QC,hmu,qh7,WY]
 . rw[Ye]
@[simp ↓]theorem qly {u:List (Nat×Sch×List Nat)}{lw:List Nat}{v:List (Nat×Nat)}{t:TypeId}{x y:Operand}:kO P G ⟨false,u,lw,v⟩ ops d (.makeSlice t x y) dst ct env U ks Q=kS P G ⟨false,u,lw,v⟩ ops (sem (Dof P) G env U (.makeSlice t x y)) dst ct env ks Q:=Zq rfl
@[simp ↓]theorem qlz {t:TypeId}{x y:Operand}:kO P G o0 ops d (.makeSlice t x y) dst ct env U ks Q=kS P G o0 ops (sem (Dof P) G env U (.makeSlice t x y)) dst ct env ks Q:=Zq rfl
@[simp ↓]theorem qlx {u:List (Nat×Sch×List Nat)}{lw:List Nat}{v:List (Nat×Nat)}{t:TypeId}{x y:Operand}:kO P G ⟨true,u,lw,v⟩ ops false (.makeSlice t x y) dst ct env U ks Q=kY P G ⟨true,u,lw,v⟩ ops (mkX (Dof P) true U t (ev G env x) (ev G env y)) (sem (Dof P) G env U (.makeSlice t x y)) dst ct env ks Q:=by simp only[kO,kY];rw[QC]
@[simp ↓]theorem kO_slice {t:TypeId}{x:Operand}{lo hi mx:Option Operand}:kO P G o ops d (.slice t x lo hi mx) dst ct env U ks Q=kS P G o ops (sem (Dof P) G env U (.slice t x lo hi mx)) dst ct env ks Q:=by simp only[kO,kS];rw[qfa]
@[simp ↓]theorem qnj {t:TypeId}{x:Operand}{i:Nat}:kO P G o ops d (.fieldAddr t x i) dst ct env U ks Q=kS P G o ops (sem (Dof P) G env U (.fieldAddr t x i)) dst ct env ks Q:=by simp only[kO,kS];rw[KP]
@[simp ↓]theorem kO_field {t:TypeId}{x:Operand}{i:Nat}:kO P G o ops d (.field t x i) dst ct env U ks Q=kS P G o ops (sem (Dof P) G env U (.field t x i)) dst ct env ks Q:=by simp only[kO,kS];rw[qfc]
@[simp ↓]theorem qni {t:TypeId}{x y:Operand}:kO P G o ops d (.indexAddr t x y) dst ct env U ks Q=kS P G o ops (sem (Dof P) G env U (.indexAddr t x y)) dst ct env ks Q:=by simp only[kO,kS];rw[KO]
@[simp ↓]theorem kO_index {t:TypeId}{x y:Operand}:kO P G o ops d (.index t x y) dst ct env U ks Q=kS P G o ops (sem (Dof P) G env U (.index t x y)) dst ct env ks Q:=by simp only[kO,kS];rw[qfb]
@[simp ↓]theorem kO_lookup {t:TypeId}{x y:Operand}{k:Bool}:kO P G o ops d (.lookup t x y k) dst ct env U ks Q=kS P G o ops (sem (Dof P) G env U (.lookup t x y k)) dst ct env ks Q:=by simp only[kO,kS];rw[qb9]
@[simp ↓]theorem qnh {t:TypeId}{x y z:Operand}:kO P G o ops d (.mapUpdate t x y z) dst ct env U ks Q=kS P G o ops (sem (Dof P) G env U (.mapUpdate t x y z)) dst ct env ks Q:=by simp only[kO,kS];rw[KN]
@[simp ↓]theorem kO_extract {x:Operand}{i:Nat}:kO P G o ops d (.extract x i) dst ct env U ks Q=kS P G o ops (sem (Dof P) G env U (.extract x i)) dst ct env ks Q:=by simp only[kO,kS];rw[qao]
@[simp ↓]theorem kO_len {a:Array Operand}{t:Array TypeId}:kO P G o ops d (.call { callee:=.builtin .len,args:=a,argTypes:=t }) dst ct env U ks Q=kS P G o ops (sem (Dof P) G env U (.call { callee:=.builtin .len,args:=a,argTypes:=t })) dst ct env ks Q:=by simp only[kO,kS];rw[qj9]
@[simp ↓]theorem kO_min {a:Array Operand}{t:Array TypeId}:kO P G o ops d (.call { callee:=.builtin .min,args:=a,argTypes:=t }) dst ct env U ks Q=kS P G o ops (sem (Dof P) G env U (.call { callee:=.builtin .min,args:=a,argTypes:=t })) dst ct env ks Q:=by simp only[kO,kS];rw[qj8]
@[simp ↓]theorem qiq {a:Array Operand}{t:Array TypeId}(hmu:o.mu=false):kO P G o ops d (.call { callee:=.builtin .append,args:=a,argTypes:=t }) dst ct env U ks Q=kS P G o ops (sem (Dof P) G env U (.call { callee:=.builtin .append,args:=a,argTypes:=t })) dst ct env ks Q:=by simp only[kO,kS,hmu];rw[qcb]
@[simp ↓]theorem kO_appendM {s x:Operand}{t u:TypeId}(hmu:o.mu=true):kO P G o ops false (.call { callee:=.builtin .append,args:=#[s,x],argTypes:=#[t,u] }) dst ct env U ks Q=kY P G o ops ((zs (Dof P) U t u (ev G env s) (ev G env x)).map fun p=>[p]) (sem (Dof P) G env U (.call { callee:=.builtin .append,args:=#[s,x],argTypes:=#[t,u] })) dst ct env ks Q:=by simp only[kO,kY,hmu];rw[qaq]
@[simp ↓]theorem kO_copy {x y:Operand}{t u:TypeId}:kO P G o ops false (.call { callee:=.builtin .copy,args:=#[x,y],argTypes:=#[t,u] }) dst ct env U ks Q=kY P G o ops ((yA (Dof P) U t (ev G env x) (ev G env y)).map fun p=>[p]) none dst ct env ks Q:=by simp only[kO,kY];rw[qgT]
@[simp ↓]theorem kO_append0 {a:Array Operand}{t:Array TypeId}:kO P G o0 ops d (.call { callee:=.builtin .append,args:=a,argTypes:=t }) dst ct env U ks Q=kS P G o0 ops (sem (Dof P) G env U (.call { callee:=.builtin .append,args:=a,argTypes:=t })) dst ct env ks Q:=qiq rfl
end
section
@[simp]theorem atom_any  : AV.atom (.any)=false:=rfl
@[simp]theorem qpZ  : qK (.any)=none:=rfl
@[simp]theorem pl1_any  : pl1 (.any)=.any:=rfl
@[simp]theorem pl2_any  : pl2 (.any)=.any:=rfl
@[simp]theorem plain_any  : plain (.any)=.any:=rfl
@[simp]theorem fin1_any  {H:List Blk}:kv H (.any)=.any:=rfl
@[simp]theorem fin2_any  {H:List Blk}:QS H (.any)=.any:=rfl
@[simp]theorem fin_any  {H:List Blk}:fin H (.any)=.any:=rfl
@[simp]theorem atom_bool {b:Bool}:AV.atom (.bool b)=true:=rfl
@[simp]theorem qnJ {b:Bool}:qK (.bool b)=some [.bool b]:=rfl
@[simp]theorem pl1_bool {b:Bool}:pl1 (.bool b)=.bool b:=rfl
@[simp]theorem pl2_bool {b:Bool}:pl2 (.bool b)=.bool b:=rfl
@[simp]theorem plain_bool {b:Bool}:plain (.bool b)=.bool b:=rfl
@[simp]theorem fin1_bool {b:Bool}{H:List Blk}:kv H (.bool b)=.bool b:=rfl
@[simp]theorem fin2_bool {b:Bool}{H:List Blk}:QS H (.bool b)=.bool b:=rfl
@[simp]theorem fin_bool {b:Bool}{H:List Blk}:fin H (.bool b)=.bool b:=rfl
@[simp]theorem atom_int {k:IntKind}{n:Int}:AV.atom (.int k n)=true:=rfl
@[simp]theorem qpY {k:IntKind}{n:Int}:qK (.int k n)=some [.int k n]:=rfl
@[simp]theorem pl1_int {k:IntKind}{n:Int}:pl1 (.int k n)=.int k n:=rfl
@[simp]theorem pl2_int {k:IntKind}{n:Int}:pl2 (.int k n)=.int k n:=rfl
@[simp]theorem plain_int {k:IntKind}{n:Int}:plain (.int k n)=.int k n:=rfl
@[simp]theorem fin1_int {k:IntKind}{n:Int}{H:List Blk}:kv H (.int k n)=.int k n:=rfl
@[simp]theorem fin2_int {k:IntKind}{n:Int}{H:List Blk}:QS H (.int k n)=.int k n:=rfl
@[simp]theorem fin_int {k:IntKind}{n:Int}{H:List Blk}:fin H (.int k n)=.int k n:=rfl
@[simp]theorem atom_str {s:List UInt8}:AV.atom (.str s)=true:=rfl
@[simp]theorem qpV {s:List UInt8}:qK (.str s)=some [.str s]:=rfl
@[simp]theorem pl1_str {s:List UInt8}:pl1 (.str s)=.str s:=rfl
@[simp]theorem pl2_str {s:List UInt8}:pl2 (.str s)=.str s:=rfl
@[simp]theorem plain_str {s:List UInt8}:plain (.str s)=.str s:=rfl
@[simp]theorem fin1_str {s:List UInt8}{H:List Blk}:kv H (.str s)=.str s:=rfl
@[simp]theorem fin2_str {s:List UInt8}{H:List Blk}:QS H (.str s)=.str s:=rfl
@[simp]theorem fin_str {s:List UInt8}{H:List Blk}:fin H (.str s)=.str s:=rfl
@[simp]theorem atom_nilp  : AV.atom (.nilp)=true:=rfl
@[simp]theorem qnF  : qK (.nilp)=some [.nilp]:=rfl
@[simp]theorem pl1_nilp  : pl1 (.nilp)=.nilp:=rfl
@[simp]theorem pl2_nilp  : pl2 (.nilp)=.nilp:=rfl
@[simp]theorem plain_nilp  : plain (.nilp)=.nilp:=rfl
@[simp]theorem fin1_nilp  {H:List Blk}:kv H (.nilp)=.nilp:=rfl
@[simp]theorem fin2_nilp  {H:List Blk}:QS H (.nilp)=.nilp:=rfl
@[simp]theorem fin_nilp  {H:List Blk}:fin H (.nilp)=.nilp:=rfl
@[simp]theorem atom_ptr {b o:Nat}:AV.atom (.ptr b o)=true:=rfl
@[simp]theorem qpW {b o:Nat}:qK (.ptr b o)=some [.ptr b o]:=rfl
@[simp]theorem pl1_ptr {b o:Nat}:pl1 (.ptr b o)=.ptr b o:=rfl
@[simp]theorem pl2_ptr {b o:Nat}:pl2 (.ptr b o)=.ptr b o:=rfl
@[simp]theorem plain_ptr {b o:Nat}:plain (.ptr b o)=.ptr b o:=rfl
@[simp]theorem fin1_ptr {b o:Nat}{H:List Blk}:kv H (.ptr b o)=.ptr b o:=rfl
@[simp]theorem fin2_ptr {b o:Nat}{H:List Blk}:QS H (.ptr b o)=.ptr b o:=rfl
@[simp]theorem fin_ptr {b o:Nat}{H:List Blk}:fin H (.ptr b o)=.ptr b o:=rfl
@[simp]theorem atom_rptr {c:List AV}:AV.atom (.rptr c)=true:=rfl
@[simp]theorem qnE {c:List AV}:qK (.rptr c)=some [.rptr c]:=rfl
@[simp]theorem pl1_rptr {c:List AV}:pl1 (.rptr c)=.rptr c:=rfl
@[simp]theorem pl2_rptr {c:List AV}:pl2 (.rptr c)=.rptr c:=rfl
@[simp]theorem plain_rptr {c:List AV}:plain (.rptr c)=.rptr c:=rfl
@[simp]theorem fin1_rptr {c:List AV}{H:List Blk}:kv H (.rptr c)=.rptr c:=rfl
@[simp]theorem fin2_rptr {c:List AV}{H:List Blk}:QS H (.rptr c)=.rptr c:=rfl
@[simp]theorem fin_rptr {c:List AV}{H:List Blk}:fin H (.rptr c)=.rptr c:=rfl
@[simp]theorem atom_nilm  : AV.atom (.nilm)=true:=rfl
@[simp]theorem qnG  : qK (.nilm)=some [.nilm]:=rfl
@[simp]theorem pl1_nilm  : pl1 (.nilm)=.nilm:=rfl
@[simp]theorem pl2_nilm  : pl2 (.nilm)=.nilm:=rfl
@[simp]theorem plain_nilm  : plain (.nilm)=.nilm:=rfl
@[simp]theorem fin1_nilm  {H:List Blk}:kv H (.nilm)=.nilm:=rfl
@[simp]theorem fin2_nilm  {H:List Blk}:QS H (.nilm)=.nilm:=rfl
@[simp]theorem fin_nilm  {H:List Blk}:fin H (.nilm)=.nilm:=rfl
@[simp]theorem atom_map {b:Nat}:AV.atom (.map b)=true:=rfl
@[simp]theorem qpX {b:Nat}:qK (.map b)=some [.map b]:=rfl
@[simp]theorem pl1_map {b:Nat}:pl1 (.map b)=.map b:=rfl
@[simp]theorem pl2_map {b:Nat}:pl2 (.map b)=.map b:=rfl
@[simp]theorem plain_map {b:Nat}:plain (.map b)=.map b:=rfl
@[simp]theorem fin1_map {b:Nat}{H:List Blk}:kv H (.map b)=.map b:=rfl
@[simp]theorem fin2_map {b:Nat}{H:List Blk}:QS H (.map b)=.map b:=rfl
@[simp]theorem fin_map {b:Nat}{H:List Blk}:fin H (.map b)=.map b:=rfl
@[simp]theorem atom_iter {b:Nat}:AV.atom (.iter b)=true:=rfl
@[simp]theorem qnI {b:Nat}:qK (.iter b)=some [.iter b]:=rfl
@[simp]theorem pl1_iter {b:Nat}:pl1 (.iter b)=.iter b:=rfl
@[simp]theorem pl2_iter {b:Nat}:pl2 (.iter b)=.iter b:=rfl
@[simp]theorem plain_iter {b:Nat}:plain (.iter b)=.iter b:=rfl
@[simp]theorem fin1_iter {b:Nat}{H:List Blk}:kv H (.iter b)=.iter b:=rfl
@[simp]theorem fin2_iter {b:Nat}{H:List Blk}:QS H (.iter b)=.iter b:=rfl
@[simp]theorem fin_iter {b:Nat}{H:List Blk}:fin H (.iter b)=.iter b:=rfl
@[simp]theorem atom_fn {f:FuncId}{a c:List AV}:AV.atom (.fn f a c)=true:=rfl
@[simp]theorem acells_fnB {f:FuncId}{a c:List AV}:qK (.fn f a c)=some [.fn f a c]:=rfl
@[simp]theorem pl1_fn {f:FuncId}{a c:List AV}:pl1 (.fn f a c)=.fn f a c:=rfl
@[simp]theorem pl2_fn {f:FuncId}{a c:List AV}:pl2 (.fn f a c)=.fn f a c:=rfl
@[simp]theorem plain_fn {f:FuncId}{a c:List AV}:plain (.fn f a c)=.fn f a c:=rfl
@[simp]theorem fin1_fn {f:FuncId}{a c:List AV}{H:List Blk}:kv H (.fn f a c)=.fn f a c:=rfl
@[simp]theorem fin2_fn {f:FuncId}{a c:List AV}{H:List Blk}:QS H (.fn f a c)=.fn f a c:=rfl
@[simp]theorem fin_fn {f:FuncId}{a c:List AV}{H:List Blk}:fin H (.fn f a c)=.fn f a c:=rfl
@[simp]theorem atom_nilf  : AV.atom (.nilf)=true:=rfl
@[simp]theorem qnH  : qK (.nilf)=some [.nilf]:=rfl
@[simp]theorem pl1_nilf  : pl1 (.nilf)=.nilf:=rfl
@[simp]theorem pl2_nilf  : pl2 (.nilf)=.nilf:=rfl
@[simp]theorem plain_nilf  : plain (.nilf)=.nilf:=rfl
@[simp]theorem fin1_nilf  {H:List Blk}:kv H (.nilf)=.nilf:=rfl
@[simp]theorem fin2_nilf  {H:List Blk}:QS H (.nilf)=.nilf:=rfl
@[simp]theorem fin_nilf  {H:List Blk}:fin H (.nilf)=.nilf:=rfl
@[simp]theorem atom_sl {sz:Nat}{rows:List (List AV)}{tok:Tok}:AV.atom (.sl sz rows tok)=true:=rfl
@[simp]theorem acells_slB {sz:Nat}{rows:List (List AV)}{tok:Tok}:qK (.sl sz rows tok)=some [.sl sz rows tok]:=rfl
@[simp]theorem qoD {sz:Nat}{rows:List (List AV)}  : pl1 (.sl sz rows .none)=.sl sz rows .none:=rfl
@[simp]theorem qoC {sz:Nat}{rows:List (List AV)}  : pl2 (.sl sz rows .none)=.sl sz rows .none:=rfl
@[simp]theorem qk6 {sz:Nat}{rows:List (List AV)}  : plain (.sl sz rows .none)=.sl sz rows .none:=rfl
@[simp]theorem qns {sz:Nat}{rows:List (List AV)}  {H:List Blk}:kv H (.sl sz rows .none)=.sl sz rows .none:=rfl
@[simp]theorem qnr {sz:Nat}{rows:List (List AV)}  {H:List Blk}:QS H (.sl sz rows .none)=.sl sz rows .none:=rfl
@[simp]theorem qpq {sz:Nat}{rows:List (List AV)}  {H:List Blk}:fin H (.sl sz rows .none)=.sl sz rows .none:=rfl
@[simp]theorem pl1_sl_nil {sz:Nat}{rows:List (List AV)}  : pl1 (.sl sz rows .nil)=.sl sz rows .nil:=rfl
@[simp]theorem pl2_sl_nil {sz:Nat}{rows:List (List AV)}  : pl2 (.sl sz rows .nil)=.sl sz rows .nil:=rfl
@[simp]theorem qm1 {sz:Nat}{rows:List (List AV)}  : plain (.sl sz rows .nil)=.sl sz rows .nil:=rfl
@[simp]theorem qpu {sz:Nat}{rows:List (List AV)}  {H:List Blk}:kv H (.sl sz rows .nil)=.sl sz rows .nil:=rfl
@[simp]theorem qpt {sz:Nat}{rows:List (List AV)}  {H:List Blk}:QS H (.sl sz rows .nil)=.sl sz rows .nil:=rfl
@[simp]theorem fin_sl_nil {sz:Nat}{rows:List (List AV)}  {H:List Blk}:fin H (.sl sz rows .nil)=.sl sz rows .nil:=rfl
@[simp]theorem qm4 {sz:Nat}{rows:List (List AV)}  : pl1 (.sl sz rows .tight)=.sl sz rows .tight:=rfl
@[simp]theorem qm2 {sz:Nat}{rows:List (List AV)}  : pl2 (.sl sz rows .tight)=.sl sz rows .tight:=rfl
@[simp]theorem qjW {sz:Nat}{rows:List (List AV)}  : plain (.sl sz rows .tight)=.sl sz rows .tight:=rfl
@[simp]theorem qlZ {sz:Nat}{rows:List (List AV)}  {H:List Blk}:kv H (.sl sz rows .tight)=.sl sz rows .tight:=rfl
@[simp]theorem qlX {sz:Nat}{rows:List (List AV)}  {H:List Blk}:QS H (.sl sz rows .tight)=.sl sz rows .tight:=rfl
@[simp]theorem qnp {sz:Nat}{rows:List (List AV)}  {H:List Blk}:fin H (.sl sz rows .tight)=.sl sz rows .tight:=rfl
@[simp]theorem qm5 {sz:Nat}{rows:List (List AV)}{t k:Nat}:pl1 (.sl sz rows (.chain t k))=.sl sz rows .none:=rfl
@[simp]theorem qm3 {sz:Nat}{rows:List (List AV)}{t k:Nat}:pl2 (.sl sz rows (.chain t k))=.sl sz rows .none:=rfl
@[simp]theorem qjX {sz:Nat}{rows:List (List AV)}{t k:Nat}:plain (.sl sz rows (.chain t k))=.sl sz rows .none:=rfl
@[simp]theorem ql0 {sz:Nat}{rows:List (List AV)}{t k:Nat}{H:List Blk}:kv H (.sl sz rows (.chain t k))=.sl sz rows .none:=rfl
@[simp]theorem qlY {sz:Nat}{rows:List (List AV)}{t k:Nat}{H:List Blk}:QS H (.sl sz rows (.chain t k))=.sl sz rows .none:=rfl
@[simp]theorem qnq {sz:Nat}{rows:List (List AV)}{t k:Nat}{H:List Blk}:fin H (.sl sz rows (.chain t k))=.sl sz rows .none:=rfl
@[simp]theorem atom_ms {b o l z:Nat}:AV.atom (.ms b o l z)=true:=rfl
@[simp]theorem acells_msB {b o l z:Nat}:qK (.ms b o l z)=some [.ms b o l z]:=rfl
@[simp]theorem pl1_ms {b o l z:Nat}:pl1 (.ms b o l z)=.ms b o l z:=rfl
@[simp]theorem pl2_ms {b o l z:Nat}:pl2 (.ms b o l z)=.ms b o l z:=rfl
@[simp]theorem plain_ms {b o l z:Nat}:plain (.ms b o l z)=.ms b o l z:=rfl
@[simp]theorem atom_agg {c:List AV}:AV.atom (.agg c)=false:=rfl
@[simp]theorem atom_tup {c:List AV}:AV.atom (.tup c)=false:=rfl
@[simp]theorem qp0 {c:List AV}:qK (.agg c)=if c.all AV.atom=true then some c else none:=rfl
@[simp]theorem acells_tup {c:List AV}:qK (.tup c)=none:=rfl
@[simp]theorem pl2_agg {c:List AV}:pl2 (.agg c)=.agg (c.map pl1):=rfl
@[simp]theorem plain_agg {c:List AV}:plain (.agg c)=.agg (c.map pl1):=rfl
@[simp]theorem fin2_agg {c:List AV}{H:List Blk}:QS H (.agg c)=.agg (c.map (kv H)):=rfl
@[simp]theorem fin_agg {c:List AV}{H:List Blk}:fin H (.agg c)=.agg (c.map (kv H)):=rfl
@[simp]theorem plain_tup {c:List AV}:plain (.tup c)=.tup (c.map pl2):=rfl
@[simp]theorem fin_tup {c:List AV}{H:List Blk}:fin H (.tup c)=.tup (c.map (QS H)):=rfl
end
attribute [simp] qtr qsq
attribute [simp] qV zu qv qk qA zp ZP qS TD.isSl TD.isPtr TD.isMap TD.isFn
section
variable {A t:List Blk}{k:Nat}{x:Blk}
@[simp]theorem at_app0:(A++t)[A.length]?=t[0]? := by rw[qqd (qqf _),qrl]
@[simp]theorem at_appk:(A++t)[A.length+k]?=t[k]? := by rw[qqd (by omega)];congr 1;try omega
theorem qa (h:A[k]?=some x)(t:List Blk):(A++t)[k]?=some x:=by rw[qqe (qp5.1 h).1,h]
theorem yO {b:Nat}(h:A[b]?=some x)(t:List Blk)(y:Blk):(A++t).set b y=A.set b y++t:=List.set_append_left _ _ (qp5.1 h).1
end
section
variable {P:Program}{G:Glo}{U:St}{f:FuncId}{args:List AV}{r:AV}
theorem Pure.kO {G : Nat → AV} {fn : Func} {c : Code} (o : Opts) (deep : Bool) (hm : P.follows .mixedOrders = true) (hf : P.funcs[f]? = some fn) (hb : fn.body = some c) (hk : (jH fn.ntmps o c && decide (args.length ≤ fn.ntmps) && fn.name != "runtime.NumGoroutine") = true)
 (h:kC P G o c (Z4 args) ⟨[],[]⟩ [] (qbC P deep fn.results.toList r)):Pure P G f args r:=Pure.vcO o deep hm hf hb hk h
theorem Pure.k {G : Nat → AV} {fn : Func} {c : Code} (hm : P.follows .mixedOrders = true) (hf : P.funcs[f]? = some fn) (hb : fn.body = some c) (hk : (jH fn.ntmps o0 c && decide (args.length ≤ fn.ntmps) && fn.name != "runtime.NumGoroutine") = true)
 (h:kC P G o0 c (Z4 args) ⟨[],[]⟩ [] (qbC P false fn.results.toList r)):Pure P G f args r:=Pure.vc hm hf hb hk h
theorem qg.kO {fn : Func} {c : Code} {Q : AV → St → Prop} (o : Opts) (hm : P.follows .mixedOrders = true) (hf : P.funcs[f]? = some fn) (hb : fn.body = some c) (hk : (jH fn.ntmps o c && decide (args.length ≤ fn.ntmps) && fn.name != "runtime.NumGoroutine") = true)
 (h:kC P G o c (Z4 args) U [] (qbZ P fn.results.toList Q)):qg P G f args U Q:=qg.vcO o hm hf hb hk h
theorem qg.k {fn : Func} {c : Code} {Q : AV → St → Prop} (hm : P.follows .mixedOrders = true) (hf : P.funcs[f]? = some fn) (hb : fn.body = some c) (hk : (jH fn.ntmps o0 c && decide (args.length ≤ fn.ntmps) && fn.name != "runtime.NumGoroutine") = true)
 (h:kC P G o0 c (Z4 args) U [] (qbZ P fn.results.toList Q)):qg P G f args U Q:=qg.vc hm hf hb hk h
end
section
variable {P:Program}{G:Glo}{o:Opts}{ops:Array Oper}{d:Bool}{g:FuncId}{args args':List AV}{env:Env}{U:St}{ks:List Fr}{Q:Exit->Env->St->Prop}{dst:Option Nat}{ct:Ct}{r:AV}
theorem qc.call (h:Pure P G g args r)(hno:qq args=true)(hq:kT P G o ops ct (upd env dst r) U ks Q):qc P G o ops d g args U dst ct env ks Q:=qb.call h hno hq
theorem qc.less (h:Pure P G g args' r)(hno:qq args=true)(ha:zm args args')(hq:kT P G o ops ct (upd env dst r) U ks Q):qc P G o ops d g args U dst ct env ks Q:=qb.less h hno ha hq
theorem qc.pure (h:Pure P G g args' r)(hno:qq (args.map plain)=true)(ha:zm (args.map plain) args')(hq:kT P G o ops ct (upd env dst r) U ks Q):qc P G o ops d g args U dst ct env ks Q:=qb.pure h hno ha hq
theorem qc.lent (h:Pure P G g args' r)(hb:bare r=true)(ha:zm (args.map (frz U.H 8)) args')(hq:kT P G o ops ct (upd env dst r) U ks Q):qc P G o ops d g args U dst ct env ks Q:=qb.lent h hb ha hq
theorem qc.acall {R:AV->St->Prop}(h:qg P G g args U R)(hq:∀ v U',R v U'->kT P G o ops ct (upd env dst v) U' ks Q):qc P G o ops false g args U dst ct env ks Q:=qg.imp h hq
theorem qL.list {α:Type}(l:List α)(J:List α->Env->St->Prop){c:Code}(h0:J [] env U)
 (hs:∀ d v r env U,l=d++v::r->l[d.length]?=some v->d.length<l.length->J d env U->kC P G o c env U (.loop (J (d++[v]))::ks) Q)
 (he:∀ env U,J l env U->kC P G o c env U (.loop (fun _ _=>False)::ks) Q) (hp:jY c=true:=by rfl):qL P G o c env U ks Q:=qD.list l J h0 hs he hp
theorem qL.count (n:Nat)(J:Nat->Env->St->Prop){c:Code}(h0:J 0 env U)
 (hs:∀ i env U,i<n->J i env U->kC P G o c env U (.loop (J (i+1))::ks) Q)
 (he:∀ env U,J n env U->kC P G o c env U (.loop (fun _ _=>False)::ks) Q) (hp:jY c=true:=by rfl):qL P G o c env U ks Q:=qD.count n J h0 hs he hp
theorem qL.gen {c:Code}(I:Nat->Env->St->Prop)(n:Nat)(h:I n env U)(hr:∀ n env U (R:Env->St->Prop),(∀ m env U,m<n->I m env U->R env U)->I n env U->kC P G o c env U (.loop R::ks) Q):qL P G o c env U ks Q :=
 qD.intro I n h fun n env U hI=>hr n env U _ (fun m env U hm hI=>⟨m,hm,hI⟩) hI
end
end
section
def jw {α:Type}(b sz:Nat)(en:α->List AV)(H:List Blk)(v:AV)(l:List α):Prop :=
 (l=[]/\v=.sl 0 [] .nil)\/(l≠[]/\v=.ms b 0 l.length sz/\H[b]?=some (.cells (l.flatMap en)))
section
variable {α:Type}{b sz:Nat}{en:α->List AV}{H:List Blk}{v:AV}{l m:List α}
theorem wE (hl:∀ x,(en x).length=sz):∀ (l:List α) (t:List AV),kF sz l.length (l.flatMap en++t)=l.map en
 | [],t=>by simp[kF]
 | a::r,t=>by
  have h1:((a::r).flatMap en++t).take sz=en a:=by
   rw[qqs,qqC,qq3 (by rw[hl];exact qqf _),qqg (by rw[hl];exact qqf _)]
  have h2:((a::r).flatMap en++t).drop sz=r.flatMap en++t:=by
   rw[qqs,qqC,qr2 (by rw[hl];exact qqf _),qqL (by rw[hl];exact qqf _),qqw]
  show ((a::r).flatMap en++t).take sz::kF sz r.length (((a::r).flatMap en++t).drop sz)=en a::r.map en;rw[h1,h2,wE hl r t]
theorem jj (hl:∀ x,(en x).length=sz):∀ (l:List α),(l.flatMap en).length=l.length*sz
 | []=>by simp
 | a::r=>by rw[qqs,qqb,hl,jj hl r,qqm,qsM];omega
theorem Zt (hn:∀ x,qq (en x)=true){n:Nat}:∀ (l:List α),(l.map en).map (·.map (frz H n))=l.map en
 | []=>rfl
 | a::r=>by
  have h:(en a).map (frz H n)=en a:=by
   have:=hn a;generalize en a=c at this
   induction c with
   | nil=>rfl
   | cons x y ih=>
    simp only[qq,qp9]at this;rw[qqk,qt this.1,ih this.2]
  rw[qqk,qqk,h,Zt hn r]
theorem jw.frz (h:jw b sz en H v l)(hl:∀ x,(en x).length=sz)(hn:∀ x,qq (en x)=true)(ha:∀ x,(en x).all AV.atom=true)(n:Nat):Leq (frz H (n+1) v) (.sl sz (l.map en) .none):=by
 rcases h with ⟨rfl,rfl⟩|⟨hne,rfl,hb⟩
 . rw[qt (by simp)];simp
 . have hc:=wE hl l [];rw[qqP]at hc;have hall:((kF sz l.length (l.flatMap en)).map (·.map (Abs.frz H n))).all (·.all AV.atom)=true:=by
    rw[hc,Zt hn,qtn,qqi];intro x _;exact ha x
   unfold Abs.frz;simp only[qC,qqq,if_false,hb,qrB];rw[if_pos ⟨by rw[jj hl];omega,hall⟩,hc,Zt hn];exact Leq.refl _
theorem jw.append {D:Nat->Option TI}{T:List (Option Nat)}{ty e:Nat}{i j:TI}{tok:Tok}(h:jw b sz en H v l)(hi:D ty=some i)(hd:i.d=.sl e)(hj:D e=some j)(hsz:j.size=sz)(h0:0<sz)(hz:j.zero.length=sz)(hbt:j.bytes<=256)
 (hl:∀ x,(en x).length=sz) (hlen:l.length+m.length<=549755813888) (hm:m≠[]) :
 ∃ v' H',zs D ⟨H,T⟩ ty ty v (.sl sz (m.map en) tok)=some (v',⟨H',T⟩)/\jw H.length sz en H' v' (l++m)/\(∀ (k:Nat) (x:Blk),H[k]?=some x->(l=[]\/k≠b)->H'[k]?=some x)/\H'.length=H.length+1:=by
 subst hsz;have hml:m.length≠0:=fun h=>hm (qsp.1 h)
 have hfl:(m.map en).flatten=m.flatMap en:=by rw[qrQ]
 rcases h with ⟨rfl,rfl⟩|⟨hne,rfl,hb⟩
 . refine⟨.ms H.length 0 m.length j.size,H++[.cells (m.flatMap en)],?_,?_,?_,by simp⟩
   . have:m.length<=549755813888:=by simpa using hlen
     simp[zs,z6,hi,hd,hj,h0,hz,hbt,KK,qS,hml,this,hm,hfl]
   . right;refine⟨by simpa using hm,by simp,by simp⟩
   . intro k x hk _;rw[qqe (qp5.1 hk).1,hk]
 . have hfl2:=jj hl l;refine⟨.ms H.length 0 (l.length+m.length) j.size,H.set b .dead++[.cells (l.flatMap en++m.flatMap en)],?_,?_,?_,by simp⟩
   . have ht:(l.flatMap en).take (l.length*j.size)=l.flatMap en:=qqg (by omega);have hle:l.length*j.size<=(l.flatMap en).length:=(by omega);rw[hfl2]at hle;simp[zs,z6,hi,hd,hj,h0,hz,hbt,KK,qS,hml,hlen,hm,hfl,hb,hfl2,ht]
   . right;refine⟨by simp[hne],by simp,by simp⟩
   . intro k x hk hkb;have hkb:=hkb.resolve_left hne;rw[qqe (by rw[qrC];exact (qp5.1 hk).1),qp7 (Ne.symm hkb),hk]
theorem jw.append0 {D:Nat->Option TI}{T:List (Option Nat)}{ty e:Nat}{i j:TI}{sz2:Nat}{tok:Tok}(h:jw b sz en H v l)(hi:D ty=some i)(hd:i.d=.sl e)(hj:D e=some j)(hne:l≠[]) :
 zs D ⟨H,T⟩ ty ty v (.sl sz2 [] tok)=some (v,⟨H,T⟩):=by
 rcases h with ⟨rfl,rfl⟩|⟨hne,rfl,hb⟩
 . exact absurd rfl hne
 . simp only[zs,z6,hi,hd,hj,qS,KK];split<;>simp_all
theorem jw.frzNo (h:jw b sz en H v l)(hl:∀ x,(en x).length=sz)(hn:∀ x,qq (en x)=true)(ha:∀ x,(en x).all AV.atom=true)(n:Nat):qC (Abs.frz H (n+1) v)=true:=by
 rcases h with ⟨rfl,rfl⟩|⟨hne,rfl,hb⟩
 . rw[qt (by simp)];simp
 . have hc:=wE hl l [];rw[qqP]at hc;have hall:((kF sz l.length (l.flatMap en)).map (·.map (Abs.frz H n))).all (·.all AV.atom)=true:=by
    rw[hc,Zt hn,qtn,qqi];intro x _;exact ha x
   unfold Abs.frz;simp only[qC,qqq,if_false,hb,qrB];rw[if_pos ⟨by rw[jj hl];omega,hall⟩,hc,Zt hn];simpa using zz hn l
theorem jw.lt (h:jw b sz en H v l)(hl:l≠[]):b<H.length:=by
 rcases h with ⟨h,_⟩|⟨_,_,h⟩
 . exact absurd h hl
 . exact (qp5.1 h).1
theorem jw.keep {H':List Blk}(h:jw b sz en H v l)(hk:∀ x,l≠[]->H[b]?=some x->H'[b]?=some x):jw b sz en H' v l:=by
 rcases h with h|⟨h1,h2,h3⟩
 . exact .inl h
 . exact .inr ⟨h1,h2,hk _ h1 h3⟩
theorem jw.at (h:jw b sz en H v l)(hl:l≠[]):v=.ms b 0 l.length sz/\H[b]?=some (.cells (l.flatMap en)):=by
 rcases h with ⟨h,_⟩|⟨_,h1,h2⟩
 . exact absurd h hl
 . exact⟨h1,h2⟩
end
section
variable {α:Type}{b sz:Nat}{en:α->List AV}{H:List Blk}{v:AV}{l m:List α}
theorem jw.appendK {P:Program}{G:Glo}{o:Opts}{D:Nat->Option TI}{T:List (Option Nat)}{ty e:Nat}{i j:TI}{tok:Tok}(h:jw b sz en H v l)(hi:D ty=some i)(hd:i.d=.sl e)(hj:D e=some j)(hsz:j.size=sz)(h0:0<sz)(hz:j.zero.length=sz)(hbt:j.bytes<=256)
 (hl:∀ x,(en x).length=sz) (hlen:l.length+m.length<=549755813888) :
 ∃ v' b' H',(∀ ops dst ct env ks Q,kY P G o ops ((zs D ⟨H,T⟩ ty ty v (.sl sz (m.map en) tok)).map fun p=>[p]) (qB D ⟨H,T⟩ ty v (.sl sz (m.map en) tok)) dst ct env ks Q=kT P G o ops ct (upd env dst v') ⟨H',T⟩ ks Q) /\
  jw b' sz en H' v' (l++m)/\(b'=b\/b'=H.length)/\(∀ (k:Nat) (x:Blk),H[k]?=some x->(l=[]\/k≠b)->H'[k]?=some x)/\H.length<=H'.length:=by
 by_cases hm:m=[]
 . subst hm;rw[qqP];by_cases hne:l=[]
   . rcases h with ⟨rfl,rfl⟩|⟨hne',_⟩
     . refine⟨.sl 0 [] .nil,b,H,fun ops dst ct env ks Q=>?_,.inl ⟨rfl,rfl⟩,.inl rfl,fun k x hk _=>hk,qqf _⟩;subst hsz;have hX:zs D ⟨H,T⟩ ty ty (.sl 0 [] .nil) (.sl j.size [] tok)=none:=by
        simp[zs,z6,hi,hd,hj,qS,KK]
       have hA:qB D ⟨H,T⟩ ty (.sl 0 [] .nil) (.sl j.size [] tok)=some (.sl 0 [] .nil,⟨H,T⟩):=by
        simp[qB,hi,hd,hj,zp,h0,hz,hbt]
       rw[qqF,hX,hA];simp
     . exact absurd hne hne'
   . refine⟨v,b,H,fun ops dst ct env ks Q=>?_,h,.inl rfl,fun k x hk _=>hk,qqf _⟩;rw[qqF,h.append0 hi hd hj hne];simp
 . obtain⟨v',H',h1,h2,h3,h4⟩:=h.append (T:=T) (tok:=tok) hi hd hj hsz h0 hz hbt hl hlen hm;refine⟨v',H.length,H',fun ops dst ct env ks Q=>?_,h2,.inr rfl,h3,by omega⟩;rw[h1];simp
end
section
variable {A t:List Blk}{b k:Nat}{x y:Blk}
end
theorem vL {c:List AV}:∀ (new:List AV) (pre:List AV) (off:Nat),zt (pre++c) (pre.length+off) new=pre++zt c off new
 | new,pre,off=>by
  induction new generalizing c off with
  | nil=>rfl
  | cons v r ih=>
   rw[zt,zt,qrb _ _ (by omega),qq2,qsd];exact ih (off+1)
theorem wK:∀ (new c t:List AV),c.length=new.length->zt (c++t) 0 new=new++t:=by
 have gen:∀ (new pre c t:List AV),c.length=new.length->zt (pre++(c++t)) pre.length new=pre++(new++t):=by
  intro new
  induction new with
  | nil=>intro pre c t h;have:c=[]:=qsp.1 h;subst this;simp[zt]
  | cons v r ih=>
   intro pre c t h
   cases c with
   | nil=>simp at h
   | cons x c=>
    have h':c.length=r.length:=(by simpa using h);have:=ih (pre++[v]) c t h';simp only[qqC,qsa,qqb,qqA]at this;rw[zt];have e:(pre++(x::c++t)).set pre.length v=pre++v::(c++t):=(by simp);rw[e];exact this
 intro new c t h;simpa using gen new [] c t h
theorem Qi {α:Type}{sz:Nat}{en:α->List AV}(hl:∀ x,(en x).length=sz):∀ (l:List α) (i:Nat) (v:α),i<l.length->zt (l.flatMap en) (i*sz) (en v)=(l.set i v).flatMap en
 | [],i,v,h=>by simp at h
 | a::r,0,v,_=>by
  rw[qqs,qrG,qtc,qqs];exact wK _ _ _ (by rw[hl,hl])
 | a::r,i+1,v,h=>by
  have h':i<r.length:=by simpa using h
  rw[qqs,qsu,qqs,<- Qi hl r i v h',qsM,qrO];have:=vL (c:=r.flatMap en) (en v) (en a) (i*sz)
  rwa[hl]at this
section
variable {P:Program}{G:Glo}{o:Opts}{env:Env}{U:St}{ks:List Fr}{Q:Exit->Env->St->Prop}
theorem qL.listR {α:Type}(l:List α)(J:List α->Env->St->Prop){c:Code}(h0:J [] env U)
 (hs:∀ d v r env U (R:Env->St->Prop),(∀ env U,J (d++[v]) env U->R env U)->l=d++v::r->l[d.length]?=some v->d.length<l.length->J d env U->kC P G o c env U (.loop R::ks) Q)
 (he:∀ env U,J l env U->kC P G o c env U (.loop (fun _ _=>False)::ks) Q) (hp:jY c=true:=by rfl):qL P G o c env U ks Q :=
 qL.list l J h0 (fun d v r env U h1 h2 h3 hJ=>hs d v r env U _ (fun _ _ h=>h) h1 h2 h3 hJ) he hp
end
section
variable {P:Program}{G:Glo}{o:Opts}{env:Env}{U:St}{ks:List Fr}{Q:Exit->Env->St->Prop}
theorem qbg (hX:G.NoX){g:Operand}{pe gb:Nat}{cap:List AV}{x y:Code}(pre:St->Prop)(vals:List AV)(J:Nat->St->Prop)(hg:ev G env g=.fn gb [] cap)(hfw:FwOk P G gb cap pre vals)(hpre:∀ i U,J i U->pre U)(hJ:J 0 U)
 (hs:∀ i v U,vals[i]?=some v->J i U->kC P G o x (upd env (some pe) v) U [] (fun e env' U'=>e=.normal/\kC P G o y env' U' [] (fun e _ U''=>e=.normal/\J (i+1) U'')))
 (he:∀ U,J vals.length U->kX P G o .normal env U ks Q):kC P G o (.rangeFunc g #[pe] x y) env U ks Q:=by
 unfold kC;simp only[vcC,hg];exact⟨pre,vals,J,hX,hfw,hpre,hJ,hs,he⟩
end
theorem VI {H:List Blk}{b off n:Nat}{c:List AV}(h:H[b]?=some (.cells c)):frz H (n+1) (.ptr b off)=.rptr ((c.drop off).map (frz H n)):=by
 rw[frz];simp[qC,h]
theorem qcP {H:List Blk}{n:Nat}{s:List UInt8}:frz H n (.str s)=.str s:=qt rfl
theorem wU {H:List Blk}{n:Nat}{k:IntKind}{z:Int}:frz H n (.int k z)=.int k z:=qt rfl
theorem yP {H:List Blk}{n:Nat}{z:Bool}:frz H n (.bool z)=.bool z:=qt rfl
section
variable {P:Program}{G:Glo}{o:Opts}{ops:Array Oper}{ac dp:List Nat}{env:Env}{U:St}{ks:List Fr}{Q:Exit->Env->St->Prop}
def kAl (P:Program)(G:Glo)(o:Opts)(ops:Array Oper)(ac:List Nat)(al:Alts)(env:Env)(U:St)(ks:List Fr)(Q:Exit->Env->St->Prop):Prop:=vF P G o.mu ac ops al env U (fun env U=>itp P G o ks Q .normal env U)
@[simp ↓]theorem kT_fork {al:Alts}:kT P G o ops (.plan ac (.fork al)) env U ks Q=kAl P G o ops ac al env U ks Q:=by simp only[kT,vcS,kAl]
@[simp ↓]theorem kAl_nil:kAl P G o ops ac .nil env U ks Q=True:=by simp only[kAl,vF]
@[simp ↓]theorem kAl_cons {k:Nat}{s:Sch}{r:Alts}:kAl P G o ops ac (.cons k s r) env U ks Q=(kP P G o ops (ops[k]?) (match ops[k]? with | some u=>qM o.mu ac k u.op != 9 | none=>false) (.plan ac s) env U ks Q/\kAl P G o ops ac r env U ks Q):=by
 simp only[kAl,vF,kP,kT];congr 1;split<;>rename_i h<;>simp[h]
end
end
section
section
variable {α:Type}{sz t:Nat}{en:α->List AV}{T:List (Option Nat)}{a s m:List α}
end
section
variable {P:Program}{G:Glo}{o:Opts}{env:Env}{U:St}{ks:List Fr}{Q:Exit->Env->St->Prop}
end
end
section
section
variable {P:Program}{G:Glo}{U:St}{f:FuncId}{args args':List AV}{Q:AV->St->Prop}
theorem qg.leq (h:qg P G f args' U Q)(ha:zm args args'):qg P G f args U Q :=
 ⟨h.1,fun w0 ro0 K w vs hw hvs=>h.2 w0 ro0 K w vs hw (zm.rel _ _ ha hvs)⟩
end
end
section
section
variable {P:Program}{G:Glo}{o:Opts}{ops:Array Oper}{ct:Ct}{env:Env}{U:St}{ks:List Fr}{Q:Exit->Env->St->Prop}
theorem kT_cut {y:Code}(I:Env->St->Prop)(h1:kT P G o ops ct env U (.loop I::ks) Q)(h2:∀ env U,I env U->kC P G o y env U ks Q):kT P G o ops ct env U (.seq y::ks) Q:=by
 unfold kT at h1 ⊢
 cases ct with
 | run d lw rest=>exact W0 (fun env U h=>h2 env U h) rest h1
 | plan ac s=>exact WZ (fun env U h=>h2 env U h) s h1
end
end
section
def KY {α:Type}(n sz:Nat)(en:α->List AV)(T:List (Option Nat))(v:AV)(l:List α):Prop :=
 (l=[]/\v=.sl 0 [] .nil)\/(l≠[]/\∃ t,n<=t/\v=.sl sz (l.map en) (.chain t l.length)/\T[t]?=some (some l.length))
section
variable {α:Type}{n sz:Nat}{en:α->List AV}{T T':List (Option Nat)}{v:AV}{l m:List α}
theorem KY.nil:KY n sz en T (.sl 0 [] .nil) ([]:List α):=.inl ⟨rfl,rfl⟩
theorem KY.ext (h:KY n sz en T v l)(hT:T <+: T'):KY n sz en T' v l:=by
 rcases h with h|⟨h1,t,h2,h3,h4⟩
 . exact .inl h
 . obtain⟨u,rfl⟩:=hT;exact .inr ⟨h1,t,h2,h3,by rw[qqe (qp5.1 h4).1,h4]⟩
theorem qfD {T0 T:List (Option Nat)}(h:T0 <+: T){t:Nat}(ht:T0.length<=t)(x:Option Nat):T0 <+: T.set t x:=by
 obtain⟨u,rfl⟩:=h;rw[qrb _ _ ht];exact⟨_,rfl⟩
theorem KY.append {T0:List (Option Nat)}{D:Nat->Option TI}{ty e:Nat}{i j:TI}{tok:Tok}(h:KY T0.length sz en T v l)(hT:T0 <+: T)(hi:D ty=some i)(hd:i.d=.sl e)(hj:D e=some j)(hsz:j.size=sz)(h0:0<sz)(hz:j.zero.length=sz)(hb:j.bytes<=256)
 (hlen:l.length+m.length<=549755813888) (sz2:Nat) (h2:sz2=sz\/m=[]) :
 ∃ v' T',(∀ H,qB D ⟨H,T⟩ ty v (.sl sz2 (m.map en) tok)=some (v',⟨H,T'⟩))/\KY T0.length sz en T' v' (l++m)/\T0 <+: T':=by
 subst hsz;by_cases hm:m=[]
 . subst hm;rw[qqP];refine⟨v,T,fun H=>?_,h,hT⟩;rcases h with ⟨rfl,rfl⟩|⟨hne,t,_,rfl,_⟩
   . simp[qB,hi,hd,hj,h0,hz,hb,zp]
   . have:l.length<=549755813888:=by simpa using hlen
     simp[qB,hi,hd,hj,h0,hz,hb,zp,this]
 . have h2:sz2=j.size:=h2.resolve_right hm;subst h2;have hml:m.length≠0:=fun h=>hm (qsp.1 h)
   rcases h with ⟨rfl,rfl⟩|⟨hne,t,ht,rfl,hk⟩
   . have:m.length<=549755813888:=by simpa using hlen
     refine⟨.sl j.size (m.map en) (.chain T.length m.length),T++[some m.length],fun H=>?_,.inr ⟨by simpa using hm,T.length,?_,by simp,by simp⟩,hT.trans (qta _ _)⟩
     . simp[qB,hi,hd,hj,h0,hz,hb,zp,this,hm]
     . obtain⟨u,rfl⟩:=hT;simp
   . refine⟨.sl j.size ((l++m).map en) (.chain t (l.length+m.length)),T.set t (some (l.length+m.length)),fun H=>?_,.inr ⟨by simp[hne],t,ht,by simp,?_⟩,qfD hT ht _⟩
     . simp[qB,hi,hd,hj,h0,hz,hb,zp,hlen,hm,hk]
     . rw[qqa (qp5.1 hk).1];simp
end
section
variable {P:Program}{G:Glo}{f:FuncId}{args:List AV}{U:St}{Q:AV->St->Prop}
theorem qg.up (h:qg P G f args U (fun r τ=>∃ w,Leq r w/\Q w τ)):qg P G f args U Q :=
 ⟨h.1,fun w0 ro0 K w vs hw hvs=>(h.2 w0 ro0 K w vs hw hvs).mono fun e w' h=>h.imp (fun ⟨v',v,U',K',h1,h2,h3,h4,u,h5,h6⟩=>⟨v',u,U',K',h1,h2,h3,Leq.rel _ _ h5 h4,h6⟩) id⟩
end
end
section
section
variable {P:Program}{G:Glo}{o:Opts}{ops:Array Oper}{ct:Ct}{env:Env}{U:St}{ks:List Fr}{Q:Exit->Env->St->Prop}{dst:Option Nat}
end
section
variable {es:List (AV×AV×Nat)}{H:List Blk}{T:List (Option Nat)}{it m clk:Nat}{seen:List Nat}
end
end
end Go.Abs
end
section
namespace Go.Proofs.YtoibbcnfhhggnaaGreatDoor
open Go Go.Abs
@[simp]def qH (n:Nd):List AV:=[.int .i64 n.1,.int .i64 n.2.1,.int .i64 n.2.2]
@[simp]theorem nrNd (l:List Nd):qQ (l.map qH)=true:=zz (fun x=>by simp) l
@[simp]def zT (d:List Nd):List AV:=[.sl 3 (d.map qH) .none]
def ndE (q:Nd×AV×Nat):AV×AV×Nat:=(.agg (qH q.1),q.2.1,q.2.2)
theorem qin (a b:Nd):Qz (.agg (qH a)) (.agg (qH b))=some (decide (a=b)):=by
 obtain⟨a1,a2,a3⟩:=a;obtain⟨b1,b2,b3⟩:=b;simp only[Qz,qH,je,wc,if_true];congr 1;rw[qq1];simp;omega
theorem qiO (n:Nd):zC (Dof Tryz.prog) 205 (.agg (qH n))=true:=by
 simp[zC,KV,kj,qS,z4,qrE]
theorem ZR {n:Nd}:∀ (E:List (Nd×AV×Nat)) (s:Nat),(∀ q∈E,q.1≠n)->jD (.agg (qH n)) (E.map ndE) s=some none
 | [],_,_=>rfl
 | q::E,s,h=>by
  have h0:=h q (by simp);simp only[qqk,ndE,jD,qin];have:decide (n=q.1)=false:=by simpa using fun e=>h0 e.symm
  rw[this];exact ZR E (s+1) fun x hx=>h x (by simp[hx])
theorem Vx {n:Nd}:∀ (E:List (Nd×AV×Nat)) (s:Nat),(E.map (·.1)).Nodup->∀ q∈E,q.1=n->∃ j,jD (.agg (qH n)) (E.map ndE) s=some (some (s+j,q.2.1))/\E[j]?=some q
 | [],_,_,q,hq,_=>by cases hq
 | e::E,s,hn,q,hq,hqn=>by
  simp only[qqk,qro]at hn;simp only[qqk,ndE,jD,qin];by_cases h0:n=e.1
  . have:decide (n=e.1)=true:=by simpa using h0
    rw[this];rcases qqv.1 hq with rfl|hq
    . exact⟨0,by simp,by simp⟩
    . exact absurd (qqx.2 ⟨q,hq,by rw[hqn,h0]⟩) hn.1
  . have:decide (n=e.1)=false:=by simpa using h0
    rw[this];rcases qqv.1 hq with rfl|hq
    . exact absurd hqn.symm h0
    . obtain⟨j,h1,h2⟩:=Vx E (s+1) hn.2 q hq hqn;exact⟨j+1,by simp only[h1];congr 3;omega,by simpa using h2⟩
theorem qnb:Pure Tryz.prog GG 127 [] (.agg (zT [(20,0,0),(20,1,1)])):=by
 refine Pure.k qe Tryz.func127 rfl (by kernel_rfl) ?_;simp[qV,zu,qv,qk,qA]
theorem eq_nd (a b:Nd):qc1 (Dof Tryz.prog) 205 (qH a) (qH b)=some (decide (a=b)):=by
 have:=qin a b;simp only[Qz]at this;simp[qc1,KV,kj,qS,z4,qrE];simpa using this
theorem ql3 (l:List Nd)(hl:Fits l):Pure Tryz.prog GG 312 [.sl 3 (l.map qH) .none,.sl 3 (l.map qH) .none] (.bool true):=by
 refine Pure.k qe Tryz.func312 rfl (by kernel_rfl) ?_;simp;refine qL.listR l (fun d ev U=>ev 0=.sl 3 (l.map qH) .none/\ev 1=.sl 3 (l.map qH) .none/\ev 12=.int .i64 l.length/\ev 13=.int .i64 d.length) ?_ ?_ ?_
 . simp
 . rintro d n rest ev U R hR hd hx hlt ⟨e0,e1,e12,e13⟩;have hdw:IntKind.i64.wrap ((d.length:Int)+1)=(d.length+1:Nat):=(by rw[wr (by omega) (by omega)];omega);have he:=eq_nd n n;simp only[qH]at he;simp[-getElem?_pos,e0,e1,e12,e13,hlt,hx,he,hdw];exact hR _ _ ⟨by simp[e0],by simp[e1],by simp[e12],by simp⟩
 . rintro ev U ⟨e0,e1,e12,e13⟩;simp[-getElem?_pos,e12,e13]
theorem qpx (d:List Nd)(h:DagOk d):Pure Tryz.prog GG 277 [.sl 3 (d.map qH) .none] (.bool true):=by
 refine Pure.k qe Tryz.func277 rfl (by kernel_rfl) ?_;have h2:(2:Int)<=d.length:=by have:=h.two;omega
 have h3:(d.length:Int)<=8192:=by have:=h.most;omega
 have ht:d.take 2=[(20,0,0),(20,1,1)]:=by
  have a:=h.n0;have b:=h.n1
  match d,a,b with
  | [],a,_=>cases a
  | [_],_,b=>cases b
  | x::y::r,a,b=>simp at a b;subst a b;rfl
 have he:=ql3 [(20,0,0),(20,1,1)] (by simp);simp[h2,h3,zw,zX,kf,z7,<- List.map_take,ht];refine qc.call qnb (by simp) ?_;simp;refine qc.call he (by simp) ?_;simp
theorem qhL (d:List Nd)(h:DagOk d)(i:Nat)(hi:2<=i)(hl:i<d.length):Pure Tryz.prog GG 278 [.sl 3 (d.map qH) .none,.int .i64 i] (.bool true):=by
 obtain⟨n,hn⟩:∃ n,d[i]?=some n:=⟨_,qp8 hl⟩;obtain⟨g1,g2,g3,g4,g5,g6⟩:=h.node i n hi hn;obtain⟨x,hx⟩:∃ x,d[n.2.1]?=some x:=⟨_,qp8 (by omega)⟩;obtain⟨y,hy⟩:∃ y,d[n.2.2]?=some y:=⟨_,qp8 (by omega)⟩;rw[jG hx]at g5;rw[jG hy]at g6;refine Pure.k qe Tryz.func278 rfl (by kernel_rfl) ?_;have q1:(n.1:Int)<20:=by omega
 have q2:(n.2.1:Int)<i:=by omega
 have q3:(n.2.2:Int)<i:=by omega
 have q4:¬ (n.2.1:Int)=n.2.2:=by omega
 obtain⟨a,b,c⟩:=n;simp only at *;have hm:∀ v:Int,v=(if (y.1:Int)<x.1 then (y.1:Int) else x.1)->(a:Int)<v:=by intro v hv;split at hv<;>omega
 simp[-getElem?_pos,hn,q1,q2,q3,q4,g4,hx,hy,Qx];split<;>omega
def Q8 (d:List Nd):List (Nd×AV×Nat):=(d.zipIdx).map fun q=>(q.1,.bool true,q.2)
theorem qfy (d:List Nd)(n:Nd):Q8 (d++[n])=Q8 d++[(n,.bool true,d.length)]:=by
 simp[Q8,qr7]
theorem qht (d:List Nd):(Q8 d).map (·.1)=d:=by simp[Q8,qrp,Function.comp_def]
theorem qhs {d:List Nd}{n:Nd}(h:n∉d):∀ q∈Q8 d,q.1≠n:=fun q hq e=>h (by
 have:q.1∈(Q8 d).map (·.1):=qqx.2 ⟨q,hq,rfl⟩;rw[qht]at this;exact e▸this)
theorem qbO (d:List Nd)(h:DagOk d):Pure Tryz.prog GG 226 [.agg (zT d)] (.bool true):=by
 have hmost:=h.most;refine Pure.k qe Tryz.func226 rfl (by kernel_rfl) ?_;simp;refine qc.call (qpx d h) (by simp) ?_;simp;refine qL.listR d (fun s ev U=>ev 1=.ptr 0 0/\ev 3=.map 1/\ev 12=.sl 3 (d.map qH) .none/\ev 13=.int .i64 d.length/\ev 14=.int .i64 s.length/\∃ t,U=⟨.cells (zT d)::.map ((Q8 s).map ndE) s.length::t,[]⟩) ?_ ?_ ?_
 . exact⟨by simp,by simp,by simp,by simp,by simp,[],by simp[Q8]⟩
 . rintro s n rest ev U R hR hd hx hlt ⟨e1,e3,e12,e13,e14,t,rfl⟩;have hdw:IntKind.i64.wrap ((s.length:Int)+1)=(s.length+1:Nat):=(by rw[wr (by omega) (by omega)];omega);have hns:n∉s:=by
    have:=h.nodup;rw[hd]at this;intro hm;exact (qqZ.1 this).2.2 n hm n (by simp) rfl
   have hfind:=ZR (n:=n) (Q8 s) 0 (qhs hns);have hfit:=qiO n;have hlk:∀ (T:List (Option Nat)) (u:List Blk),zx (Dof Tryz.prog) ⟨.cells (zT d)::.map ((Q8 s).map ndE) s.length::u,T⟩ 290 (.map 1) (.agg (qH n)) false=some (.bool false):=by
    intro T u;simp only[zx,D290,hfit,if_true];simp[-qH,hfind,WW]
   have hup:∀ (T:List (Option Nat)) (u:List Blk),za (Dof Tryz.prog) ⟨.cells (zT d)::.map ((Q8 s).map ndE) s.length::u,T⟩ 290 (.map 1) (.agg (qH n)) (.bool true)=some ⟨.cells (zT d)::.map ((Q8 (s++[n])).map ndE) (s.length+1)::u,T⟩:=by
    intro T u;simp only[za,D290,hfit,if_true];simp[-qH,hfind,qfy,ndE]
   simp only[qH]at hlk hup;have hgo:∀ (ev':Env) (u:List Blk),ev' 1=.ptr 0 0->ev' 3=.map 1->ev' 12=.sl 3 (d.map qH) .none->ev' 13=.int .i64 d.length->ev' 14=.int .i64 (s.length+1:Nat)->R ev' ⟨.cells (zT d)::.map ((Q8 (s++[n])).map ndE) (s.length+1)::u,[]⟩ :=
    fun ev' u a1 a2 a3 a4 a5=>hR _ _ ⟨a1,a2,a3,a4,by simpa using a5,u,by simp⟩
   simp only[zT]at hlk hup hgo;by_cases h2:2<=s.length
   . have h2':(2:Int)<=s.length:=(by omega);simp[-getElem?_pos,e1,e3,e12,e13,e14,hlt,hx,h2'];refine qc.call (qhL d h s.length h2 hlt) (by simp) ?_;simp[-getElem?_pos,e1,e3,e12,e13,e14,hlk,hup,hdw];exact hgo _ _ (by simp[e1]) (by simp[e3]) (by simp[e12]) (by simp[e13]) (by simp)
   . have h2':¬ (2:Int)<=s.length:=(by omega);simp[-getElem?_pos,e1,e3,e12,e13,e14,hlt,hx,h2',hlk,hup,hdw];exact hgo _ _ (by simp[e1]) (by simp[e3]) (by simp[e12]) (by simp[e13]) (by simp)
 . rintro ev U ⟨e1,e3,e12,e13,e14,t,rfl⟩;simp[-getElem?_pos,e13,e14]
theorem qfZ (n:Int):Pure Tryz.prog GG 328 [.int .i64 n] (.bool (decide (0<=n)&&decide (n<20))):=by
 refine Pure.k qe Tryz.func328 rfl (by kernel_rfl) ?_;by_cases h:0<=n<;>simp[h]
theorem qnl (d:List Nd)(h:DagOk d)(l:List Nat)(hl:l.length<=100)(hi:∀ i∈l,i<d.length)(tok:Tok):Pure Tryz.prog GG 242 [.agg (zT d),.sl 1 (l.map fun i:Nat=>[.int .i64 i]) .none] (.bool true):=by
 refine Pure.k qe Tryz.func242 rfl (by kernel_rfl) ?_;simp;refine qc.call (qbO d h) (by simp) ?_;simp;refine qL.listR l (fun s ev U=>ev 1=.sl 1 (l.map fun i:Nat=>[.int .i64 i]) .none/\ev 2=.ptr 0 0/\ev 10=.sl 1 (l.map fun i:Nat=>[.int .i64 i]) .none/\ev 11=.int .i64 l.length/\ev 12=.int .i64 s.length/\U=⟨[.cells (zT d)],[]⟩) ?_ ?_ ?_
 . simp
 . rintro s i rest ev U R hR hd hx hlt ⟨e1,e2,e10,e11,e12,rfl⟩;have hdw:IntKind.i64.wrap ((s.length:Int)+1)=(s.length+1:Nat):=(by rw[wr (by omega) (by omega)];omega);have h1:=hi i (qp6 hx);have h2:¬ (i:Int)<0:=(by omega);have h3:(i:Int)<d.length:=(by omega);simp[-getElem?_pos,e1,e2,e10,e11,e12,hlt,hx,h1,h3,hdw];exact hR _ _ ⟨by simp[e1],by simp[e2],by simp[e10],by simp[e11],by simp,rfl⟩
 . rintro ev U ⟨e1,e2,e10,e11,e12,rfl⟩;simp[-getElem?_pos,e11,e12]
def frzB (d:List Nd)(full:Bool):AV:=.rptr [.sl 3 (d.map qH) .none,.any,.bool full]
theorem ZW (d:List Nd)(full one:Bool)(f L:Nat)(hf:f<d.length):Pure Tryz.prog GG 293 [frzB d full,.int .i64 f,.int .i64 L,.bool one] (.int .i64 (vA d f L one:Nat)):=by
 obtain⟨n,hn⟩:∃ n,d[f]?=some n:=⟨_,qp8 hf⟩;refine Pure.k qe Tryz.func293 rfl (by kernel_rfl) ?_;generalize hr:vA d f L one=r;unfold vA at hr;rw[hn]at hr;simp only at hr;by_cases hl:n.1=L
 . rw[if_pos hl]at hr;have hl':(n.1:Int)=L:=(by omega);cases one
   . simp at hr;subst hr;simp[-getElem?_pos,frzB,hn,hl']
   . simp at hr;subst hr;simp[-getElem?_pos,frzB,hn,hl']
 . rw[if_neg hl]at hr;subst hr;have hl':¬ (n.1:Int)=L:=(by omega);simp[-getElem?_pos,frzB,hn,hl']
def KpL (bs:List Nat)(H H':List Blk):Prop:=H.length<=H'.length/\∀ (k:Nat) (x:Blk),H[k]?=some x->k∉bs->H'[k]?=some x
theorem KpL.refl {bs:List Nat}{H:List Blk}:KpL bs H H:=⟨qqf _,fun _ _ h _=>h⟩
theorem KpL.trans {bs:List Nat}{H H' H'':List Blk}(h:KpL bs H H')(h':KpL bs H' H''):KpL bs H H'':=⟨qq9 h.1 h'.1,fun k x hk h1=>h'.2 k x (h.2 k x hk h1) h1⟩
theorem KpL.app {bs:List Nat}{H t:List Blk}:KpL bs H (H++t):=⟨by simp,fun k x hk _=>qa hk t⟩
theorem KpL.set {bs:List Nat}{H:List Blk}{b:Nat}{y:Blk}(hb:b∈bs):KpL bs H (H.set b y):=⟨by simp,fun k x hk hn=>by
 rw[qp7 (by rintro rfl;exact hn hb)];exact hk⟩
theorem KpL.sub {bs cs:List Nat}{H H':List Blk}(h:KpL bs H H')(hs:∀ b∈bs,b∈cs):KpL cs H H':=⟨h.1,fun k x hk hn=>h.2 k x hk fun hb=>hn (hs k hb)⟩
theorem KpL.setF {bs:List Nat}{H H':List Blk}{b:Nat}{y:Blk}(h:KpL bs H H')(hb:H.length<=b):KpL bs H (H'.set b y):=⟨by rw[qrC];exact h.1,fun k x hk hn=>by
 have:=(qp5.1 hk).1;rw[qp7 (by omega)];exact h.2 k x hk hn⟩
def atE (d:List Nd):List (Nd×AV×Nat):=d.zipIdx.map fun q=>(q.1,.int .i64 q.2,q.2)
structure BR (B M t:Nat)(d:List Nd)(full:Bool)(U:St):Prop where
 b:U.H[B]?=some (.cells [.sl 3 (d.map qH) (.chain t d.length),.map M,.bool full])
 m:U.H[M]?=some (.map ((atE d).map ndE) d.length)
 t:U.T[t]?=some (some d.length)
theorem BR.ne {B M t:Nat}{d:List Nd}{full:Bool}{U:St}(h:BR B M t d full U):B≠M:=by
 rintro rfl;have:=h.b;rw[h.m]at this;cases this
theorem qjz (d:List Nd):(atE d).map (·.1)=d:=by simp[atE,qrp,Function.comp_def]
theorem qeV (d:List Nd)(n:Nd):atE (d++[n])=atE d++[(n,.int .i64 d.length,d.length)]:=by
 simp[atE,qr7]
theorem qjy {d:List Nd}{n:Nd}(h:n∉d):∀ q∈atE d,q.1≠n:=fun q hq e=>h (by
 have:q.1∈(atE d).map (·.1):=qqx.2 ⟨q,hq,rfl⟩;rw[qjz]at this;exact e▸this)
theorem qpQ {d:List Nd}{n:Nd}{i:Nat}(h:d[i]?=some n):(n,AV.int .i64 i,i)∈atE d:=by
 refine qqx.2 ⟨(n,i),?_,rfl⟩;exact List.mem_zipIdx_iff_getElem?.2 h
theorem qkC:∀ (k:Nat) (e:Ex),(∀ x∈pre e,Fits x.args)->k<=100->Pure Tryz.prog GG 38 [.agg (qs e),.int .i64 k] (.bool (yd e k)):=by
 intro k
 induction k with
 | zero=>
  intro e hfa _;refine Pure.k qe Tryz.func38 rfl (by kernel_rfl) ?_;simp only[qd e];simp[-getElem?_pos,yd]
 | succ k ih=>
  intro e hpa hk;have hfa:Fits e.args:=hpa e (by rw[jc];simp);refine Pure.k qe Tryz.func38 rfl (by kernel_rfl) ?_;have hk0:¬ ((k+1:Nat):Int)=0:=by omega
  simp only[qd e];have hkw:IntKind.i64.wrap (((k+1:Nat):Int)-1)=k:=by rw[show ((k+1:Nat):Int)-1=k by omega];exact wr (by omega) (by omega)
  by_cases hl:e.args.length<=40
  . have hl':¬ (40:Int)<e.args.length:=(by omega);simp[-getElem?_pos,-Int.natCast_add,hk0,hl'];rw[<- qd e];obtain⟨r,hr⟩:∃ r,r=yd e (k+1):=⟨_,rfl⟩;rw[<- hr];refine qL.list e.args (fun d env U=>env 1=.int .i64 (k+1:Nat)/\env 2=.ptr 0 0/\env 5=.int .i64 d.length/\U=⟨[.cells (qs e)],[]⟩/\(d.all fun a=>yd a k)=true) ?_ ?_ ?_
    . simp
    . rintro d v s env U hd hv hlt ⟨h1,h2,h5,rfl,hall⟩;have hw:=wr (n:=(d.length:Int)+1) (by omega) (by omega);simp[-getElem?_pos,-Int.natCast_add,h1,h2,h5,qd e,hlt,hv,qd v,hkw];rw[<- qd v];have hm:=qp6 hv;refine qc.call (G:=jh GG) (ih v (fun x hx=>hpa x (by rw[jc];exact qrn _ (wR.2 ⟨v,hm,hx⟩))) (by omega)) (by simp) ?_;cases hs:yd v k
      . have:r=false:=by
         rw[hr,qrg];intro h;simp only[yd,qp9,qqi]at h;have:=h.2 v hm;rw[hs]at this;cases this
        simp[-getElem?_pos,-Int.natCast_add,h1,h2,h5,unA,this]
      . simp[-getElem?_pos,-Int.natCast_add,h1,h2,h5,unA,hw,hs];simpa using hall
    . rintro env U ⟨h1,h2,h5,rfl,hall⟩;have:r=true:=by rw[hr];simp only[yd,hall,qrP,decide_eq_true_eq];exact hl
      simp[-getElem?_pos,-Int.natCast_add,h1,h2,h5,qd e,this]
  . have hl':(40:Int)<e.args.length:=(by omega);simp[-getElem?_pos,-Int.natCast_add,hk0,hl',yd,hl]
def Qu (w:Int):List Int:=(List.range (2 ^ w.toNat)).map fun n:Nat=>(n:Int)
theorem Zk (w:Int):(Qu w).length=2 ^ w.toNat:=by simp[Qu]
theorem YU {w:Int}{d r:List Int}{v:Int}(h:Qu w=d++v::r):v=d.length:=by
 have h1:(Qu w)[d.length]?=some v:=by rw[h];simp
 unfold Qu at h1;rw[qqp]at h1;obtain⟨m,hm,e⟩:=qqc.1 h1;obtain⟨_,hm⟩:=qp5.1 hm;simp at hm;omega
theorem kg {w:Int}(h0:0<=w)(h1:w<=28):IntKind.i64.wrap (2 ^ (min w.toNat 64))=((2 ^ w.toNat:Nat):Int):=by
 have e:min w.toNat 64=w.toNat:=by omega
 have hp:(2:Nat) ^ w.toNat<=2 ^ 28:=qqu (by omega) (by omega);rw[e,show ((2:Int) ^ w.toNat)=((2 ^ w.toNat:Nat):Int) by simp];generalize 2 ^ w.toNat=N at hp;exact wr (by omega) (by omega)
theorem app37 (s:List Int)(n:Int)(hs:s.length<2 ^ 30):qB (Dof Tryz.prog) ⟨[],we [] s⟩ 44 (YR 1 qy 0 s) (.sl 1 [[.int .i64 n]] .tight)=some (YR 1 qy 0 (s++[n]),⟨[],we [] (s++[n])⟩) :=
 vd (D:=Dof Tryz.prog) (sz:=1) (T:=[]) (H:=[]) (m:=[n]) (en:=qy) D44 rfl D3 rfl (by decide) rfl (by decide) (by simp only[qqA];omega) 1 (.inl rfl)
theorem QT {α:Type}(p:α->Bool)(d:List α)(v:α):(d++[v]).filter p=if p v then d.filter p++[v] else d.filter p:=by
 rw[List.filter_append];cases h:p v<;>simp[h]
def wu (l:List Int)(n:Int):Bool:=!(l.any (n == ·))
def UnJ (N:Nat)(l d:List Int)(env:Env)(U:St):Prop :=
 env 1=.sl 1 (l.map qy) .none/\env 5=YR 1 qy 0 (d.filter (wu l))/\env 8=.int .i64 N/\env 9=.int .i64 d.length/\U=⟨[],we [] (d.filter (wu l))⟩
theorem qdy (w:Int)(h0:0<=w)(h1:w<=28)(l:List Int)(hl:Fits l):Pure Tryz.prog GG 33 [.int .i64 w,.sl 1 (l.map qy) .none] (.sl 1 ((yw w l).map qy) .none):=by
 refine Pure.k qe Tryz.func33 rfl (by kernel_rfl) ?_;have hp:(2:Nat) ^ w.toNat<=2 ^ 28:=qqu (by omega) (by omega);have hs:=kg h0 h1;have hw0:¬ w<0:=by omega
 have hlen:=Zk w;have hrest:yw w l=(Qu w).filter (wu l):=rfl;rw[hrest];have hget:∀ {d r:List Int} {v:Int},Qu w=d++v::r->v=d.length:=YU;generalize hN:2 ^ w.toNat=N at hp hs hlen;simp[-getElem?_pos,hw0,IntKind.bits,hs];generalize Qu w=nums at hlen hget;refine qL.list nums (UnJ N l) ?_ ?_ ?_
 . simp[UnJ]
 . rintro d v r env U hd hv hlt ⟨e1,e5,e8,e9,rfl⟩;have hvd:=hget hd;subst hvd;have hlt':d.length<N:=(by omega);have hw:=wr (n:=(d.length:Int)+1) (by omega) (by omega);simp[-getElem?_pos,e1,e5,e8,e9,hlt'];refine qc.call (G:=jh GG) (w8 GG l d.length hl) (by simp) ?_;have hfs:=QT (wu l) d (d.length:Int);have hfl:(d.filter (wu l)).length<2 ^ 30:=qr8 (qrT _ _) (by omega);cases hc:l.any fun x=>(d.length:Int)==x
   . have hni:wu l d.length=true:=(by unfold wu;rw[hc];rfl);rw[if_pos hni]at hfs;simp[-getElem?_pos,e1,e5,e8,e9,unA,hc,app37 _ _ hfl,hw];simp[UnJ,hfs,e1,e8]
   . have hni:wu l d.length=false:=(by unfold wu;rw[hc];rfl);rw[hni]at hfs;simp only[qqq,if_false]at hfs;simp[-getElem?_pos,e1,e5,e8,e9,unA,hc,hw];simp[UnJ,hfs,e1,e5,e8]
 . rintro env U ⟨e1,e5,e8,e9,rfl⟩;rw[hlen]at e9;simp[-getElem?_pos,-fin,-kv,-QS,e1,e5,e8,e9]
theorem shl_u {w:Int}(h0:0<=w)(h1:w<=28):IntKind.u64.wrap w=w:=by
 unfold IntKind.wrap;simp[IntKind.bits,IntKind.signed];omega
@[simp]def jZ (c:List (List Int)):List AV:=[.sl 1 (c.map zc) .none]
theorem Zj {w:Int}{l:List Int}:okL w l=true↔∀ k n,l[k]?=some n->okN w (l.take k) n=true:=by
 simp only[okL,qqi,qqT];constructor
 . intro h k n e;have hk:=(qp5.1 e).1;have:=h k hk
   rwa[qqh,e]at this
 . intro h k hk;have:=h k l[k] (qp8 hk)
   rwa[qqh,qp8 hk]
theorem wV {vs:List Var}{c:List (List Int)}(hl:c.length=vs.length):ya vs c=true↔∀ (k:Nat) (v:Var) (l:List Int),vs[k]?=some v->c[k]?=some l->okV v l=true:=by
 simp only[ya,hl,decide_true,qrm,qqi];constructor
 . intro h k v l h1 h2;exact h (v,l) (qp6 (i:=k) (by rw[qrc];exact⟨h1,h2⟩))
 . rintro h ⟨v,l⟩ hm;obtain⟨k,hk⟩:=qqJ hm;rw[qrc]at hk;exact h k v l hk.1 hk.2
def FitJ (p:Problem)(c:List (List Int))(n:Nat)(env:Env)(U:St):Prop :=
 env 2=.ptr 0 0/\env 3=.ptr 1 0/\env 18=.sl 1 (c.map zc) .none/\env 19=.int .i64 c.length/\env 20=.int .i64 n/\∃ H,U=⟨H,[]⟩/\H[0]?=some (.cells (qJ p))/\H[1]?=some (.cells (jZ c))
theorem qiN (p:Problem)(c:List (List Int))(hv:Fits p.vars)(hc:Fits c)(hcl:∀ l∈c,Fits l)(hw:∀ v∈p.vars,0<=v.width/\v.width<=28) :
 Pure Tryz.prog GG 28 [.agg (qJ p),.agg (jZ c)] (.bool (ya p.vars c)):=by
 refine Pure.k qe Tryz.func28 rfl (by kernel_rfl) ?_;by_cases hlen:c.length=p.vars.length
 case neg=>
  have h1:¬ (c.length:Int)=p.vars.length:=by omega
  have h2:ya p.vars c=false:=by simp[ya,hlen]
  simp[-getElem?_pos,h1,h2]
 have hlen':(c.length:Int)=p.vars.length:=by omega
 simp[-getElem?_pos,hlen'];rw[<- hlen'];obtain⟨r,hr⟩:∃ r,r=ya p.vars c:=⟨_,rfl⟩;rw[<- hr];refine qL.list c (fun d env U=>FitJ p c d.length env U/\∀ (k:Nat) (v:Var) (l:List Int),k<d.length->p.vars[k]?=some v->c[k]?=some l->okV v l=true) ?_ ?_ ?_
 . simp[FitJ]
 . rintro d l s env U hd hl hlt ⟨⟨e2,e3,e18,e19,e20,H,rfl,H0,H1⟩,hall⟩;have hlv:d.length<p.vars.length:=(by omega);obtain⟨v,hvv⟩:∃ v,p.vars[d.length]?=some v:=⟨_,qp8 hlv⟩;have hvm:=qp6 hvv;have hwv:=hw v hvm;have hlm:=qp6 hl;have hfl:=hcl l hlm;have hw1:=wr (n:=(d.length:Int)+1) (by omega) (by omega);have hbad:okV v l=false->r=false:=by
    intro h;rw[hr,qrg];intro h2;have:=(wV hlen).1 h2 _ v l hvv hl;rw[h]at this;cases this
   by_cases hm:v.mode=2\/l=[]
   case neg=>
    have hm1:¬ v.mode=2:=fun h=>hm (.inl h)
    have hl0:(0:Int)<l.length:=(by have:l≠[]:=fun h=>hm (.inr h);have:=qql.2 this;omega);have hb:r=false:=hbad (by simp only[okV,qtH,qs3];left;exact⟨by simpa using hm1,by simpa using fun h=>hm (.inr h)⟩);simp[-getElem?_pos,e2,e18,e19,e20,H0,hlt,hl,hvv,hm1,hb,show ¬ l=[] from fun h=>hm (.inr h)]
   have hnl:¬ v.mode=2->l=[]:=fun h=>hm.resolve_left h
   have hHl:1<H.length:=(qp5.1 H1).1;have hok:okL v.width l=true->okV v l=true:=by
    intro h;unfold okV;rcases hm with hm|hm<;>simp[hm,h]
    rw[hm]at h;exact h
   have hnext:okV v l=true->∀ (k:Nat) (v:Var) (l:List Int),k<d.length+1->p.vars[k]?=some v->c[k]?=some l->okV v l=true:=by
    intro h k v' l' hk h1 h2;by_cases hkd:k<d.length
    . exact hall k v' l' hkd h1 h2
    . obtain rfl:k=d.length:=by omega
      rw[hvv]at h1;rw[hl]at h2;cases h1;cases h2;exact h
   by_cases h2:v.mode=2
   . simp[-getElem?_pos,e2,e18,e19,e20,H0,hlt,hl,hvv,h2];have hs:=kg hwv.1 hwv.2;have hp:(2:Nat) ^ v.width.toNat<=2 ^ 28:=qqu (by omega) (by omega);have hw0:¬ v.width<0:=(by omega);refine qL.list l (fun e env τ=>FitJ p c d.length env τ/\env 6=.sl 1 (l.map qy) .none/\env 38=.sl 1 (l.map qy) .none/\env 39=.int .i64 l.length/\env 40=.int .i64 e.length/\(∃ b,env 7=.ptr b 0/\1<b/\τ.H[b]?=some (.cells (qo v)))/\∀ k n,k<e.length->l[k]?=some n->okN v.width (l.take k) n=true) ?_ ?_ ?_
     . refine⟨⟨by simpa using e2,by simpa using e3,by simpa using e18,by simpa using e19,by simpa using e20,_,rfl,?_,?_⟩,by simp,by simp,by simp,by simp,⟨H.length,by simp,by omega,?_⟩,by simp⟩
       . rw[qqe (by omega)];exact H0
       . rw[qqe (by omega)];exact H1
       . simp[h2]
     . rintro e n s' env τ he hn hle ⟨⟨f2,f3,f18,f19,f20,H',rfl,H0',H1'⟩,f6,f38,f39,f40,⟨b,f7,hb1,hb⟩,hk⟩;have hwe:=wr (n:=(e.length:Int)+1) (by omega) (by omega);simp only at hb;have hbadn:okN v.width (l.take e.length) n=false->r=false:=by
        intro h;refine hbad ?_;rw[qrg];intro h3;have h4:okL v.width l=true:=by
         simp only[okV,qp9]at h3;exact h3.2
        have:=Zj.1 h4 _ _ hn;rw[h]at this;cases this
       by_cases n0:n<0
       . have hr0:r=false:=hbadn (by simp[okN];omega);simp[-getElem?_pos,f38,f39,f40,hle,hn,n0,hr0]
       . by_cases n1:n<2 ^ v.width.toNat
         case neg=>
          have n1':((2 ^ v.width.toNat:Nat):Int)<=n:=(by simp only[Int.natCast_pow,Int.cast_ofNat_Int];omega);have hr0:r=false:=hbadn (by simp[okN,n1]);simp[-getElem?_pos,-Int.natCast_pow,f7,f38,f39,f40,hle,hn,hb,n0,hr0,hw0,IntKind.bits,hs,n1']
         have n1':¬ ((2 ^ v.width.toNat:Nat):Int)<=n:=(by simp only[Int.natCast_pow,Int.cast_ofNat_Int];omega);simp[-getElem?_pos,-Int.natCast_pow,f6,f7,f38,f39,f40,hle,hn,hb,n0,hw0,IntKind.bits,hs,n1',zw,zX,kf,z7,Int.le_of_lt (Int.ofNat_lt.2 hle)];rw[<- List.map_take];refine qc.call (G:=jh GG) (w8 GG (l.take e.length) n (qr8 (List.length_take_le' _ _) hfl)) (by simp[-List.map_take,qq,qC]) ?_;cases hany:(l.take e.length).any fun x=>n==x
         . have hgn:okN v.width (l.take e.length) n=true:=(by simp only[okN,hany,qtE,qrP,n1,decide_true];simpa using n0);simp[-getElem?_pos,-Int.natCast_pow,f6,f7,f38,f39,f40,hwe];refine⟨⟨by simpa using f2,by simpa using f3,by simpa using f18,by simpa using f19,by simpa using f20,H',rfl,H0',H1'⟩,⟨hb1,by simpa using hb⟩,fun k n' hk' hn'=>?_⟩;by_cases hke:k<e.length
           . exact hk k n' hke hn'
           . obtain rfl:k=e.length:=by omega
             rw[hn]at hn';cases hn';exact hgn
         . have hr0:r=false:=hbadn (by simp only[okN,hany,qtd,qsT]);simp[-getElem?_pos,-Int.natCast_pow,hr0]
     . rintro env τ ⟨⟨f2,f3,f18,f19,f20,H',rfl,H0',H1'⟩,f6,f38,f39,f40,⟨b,f7,hb1,hb⟩,hk⟩;have hgood:=hnext (hok (Zj.2 fun k n e=>hk k n (qp5.1 e).1 e));simp[-getElem?_pos,f20,f39,f40,hw1];exact⟨⟨by simpa using f2,by simpa using f3,by simpa using f18,by simpa using f19,by simp,H',rfl,H0',H1'⟩,hgood⟩
   . obtain rfl:=hnl h2;simp[-getElem?_pos,e2,e18,e19,e20,H0,hlt,hl,hvv,h2];refine qL.list ([]:List Int) (fun e env τ=>FitJ p c d.length env τ/\env 39=.int .i64 0/\env 40=.int .i64 0) ?_ ?_ ?_
     . refine⟨⟨by simpa using e2,by simpa using e3,by simpa using e18,by simpa using e19,by simpa using e20,_,rfl,?_,?_⟩,by simp,by simp⟩
       . rw[qqe (by omega)];exact H0
       . rw[qqe (by omega)];exact H1
     . rintro e n s' env τ he;simp at he
     . rintro env τ ⟨⟨f2,f3,f18,f19,f20,H',rfl,H0',H1'⟩,f39,f40⟩;have hgood:=hnext (hok (by simp[okL]));simp[-getElem?_pos,f20,f39,f40,hw1];exact⟨⟨by simpa using f2,by simpa using f3,by simpa using f18,by simpa using f19,by simp,H',rfl,H0',H1'⟩,hgood⟩
 . rintro env U ⟨⟨e2,e3,e18,e19,e20,H,rfl,H0,H1⟩,hall⟩;have:r=true:=by
    rw[hr];exact (wV hlen).2 fun k v l h1 h2=>hall k v l (qp5.1 h2).1 h1 h2
   simp[-getElem?_pos,e19,e20,this]
@[simp]def ql6 (c:List (List Int)):List AV:=[.sl 1 (c.map zc) .none]
theorem WT (v:AV):∀ (n:Nat),kF 1 n (List.replicate n v)=List.replicate n [v]
 | 0=>rfl
 | n+1=>by
  simp only[qrr,kF];rw[show (v::List.replicate n v).drop 1=List.replicate n v from rfl,WT v n];rfl
theorem qlR (H:List Blk)(k n b:Nat)(hb:H[b]?=some (.cells (List.replicate n (.sl 0 [] .nil)))):frz H (k+2) (.agg [.ms b 0 n 1])=.agg [.sl 1 (List.replicate n [.sl 0 [] .nil]) .none]:=by
 rw[frz];simp only[qC,qq,qsl,qqq,if_false,qqk,qqF];rw[frz];simp only[qC,qqq,if_false,hb,qrB,WT];have e:(List.replicate n [AV.sl 0 [] .nil]).map (·.map (frz H k))=List.replicate n [.sl 0 [] .nil]:=by
  rw[qsQ];congr 1;simp only[qqk,qqF];rw[qt (by simp[qC,qQ])]
 rw[e];simp
theorem qfu (p:Problem)(hl:p.vars.length<=1000)(hv:¬ p.vars=[]):Leq (.agg [.sl 1 (List.replicate p.vars.length [.sl 0 [] .nil]) .none]) (.agg (ql6 (List.replicate p.vars.length []))):=by
 simp only[Leq,zm,ql6,zc,qsQ,qqF,and_true];refine .inr ⟨trivial,?_,.inl trivial⟩;have:∀ n:Nat,j6 (List.replicate n [AV.sl 0 [] .nil]) (List.replicate n [AV.sl 1 [] .none]):=by
  intro n
  induction n with
  | zero=>simp[j6]
  | succ n ih=>
   simp only[qrr,j6];refine⟨.inr ⟨?_,by simp[AV.atom]⟩,ih⟩;simp only[zm,and_true];simp[Leq]
 exact this _
theorem qhk (p:Problem)(hl:p.vars.length<=1000):Pure Tryz.prog GG 10 [.agg (qJ p)] (.agg (ql6 (List.replicate p.vars.length []))):=by
 refine Pure.kO o0 true qe Tryz.func10 rfl (by kernel_rfl) ?_;have hl2:(p.vars.length:Int)<=549755813888:=by omega
 by_cases hv:p.vars=[]
 . simp[-getElem?_pos,qw,qV,zu,qv,hv];simp[frz,qC,qq,qQ,Leq,zm]
 . simp[-getElem?_pos,qw,qV,zu,qv,hl2,hv];rw[qlR _ 6 p.vars.length 2 rfl];refine⟨?_,by simpa using qfu p hl hv⟩;have:∀ n:Nat,qQ (List.replicate n [AV.sl 0 [] .nil])=true:=by
    intro n
    induction n with
    | zero=>rfl
    | succ n ih=>simp[qrr,qQ,qq,qC,ih]
   simp[qC,qq,this]
structure NodeR (B M t:Nat)(d:List Nd)(full:Bool)(U:St)(d':List Nd)(full':Bool)(i:Nat)(U':St):Prop where
 br:BR B M t d' full' U'
 kp:KpL [B,M] U.H U'.H
 gr:q9 d d'
 ok:DagOk d'
 lt:i<d'.length
 mono:full=true->full'=true
 fl:full'=true->8192<=d'.length
def NodeQ (B M t:Nat)(d:List Nd)(full:Bool)(U:St)(lv lo hi:Nat)(r:AV)(U':St):Prop :=
 ∃ d' full' i,r=.int .i64 (i:Nat)/\NodeR B M t d full U d' full' i U'/\(full'=false->lv<=lvD d' i/\∀ b,evD d' b i=evD d' b (if b lv then hi else lo))
theorem qhY {B M t:Nat}{d:List Nd}{full:Bool}{U:St}(h:BR B M t d full U)(hd:DagOk d){lv lo hi:Nat}(hlv:lv<20)(hlo:lo<d.length)(hhi:hi<d.length)(hfl:full=true->8192<=d.length)(h1:full=false->lv<lvD d lo)(h2:full=false->lv<lvD d hi) :
 qg Tryz.prog GG 294 [.ptr B 0,.int .i64 lv,.int .i64 lo,.int .i64 hi] U (NodeQ B M t d full U lv lo hi):=by
 refine qg.k qe Tryz.func294 rfl (by kernel_rfl) ?_;obtain⟨H,T⟩:=U;have hB:=h.b;have hM:=h.m;have hT:=h.t;have hne:=h.ne;simp only at hB hM hT;change H[M]?=some (.map ((atE d).map ndE) d.length) at hM;by_cases hlh:lo=hi
 . subst hlh;simp[-getElem?_pos];exact⟨d,full,lo,rfl,⟨h,KpL.refl,q9.refl d,hd,hlo,id,hfl⟩,fun hf=>⟨by have:=h1 hf;omega,by simp⟩⟩
 . have hlh':¬ (lo:Int)=hi:=(by omega);have hfit:=qiO (lv,lo,hi);have hBl:=(qp5.1 hB).1;have hMl:=(qp5.1 hM).1;by_cases hin:(lv,lo,hi)∈d
   . obtain⟨i,hi1⟩:=qqJ hin;obtain⟨j,hf1,hf2⟩:=Vx (n:=(lv,lo,hi)) (atE d) 0 (by rw[qjz];exact hd.nodup) _ (qpQ hi1) rfl;have hlk:∀ (u:List Blk) (T:List (Option Nat)),zx (Dof Tryz.prog) ⟨H++u,T⟩ 298 (.map M) (.agg (qH (lv,lo,hi))) true=some (.tup [.int .i64 i,.bool true]):=by
      intro u T;simp only[zx,D298,hfit,if_true];simp[-qH,qa hM,hf1]
     simp only[qH]at hlk;simp[-getElem?_pos,hlh',qa hB,hlk];refine⟨d,full,i,rfl,⟨⟨qa hB _,qa hM _,hT⟩,KpL.app,q9.refl d,hd,(qp5.1 hi1).1,id,hfl⟩,fun _=>⟨by rw[jG hi1];exact qqf _,fun b=>?_⟩⟩;refine J4 hd b (n:=(lv,lo,hi)) ?_ hi1;apply Classical.byContradiction;intro hc;have:i=0\/i=1:=by omega
     rcases this with rfl|rfl
     . have e:=hd.n0;rw[hi1]at e;simp at e;omega
     . have e:=hd.n1;rw[hi1]at e;simp at e;omega
   . have hfind:=ZR (n:=(lv,lo,hi)) (atE d) 0 (qjy hin);have hlk:∀ (u:List Blk) (T:List (Option Nat)),zx (Dof Tryz.prog) ⟨H++u,T⟩ 298 (.map M) (.agg (qH (lv,lo,hi))) true=some (.tup [.int .i64 0,.bool false]):=by
      intro u T;simp only[zx,D298,hfit,if_true];simp[-qH,qa hM,hfind,WW]
     simp only[qH]at hlk;by_cases hm:8192<=d.length
     . have hm':(8192:Int)<=d.length:=(by omega);simp[-getElem?_pos,hlh',qa hB,hlk,hm',yO hB];refine⟨d,true,0,rfl,⟨⟨?_,?_,hT⟩,?_,q9.refl d,hd,by have:=hd.two;omega,fun _=>rfl,fun _=>hm⟩,fun e=>by cases e⟩
       . exact qa (by rw[qqa hBl]) _
       . exact qa (by rw[qp7 hne];exact hM) _
       . exact (KpL.set (by simp)).trans KpL.app
     . have hm':¬ (8192:Int)<=d.length:=(by omega);have hup:∀ (u:List Blk) (T:List (Option Nat)),za (Dof Tryz.prog) ⟨H++u,T⟩ 298 (.map M) (.agg (qH (lv,lo,hi))) (.int .i64 d.length)=some ⟨H.set M (.map ((atE (d++[(lv,lo,hi)])).map ndE) (d++[(lv,lo,hi)]).length)++u,T⟩:=by
        intro u T;simp only[za,D298,hfit,if_true];simp[-qH,qa hM,hfind,yO hM,qeV,ndE]
       have happ:∀ (H':List Blk),qB (Dof Tryz.prog) ⟨H',T⟩ 133 (.sl 3 (d.map qH) (.chain t d.length)) (.sl 3 [qH (lv,lo,hi)] .tight)=some (.sl 3 ((d++[(lv,lo,hi)]).map qH) (.chain t (d++[(lv,lo,hi)]).length),⟨H',T.set t (some (d++[(lv,lo,hi)]).length)⟩):=by
        intro H';have:d.length+1<=549755813888:=by omega
        simp[-qH,qB,zp,hT,this]
       simp only[qH]at hup happ;have hB2:∀ y:Blk,(H.set M y)[B]?=some (.cells [.sl 3 (d.map qH) (.chain t d.length),.map M,.bool full]):=fun y=>by
        rw[qp7 (Ne.symm hne)];exact hB
       have hdl:(d++[(lv,lo,hi)]).length=d.length+1:=(by simp);have hg:q9 d (d++[(lv,lo,hi)]):=⟨_,rfl⟩;have hff:full=false:=(by cases full with | true=>exact absurd (hfl rfl) hm | false=>rfl);have hnew:=qme hd (n:=(lv,lo,hi)) (by omega) hlv hlo hhi hlh (h1 hff) (h2 hff) hin;have hT2:(T.set t (some (d++[(lv,lo,hi)]).length))[t]?=some (some (d++[(lv,lo,hi)]).length):=qqa (qp5.1 hT).1;have hlast:(d++[(lv,lo,hi)])[d.length]?=some (lv,lo,hi):=(by simp);generalize hD:d++[(lv,lo,hi)]=D at *;generalize hY:Blk.map ((atE D).map ndE) D.length=Y at *;have hl2:=fun u=>qa (hB2 Y) u
       have hs2:=fun u z=>yO (hB2 Y) u z
       have hl3:∀ (z:Blk) (u:List Blk),((H.set M Y).set B z++u)[B]?=some z:=fun z u=>qa (by rw[qqa (by rw[qrC];exact hBl)]) u
       have hl4:∀ (x:Blk),(H.set M Y++[x])[H.length]?=some x:=fun x=>by rw[qqd (by simp)];simp
       have hwr:IntKind.i64.wrap ((D.length:Int)-1)=(d.length:Nat):=(by rw[wr (by omega) (by omega)];omega);simp[-getElem?_pos,hlh',qa hB,hlk,hm',hup,hl2,hs2,happ,hl3,hl4,hwr];refine⟨D,full,d.length,rfl,⟨⟨hl3 _ _,?_,hT2⟩,?_,hg,hnew,by omega,id,fun e=>by rw[hff]at e;cases e⟩,fun _=>⟨by rw[jG hlast];exact qqf _,fun b=>J4 hnew b (n:=(lv,lo,hi)) hd.two hlast⟩⟩
       . rw[hY.symm];refine qa ?_ _;rw[qp7 hne,qqa hMl]
       . exact ((KpL.set (by simp)).trans (KpL.set (by simp))).trans KpL.app
def CloneQ (d:List Nd)(H:List Blk)(T:List (Option Nat))(r:AV)(U':St):Prop:=r=.sl 3 (d.map qH) (.chain T.length d.length)/\U'=⟨H,T++[some d.length]⟩
theorem qml (d:List Nd)(h0:d≠[])(hl:d.length<=100000)(H:List Blk)(T:List (Option Nat)):qg Tryz.prog GG 292 [.sl 3 (d.map qH) .none] ⟨H,T⟩ (CloneQ d H T):=by
 obtain⟨x,r,rfl⟩:=qsh h0;refine qg.k qe Tryz.func292 rfl (by kernel_rfl) ?_;have h1:r.length+1<=549755813888:=by simp at hl;omega
 simp[-qH,qB,zp,qk,qA,h1];exact⟨by simp,by simp⟩
def BeginQ (d:List Nd)(H:List Blk)(r:AV)(U':St):Prop:=∃ B M t,r=.ptr B 0/\BR B M t d false U'/\KpL [] H U'.H/\H.length<=B/\H.length<=M
theorem qeT (d:List Nd)(h:DagOk d)(H:List Blk)(T:List (Option Nat)):qg Tryz.prog GG 243 [.agg (zT d)] ⟨H,T⟩ (BeginQ d H):=by
 refine qg.k qe Tryz.func243 rfl (by kernel_rfl) ?_;have h2:=h.two;have hmost:=h.most;have h0:d≠[]:=fun e=>by rw[e]at h2;simp at h2
 simp[-getElem?_pos];refine qc.acall (qml d h0 (by omega) _ _) ?_;rintro v U' ⟨rfl,rfl⟩;simp[-getElem?_pos,qV,zu,qv];have hnn:d.length<=8192:=hmost;refine qL.listR d (fun s ev U=>ev 1=.ptr H.length 0/\ev 3=.ptr (H.length+1+1) 0/\ev 13=.sl 3 (d.map qH) .none/\ev 14=.int .i64 d.length/\ev 15=.int .i64 s.length /\
  ∃ t,U=⟨H++(.cells (zT d)::.map ((atE s).map ndE) s.length::.cells [.sl 3 (d.map qH) (.chain T.length d.length),.map (H.length+1),.bool false]::t),T++[some d.length]⟩) ?_ ?_ ?_
 . exact⟨by simp,by simp,by simp,by simp,by simp,[],by simp[atE]⟩
 . rintro s n rest ev U R hR hd hx hlt ⟨e1,e3,e13,e14,e15,t,rfl⟩;have hdw:IntKind.i64.wrap ((s.length:Int)+1)=(s.length+1:Nat):=(by rw[wr (by omega) (by omega)];omega);have hns:n∉s:=by
    have:=h.nodup;rw[hd]at this;intro hm;exact (qqZ.1 this).2.2 n hm n (by simp) rfl
   have hfind:=ZR (n:=n) (atE s) 0 (qjy hns);have hfit:=qiO n;generalize hCB:Blk.cells [.sl 3 (d.map qH) (.chain T.length d.length),.map (H.length+1),.bool false]=CB at *;generalize hCD:Blk.cells (zT d)=CD at *;have hgo:∀ (ev':Env) (u:List Blk),ev' 1=.ptr H.length 0->ev' 3=.ptr (H.length+1+1) 0->ev' 13=.sl 3 (d.map qH) .none->ev' 14=.int .i64 d.length->ev' 15=.int .i64 (s.length+1:Nat)->R ev' ⟨H++(CD::.map ((atE (s++[n])).map ndE) (s++[n]).length::CB::t)++u,T++[some d.length]⟩ :=
    fun ev' u a1 a2 a3 a4 a5=>hR _ _ ⟨a1,a2,a3,a4,by simpa using a5,t++u,by simp⟩
   obtain⟨W,hW⟩:∃ W,H++(CD::Blk.map ((atE s).map ndE) s.length::CB::t)=W:=⟨_,rfl⟩;obtain⟨W',hW'⟩:∃ W,H++(CD::Blk.map ((atE (s++[n])).map ndE) (s++[n]).length::CB::t)=W:=⟨_,rfl⟩;have hlb:W[H.length+1+1]?=some CB:=by
    rw[<- hW,qqd (by omega)];simp[show H.length+1+1-H.length=2 by omega]
   have hlm:W[H.length+1]?=some (.map ((atE s).map ndE) s.length):=by
    rw[<- hW,qqd (by omega)];simp
   have hset:W.set (H.length+1) (Blk.map ((atE (s++[n])).map ndE) (s++[n]).length)=W':=by
    rw[<- hW,<- hW',qrb _ _ (by omega)];simp
   have hup:∀ (u:List Blk) (T:List (Option Nat)),za (Dof Tryz.prog) ⟨W++u,T⟩ 298 (.map (H.length+1)) (.agg (qH n)) (.int .i64 s.length)=some ⟨W'++u,T⟩:=by
    intro u T;simp only[za,D298,hfit,if_true];simp only[qa hlm,hfind,yO hlm,<- hset];simp[-qH,qeV,ndE]
   simp only[qH]at hup;rw[hW']at hgo;rw[hW];subst hCB;simp[-getElem?_pos,e1,e3,e13,e14,e15,hlt,hx,qa hlb,hup,hdw];exact hgo _ _ (by simp[e1]) (by simp[e3]) (by simp[e13]) (by simp[e14]) (by simp)
 . rintro ev U ⟨e1,e3,e13,e14,e15,t,rfl⟩;simp[-getElem?_pos,e3,e14,e15];refine⟨H.length+1+1,H.length+1,T.length,rfl,⟨?_,?_,?_⟩,KpL.app,by omega,by omega⟩
   . show (H++_)[_]?=_;rw[qqd (by omega)];simp[show H.length+1+1-H.length=2 by omega]
   . show (H++_)[_]?=_;rw[qqd (by omega)];simp
   . simp
def DoneQ (t:Nat)(d:List Nd)(full:Bool)(f:Nat)(U:St)(r:AV)(U':St):Prop :=
 (r=if full=true then .tup [.agg [.sl 0 [] .nil],.int .i64 0,.int .i64 2] else .tup [.agg [.sl 3 (d.map qH) (.chain t d.length)],.int .i64 f,.int .i64 0])/\KpL [] U.H U'.H/\U'.T=U.T
theorem qi4 {B M t:Nat}{d:List Nd}{full:Bool}{U:St}(h:BR B M t d full U)(f:Nat):qg Tryz.prog GG 244 [.ptr B 0,.int .i64 f] U (DoneQ t d full f U):=by
 refine qg.k qe Tryz.func244 rfl (by kernel_rfl) ?_;obtain⟨H,T⟩:=U;have hB:=h.b;simp only at hB;cases full
 . simp[-getElem?_pos,qa hB,qV,zu,qv];exact⟨rfl,KpL.app,rfl⟩
 . simp[-getElem?_pos,qa hB,qV,zu,qv];exact⟨rfl,KpL.app,rfl⟩
theorem and289 (p q r:Bool):Pure Tryz.prog GG 180 [.bool p,.bool q,.bool r] (.bool (p&&q)):=by
 refine Pure.k qe Tryz.func180 rfl (by kernel_rfl) ?_;cases p<;>cases q<;>simp
theorem or454 (p q r:Bool):Pure Tryz.prog GG 313 [.bool p,.bool q,.bool r] (.bool (p||q)):=by
 refine Pure.k qe Tryz.func313 rfl (by kernel_rfl) ?_;cases p<;>cases q<;>simp
theorem not456 (p q r:Bool):Pure Tryz.prog GG 315 [.bool p,.bool q,.bool r] (.bool (!p)):=by
 refine Pure.k qe Tryz.func315 rfl (by kernel_rfl) ?_;cases p<;>simp[unA]
theorem xor468 (p q r:Bool):Pure Tryz.prog GG 329 [.bool p,.bool q,.bool r] (.bool (p ^^ q)):=by
 refine Pure.k qe Tryz.func329 rfl (by kernel_rfl) ?_;cases p<;>cases q<;>simp[qS]
theorem qjk (p q r:Bool):Pure Tryz.prog GG 316 [.bool p,.bool q,.bool r] (.bool (p&&q||!p&&r)):=by
 refine Pure.k qe Tryz.func316 rfl (by kernel_rfl) ?_;cases p<;>cases q<;>cases r<;>simp[unA]
end Go.Proofs.YtoibbcnfhhggnaaGreatDoor
end
