/- A part of the proof. -/
import Derived.Test.YtpgcmnabljandaaGreatDoorPa20
import Derived.Test.YtpgcmnabljandaaGreatDoorPa11
set_option linter.unusedVariables false
set_option linter.unusedSimpArgs false
set_option linter.defProp false
attribute [local simp] Go.Abs.acells Go.Abs.fin Go.Abs.zh Go.Abs.ze Go.Abs.pl1 Go.Abs.plain Go.Abs.pl2 Go.Abs.AV.atom
section
namespace Go.Abs
open Go Go.RowKit
section
inductive Fr where
 | seq (y:Code)
 | block (id:Nat)
 | loop (n:Env->St->Prop)
inductive Ct where
 | run (d lw:Bool) (rest:List Oper)
 | plan (ac:List Nat) (s:Sch)
section
variable (P:Program)(G:Nat->AV)(o:Opts)
def itp:List Fr->(Exit->Env->St->Prop)->Exit->Env->St->Prop
 | [],Q=>Q
 | .seq y::ks,Q=>vW (fun env O=>vcC P G o y env O (itp ks Q)) (itp ks Q)
 | .block id::ks,Q=>vX id (itp ks Q)
 | .loop n::ks,Q=>vW n (itp ks Q)
def kC (c:Code)(env:Env)(O:St)(ks:List Fr)(Q:Exit->Env->St->Prop):Prop:=vcC P G o c env O (itp P G o ks Q)
def kX (e:Exit)(env:Env)(O:St)(ks:List Fr)(Q:Exit->Env->St->Prop):Prop:=itp P G o ks Q e env O
def kT (ops:Array Oper)(ct:Ct)(env:Env)(O:St)(ks:List Fr)(Q:Exit->Env->St->Prop):Prop:=match ct with
 | .run d lw rest=>vcR P G o.mu ops d lw rest env O (fun env O=>itp P G o ks Q .normal env O)
 | .plan ac s=>vcS P G o.mu ac ops s env O (fun env O=>itp P G o ks Q .normal env O)
def kO (ops:Array Oper)(d:Bool)(op:Op)(dst:Option Nat)(ct:Ct)(env:Env)(O:St)(ks:List Fr)(Q:Exit->Env->St->Prop):Prop :=
 jY P G o.mu d op env O (fun v O'=>kT P G o ops ct (upd env dst v) O' ks Q)
def kS (ops:Array Oper)(x:Option (AV×St))(dst:Option Nat)(ct:Ct)(env:Env)(ks:List Fr)(Q:Exit->Env->St->Prop):Prop :=
 jZ x (fun v O'=>kT P G o ops ct (upd env dst v) O' ks Q)
def kY (ops:Array Oper)(l:Option (List (AV×St)))(x:Option (AV×St))(dst:Option Nat)(ct:Ct)(env:Env)(ks:List Fr)(Q:Exit->Env->St->Prop):Prop :=
 vcX l x (fun v O'=>kT P G o ops ct (upd env dst v) O' ks Q)
def kFn (ops:Array Oper)(d:Bool)(f:AV)(args:List AV)(O:St)(dst:Option Nat)(ct:Ct)(env:Env)(ks:List Fr)(Q:Exit->Env->St->Prop):Prop :=
 vcFn P G d f args O (fun v O'=>kT P G o ops ct (upd env dst v) O' ks Q)
def qd (ops:Array Oper)(d:Bool)(g:FuncId)(args:List AV)(O:St)(dst:Option Nat)(ct:Ct)(env:Env)(ks:List Fr)(Q:Exit->Env->St->Prop):Prop :=
 qe P G d g args O (fun v O'=>kT P G o ops ct (upd env dst v) O' ks Q)
def kCd (v:AV)(x y:Code)(env:Env)(O:St)(ks:List Fr)(Q:Exit->Env->St->Prop):Prop:=match v with
 | .bool b=>(b=true->kC P G o x env O ks Q)/\(b=false->kC P G o y env O ks Q)
 | _=>False
def kGv (ops:Array Oper)(d:Bool)(t:Nat)(v:AV)(b:Bool)(op:Op)(dst:Option Nat)(ct:Ct)(env:Env)(O:St)(ks:List Fr)(Q:Exit->Env->St->Prop):Prop:=match v with
 | .bool c=>((c==b)=true->kO P G o ops d op dst ct (upd env (some t) (.bool b)) O ks Q)/\((c==b)=false->kT P G o ops ct (upd (upd env (some t) (.bool (!b))) dst (.tup [])) O ks Q)
 | .tup []=>kT P G o ops ct (upd env dst (.tup [])) O ks Q
 | _=>False
def kG (ops:Array Oper)(d:Bool)(x:Option Nat)(b:Bool)(op:Op)(dst:Option Nat)(ct:Ct)(env:Env)(O:St)(ks:List Fr)(Q:Exit->Env->St->Prop):Prop:=match x with
 | some t=>kGv P G o ops d t (env t) b op dst ct env O ks Q
 | none=>kT P G o ops ct (upd env dst (.tup [])) O ks Q
def qv (c:Code)(env:Env)(O:St)(ks:List Fr)(Q:Exit->Env->St->Prop):Prop:=qC P G o c env O (itp P G o ks Q)
def kP (ops:Array Oper)(x:Option Oper)(d:Bool)(ct:Ct)(env:Env)(O:St)(ks:List Fr)(Q:Exit->Env->St->Prop):Prop:=match x with
 | some u=>vcG P G o.mu d ops u env O (fun env v O'=>kT P G o ops ct (upd env u.dst v) O' ks Q)
 | none=>False
end
section
variable {P:Program}{G:Nat->AV}{o:Opts}{env:Env}{O:St}{ks:List Fr}{Q:Exit->Env->St->Prop}
@[simp ↓]theorem kC_skip:kC P G o .skip env O ks Q=kX P G o .normal env O ks Q:=by simp only[kC,kX,vcC]
@[simp ↓]theorem kC_ret:kC P G o .ret env O ks Q=kX P G o .ret env O ks Q:=by simp only[kC,kX,vcC]
@[simp ↓]theorem kC_exit {id:Nat}:kC P G o (.exit id) env O ks Q=kX P G o (.exit id) env O ks Q:=by simp only[kC,kX,vcC]
@[simp ↓]theorem kC_seq {x y:Code}:kC P G o (.seq x y) env O ks Q=kC P G o x env O (.seq y::ks) Q:=by simp only[kC,vcC,itp]
@[simp ↓]theorem kC_block {id:Nat}{x:Code}:kC P G o (.block id x) env O ks Q=kC P G o x env O (.block id::ks) Q:=by simp only[kC,vcC,itp]
@[simp ↓]theorem kC_cond {c:Operand}{x y:Code}:kC P G o (.cond c x y) env O ks Q=kCd P G o (ev G env c) x y env O ks Q:=by
 simp only[kC,vcC,kCd,qhj];split<;>simp_all[]
@[simp ↓]theorem kC_loop {x:Code}:kC P G o (.loop x) env O ks Q=qv P G o x env O ks Q:=by simp only[kC,qv,vcC]<;>rfl
@[simp ↓ high]theorem kC_region0 {id:Nat}{l:List Oper}:kC P G o0 (.region id l.toArray false) env O ks Q=kT P G o0 l.toArray (.run false false l) env O ks Q:=by simp only[kC,kT,vcC];rfl
@[simp ↓ high]theorem kC_regionL {m:Bool}{x:List (Nat×Sch×List Nat)}{y:List (Nat×Nat)}{id:Nat}{l:List Oper}:kC P G ⟨m,x,[],y⟩ (.region id l.toArray false) env O ks Q=kT P G ⟨m,x,[],y⟩ l.toArray (.run false false l) env O ks Q:=by simp only[kC,kT,vcC];rfl
@[simp ↓ high]theorem kC_drawL {m:Bool}{y:List (Nat×Nat)}{id:Nat}{l:List Oper}:kC P G ⟨m,[],[],y⟩ (.region id l.toArray true) env O ks Q=kT P G ⟨m,[],[],y⟩ l.toArray (.run true false l) env O ks Q:=by simp[kC,kT,vcC]
@[simp ↓]theorem kC_draw0 {id:Nat}{l:List Oper}:kC P G o0 (.region id l.toArray true) env O ks Q=kT P G o0 l.toArray (.run true false l) env O ks Q:=by simp[kC,kT,vcC,o0]
theorem qeX {id:Nat}{l:List Oper}(h:o.fk.lookup id=none):kC P G o (.region id l.toArray true) env O ks Q=kT P G o l.toArray (.run true (o.lw.contains id) l) env O ks Q:=by simp only[kC,kT,vcC,h]
theorem zJ {id:Nat}{l:List Oper}{s:Sch}{ac:List Nat}(h:o.fk.lookup id=some (s,ac)):kC P G o (.region id l.toArray true) env O ks Q=kT P G o l.toArray (.plan ac s) env O ks Q:=by simp only[kC,kT,vcC,h]
@[simp]theorem kCd_true {x y:Code}:kCd P G o (.bool true) x y env O ks Q=kC P G o x env O ks Q:=by simp[kCd]
@[simp]theorem kCd_false {x y:Code}:kCd P G o (.bool false) x y env O ks Q=kC P G o y env O ks Q:=by simp[kCd]
@[simp low]theorem Y6 {b:Bool}{x y:Code}:kCd P G o (.bool b) x y env O ks Q=((b=true->kC P G o x env O ks Q)/\(b=false->kC P G o y env O ks Q)):=z7 rfl
@[simp ↓]theorem kX_nil {e:Exit}:kX P G o e env O [] Q=Q e env O:=z7 rfl
@[simp ↓]theorem kX_seq {y:Code}:kX P G o .normal env O (.seq y::ks) Q=kC P G o y env O ks Q:=z7 rfl
@[simp ↓]theorem kX_seq_ret {y:Code}:kX P G o .ret env O (.seq y::ks) Q=kX P G o .ret env O ks Q:=z7 rfl
@[simp ↓]theorem qqb {y:Code}{i:Nat}:kX P G o (.exit i) env O (.seq y::ks) Q=kX P G o (.exit i) env O ks Q:=z7 rfl
@[simp ↓]theorem kX_block {id:Nat}:kX P G o .normal env O (.block id::ks) Q=kX P G o .normal env O ks Q:=z7 rfl
@[simp ↓]theorem qor {id:Nat}:kX P G o .ret env O (.block id::ks) Q=kX P G o .ret env O ks Q:=z7 rfl
@[simp ↓]theorem qne {id i:Nat}:kX P G o (.exit i) env O (.block id::ks) Q=if i=id then kX P G o .normal env O ks Q else kX P G o (.exit i) env O ks Q:=by
 simp only[kX,itp,vX]
@[simp ↓]theorem kX_loop {n:Env->St->Prop}:kX P G o .normal env O (.loop n::ks) Q=n env O:=z7 rfl
@[simp ↓]theorem qqc {n:Env->St->Prop}:kX P G o .ret env O (.loop n::ks) Q=kX P G o .ret env O ks Q:=z7 rfl
@[simp ↓]theorem qoq {n:Env->St->Prop}{i:Nat}:kX P G o (.exit i) env O (.loop n::ks) Q=kX P G o (.exit i) env O ks Q:=z7 rfl
end
section
variable {P:Program}{G:Nat->AV}{o:Opts}{ops:Array Oper}{d lw:Bool}{env:Env}{O:St}{ks:List Fr}{Q:Exit->Env->St->Prop}{dst:Option Nat}{op:Op}{ct:Ct}
@[simp ↓]theorem kT_nil:kT P G o ops (.run d lw []) env O ks Q=kX P G o .normal env O ks Q:=z7 rfl
@[simp ↓]theorem kT_run {type:TypeId}{pos:String}{after:Array Edge}{rest:List Oper} :
 kT P G o ops (.run d false ({ dst:=dst,op:=op,type:=type,pos:=pos,after:=after,guard:=none }::rest)) env O ks Q=kO P G o ops d op dst (.run d false rest) env O ks Q:=by
 simp only[kT,kO];rw[qpb]
@[simp ↓]theorem qnf {type:TypeId}{pos:String}{after:Array Edge}{rest:List Oper}{j:Nat}{b:Bool} :
 kT P G o ops (.run d false ({ dst:=dst,op:=op,type:=type,pos:=pos,after:=after,guard:=some (j,b) }::rest)) env O ks Q=kG P G o ops d ((ops[j]?).bind (·.dst)) b op dst (.run d false rest) env O ks Q:=by
 simp only[kT];rw[qiV];unfold Qy kG;generalize (ops[j]?).bind (·.dst)=x
 cases x with
 | none=>rfl
 | some t=>
  simp only[kGv];generalize env t=v
  cases v with
  | tup vs=>cases vs<;>rfl
  | _=>rfl
@[simp ↓]theorem kT_done {ac:List Nat}:kT P G o ops (.plan ac .done) env O ks Q=kX P G o .normal env O ks Q:=by simp only[kT,vcS,kX]
@[simp ↓]theorem kT_step {ac dp:List Nat}{k:Nat}{s:Sch}:kT P G o ops (.plan ac (.step k dp s)) env O ks Q=kP P G o ops (ops[k]?) (match ops[k]? with | some u=>zR o.mu ac k u.op != 9 | none=>false) (.plan ac s) env O ks Q:=by
 simp only[kT,vcS,kP];split<;>rename_i h<;>simp[h]
@[simp]theorem kP_run {type:TypeId}{pos:String}{after:Array Edge}:kP P G o ops (some { dst:=dst,op:=op,type:=type,pos:=pos,after:=after,guard:=none }) d ct env O ks Q=kO P G o ops d op dst ct env O ks Q:=by
 simp only[kP,vcG,kO]
@[simp]theorem kG_some {t:Nat}{b:Bool}:kG P G o ops d (some t) b op dst ct env O ks Q=kGv P G o ops d t (env t) b op dst ct env O ks Q:=z7 rfl
@[simp]theorem kGv_off {t:Nat}{b:Bool}:kGv P G o ops d t (.tup []) b op dst ct env O ks Q=kT P G o ops ct (upd env dst (.tup [])) O ks Q:=z7 rfl
@[simp]theorem kGv_tt {t:Nat}:kGv P G o ops d t (.bool true) true op dst ct env O ks Q=kO P G o ops d op dst ct (upd env (some t) (.bool true)) O ks Q:=by simp[kGv]
@[simp]theorem kGv_ff {t:Nat}:kGv P G o ops d t (.bool false) false op dst ct env O ks Q=kO P G o ops d op dst ct (upd env (some t) (.bool false)) O ks Q:=by simp[kGv]
@[simp]theorem kGv_tf {t:Nat}:kGv P G o ops d t (.bool true) false op dst ct env O ks Q=kT P G o ops ct (upd (upd env (some t) (.bool true)) dst (.tup [])) O ks Q:=by simp[kGv]
@[simp]theorem kGv_ft {t:Nat}:kGv P G o ops d t (.bool false) true op dst ct env O ks Q=kT P G o ops ct (upd (upd env (some t) (.bool false)) dst (.tup [])) O ks Q:=by simp[kGv]
@[simp low]theorem kGv_true {t:Nat}{c:Bool}:kGv P G o ops d t (.bool c) true op dst ct env O ks Q=((c=true->kO P G o ops d op dst ct (upd env (some t) (.bool true)) O ks Q)/\(c=false->kT P G o ops ct (upd (upd env (some t) (.bool false)) dst (.tup [])) O ks Q)):=by simp[kGv]
@[simp low]theorem kGv_false {t:Nat}{c:Bool}:kGv P G o ops d t (.bool c) false op dst ct env O ks Q=((c=false->kO P G o ops d op dst ct (upd env (some t) (.bool false)) O ks Q)/\(c=true->kT P G o ops ct (upd (upd env (some t) (.bool true)) dst (.tup [])) O ks Q)):=by simp[kGv]
@[simp]theorem kS_some {v:AV}{O:St}:kS P G o ops (some (v,O)) dst ct env ks Q=kT P G o ops ct (upd env dst v) O ks Q:=z7 rfl
@[simp]theorem kY_none {x:Option (AV×St)}:kY P G o ops none x dst ct env ks Q=kS P G o ops x dst ct env ks Q:=by simp only[kY,kS];rw[qfN]
@[simp]theorem kY_one {v:AV}{τ:St}{x:Option (AV×St)}:kY P G o ops (some [(v,τ)]) x dst ct env ks Q=kT P G o ops ct (upd env dst v) τ ks Q:=by simp only[kY];rw[qo9]
@[simp]theorem kY_two {v v':AV}{τ τ':St}{x:Option (AV×St)}:kY P G o ops (some [(v,τ),(v',τ')]) x dst ct env ks Q=(kT P G o ops ct (upd env dst v) τ ks Q/\kT P G o ops ct (upd env dst v') τ' ks Q):=by simp only[kY];rw[qo8]
@[simp]theorem kFn_fn {g:FuncId}{first args cap:List AV}:kFn P G o ops d (.fn g first cap) args O dst ct env ks Q=qd P G o ops d g (kR first args cap) O dst ct env ks Q:=z7 rfl
@[simp ↓]theorem kO_call {f:Operand}{a:Array Operand}{t:Array TypeId}:kO P G o ops d (.call { callee:=.value f,args:=a,argTypes:=t }) dst ct env O ks Q=kFn P G o ops d (ev G env f) (VS G env a.toList) O dst ct env ks Q:=z7 rfl
@[simp ↓]theorem kO_move {x:Operand}:kO P G o ops d (.move x) dst ct env O ks Q=kS P G o ops (sem (Dof P) G env O (.move x)) dst ct env ks Q:=by simp only[kO,kS];rw[qiY]
@[simp ↓]theorem kO_assign {x:Operand}:kO P G o ops d (.assign x) dst ct env O ks Q=kS P G o ops (sem (Dof P) G env O (.assign x)) dst ct env ks Q:=by simp only[kO,kS];rw[qee]
@[simp ↓]theorem kO_pick {a b c:Operand}:kO P G o ops d (.pick a b c) dst ct env O ks Q=kS P G o ops (sem (Dof P) G env O (.pick a b c)) dst ct env ks Q:=by simp only[kO,kS];rw[qiX]
@[simp ↓]theorem kO_alloc {t:TypeId}:kO P G o ops d (.alloc t) dst ct env O ks Q=kS P G o ops (sem (Dof P) G env O (.alloc t)) dst ct env ks Q:=by simp only[kO,kS];rw[qhi]
@[simp ↓]theorem kO_box {t:TypeId}{x:Operand}:kO P G o ops d (.box t x) dst ct env O ks Q=kS P G o ops (sem (Dof P) G env O (.box t x)) dst ct env ks Q:=by simp only[kO,kS];rw[ql1]
@[simp ↓]theorem kO_build {t:TypeId}{p:Array (Nat×Operand)}:kO P G o ops d (.build t p) dst ct env O ks Q=kS P G o ops (sem (Dof P) G env O (.build t p)) dst ct env ks Q:=by simp only[kO,kS];rw[qhg]
@[simp ↓]theorem qng {t:TypeId}{n:Nat}{p:Array (Nat×Operand)}:kO P G o ops d (.buildSlice t n p) dst ct env O ks Q=kS P G o ops (sem (Dof P) G env O (.buildSlice t n p)) dst ct env ks Q:=by simp only[kO,kS];rw[Kj]
@[simp ↓]theorem kO_load {t:TypeId}{x:Operand}:kO P G o ops d (.load t x) dst ct env O ks Q=kS P G o ops (sem (Dof P) G env O (.load t x)) dst ct env ks Q:=by simp only[kO,kS];rw[qiZ]
@[simp ↓]theorem kO_store {t:TypeId}{x y:Operand}:kO P G o ops d (.store t x y) dst ct env O ks Q=kS P G o ops (sem (Dof P) G env O (.store t x y)) dst ct env ks Q:=by simp only[kO,kS];rw[qg9]
@[simp ↓]theorem qqd {x:Operand}:kO P G o ops d (.nilCheck x) dst ct env O ks Q=kS P G o ops (sem (Dof P) G env O (.nilCheck x)) dst ct env ks Q:=by simp only[kO,kS];rw[qax]
@[simp ↓]theorem kO_binOp {b:BinOp}{t u:TypeId}{x y:Operand}(h:b≠.eql)(h':b≠.neq):kO P G o ops d (.binOp b t x y u) dst ct env O ks Q=kS P G o ops (sem (Dof P) G env O (.binOp b t x y u)) dst ct env ks Q:=by simp only[kO,kS];rw[qhh h h']
@[simp ↓]theorem kO_eql {t u:TypeId}{x y:Operand}:kO P G o ops d (.binOp .eql t x y u) dst ct env O ks Q=kY P G o ops (qj7 d false (Dof P) t (ev G env x) (ev G env y) O) (sem (Dof P) G env O (.binOp .eql t x y u)) dst ct env ks Q:=by simp only[kO,kY];rw[qlZ]
@[simp ↓]theorem kO_neq {t u:TypeId}{x y:Operand}:kO P G o ops d (.binOp .neq t x y u) dst ct env O ks Q=kY P G o ops (qj7 d true (Dof P) t (ev G env x) (ev G env y) O) (sem (Dof P) G env O (.binOp .neq t x y u)) dst ct env ks Q:=by simp only[kO,kY];rw[qlV]
@[simp ↓]theorem kO_unOp {u:UnOp}{t:TypeId}{x:Operand}:kO P G o ops d (.unOp u t x) dst ct env O ks Q=kS P G o ops (sem (Dof P) G env O (.unOp u t x)) dst ct env ks Q:=by simp only[kO,kS];rw[qiW]
@[simp ↓]theorem kO_convert {t u:TypeId}{x:Operand}:kO P G o ops d (.convert t u x) dst ct env O ks Q=kS P G o ops (sem (Dof P) G env O (.convert t u x)) dst ct env ks Q:=by simp only[kO,kS];rw[qb2]
@[simp ↓]theorem qqe {f:Fn}{a b:Array Operand}:kO P G o ops d (.makeFunc f a b) dst ct env O ks Q=kS P G o ops (sem (Dof P) G env O (.makeFunc f a b)) dst ct env ks Q:=by simp only[kO,kS];rw[qay]
@[simp ↓]theorem kO_makeMap {t:TypeId}{r:Option Operand}:kO P G o ops d (.makeMap t r) dst ct env O ks Q=kS P G o ops (sem (Dof P) G env O (.makeMap t r)) dst ct env ks Q:=by simp only[kO,kS];rw[qb0]
@[simp ↓]theorem qou {t:TypeId}{x y:Operand}:kO P G o ops d (.makeSlice t x y) dst ct env O ks Q=kS P G o ops (sem (Dof P) G env O (.makeSlice t x y)) dst ct env ks Q:=by simp only[kO,kS];rw[Ve]
@[simp ↓]theorem kO_slice {t:TypeId}{x:Operand}{lo hi mx:Option Operand}:kO P G o ops d (.slice t x lo hi mx) dst ct env O ks Q=kS P G o ops (sem (Dof P) G env O (.slice t x lo hi mx)) dst ct env ks Q:=by simp only[kO,kS];rw[qha]
@[simp ↓]theorem qow {t:TypeId}{x:Operand}{i:Nat}:kO P G o ops d (.fieldAddr t x i) dst ct env O ks Q=kS P G o ops (sem (Dof P) G env O (.fieldAddr t x i)) dst ct env ks Q:=by simp only[kO,kS];rw[Vg]
@[simp ↓]theorem qov {t:TypeId}{x y:Operand}:kO P G o ops d (.indexAddr t x y) dst ct env O ks Q=kS P G o ops (sem (Dof P) G env O (.indexAddr t x y)) dst ct env ks Q:=by simp only[kO,kS];rw[Vf]
@[simp ↓]theorem kO_index {t:TypeId}{x y:Operand}:kO P G o ops d (.index t x y) dst ct env O ks Q=kS P G o ops (sem (Dof P) G env O (.index t x y)) dst ct env ks Q:=by simp only[kO,kS];rw[qhd]
@[simp ↓]theorem kO_lookup {t:TypeId}{x y:Operand}{k:Bool}:kO P G o ops d (.lookup t x y k) dst ct env O ks Q=kS P G o ops (sem (Dof P) G env O (.lookup t x y k)) dst ct env ks Q:=by simp only[kO,kS];rw[qec]
@[simp ↓]theorem qot {t:TypeId}{x y z:Operand}:kO P G o ops d (.mapUpdate t x y z) dst ct env O ks Q=kS P G o ops (sem (Dof P) G env O (.mapUpdate t x y z)) dst ct env ks Q:=by simp only[kO,kS];rw[Vd]
@[simp ↓]theorem kO_range {t:TypeId}{x:Operand}:kO P G o ops d (.range t x) dst ct env O ks Q=kS P G o ops (sem (Dof P) G env O (.range t x)) dst ct env ks Q:=by simp only[kO,kS];rw[qhb]
@[simp ↓]theorem kO_mnext {x:Operand}:kO P G o ops false (.next x false) dst ct env O ks Q=kY P G o ops (KY O (ev G env x)) none dst ct env ks Q:=by simp only[kO,kY];rw[qhc]
@[simp ↓]theorem kO_entry {x:Operand}:kO P G o ops false (.entry x) dst ct env O ks Q=kY P G o ops ((WJ O (ev G env x)).map fun v=>[(v,O)]) none dst ct env ks Q:=by simp only[kO,kY];rw[qhe]
@[simp ↓]theorem kO_insert {t:TypeId}{m k v:Operand}:kO P G o ops false (.insert t m k v) dst ct env O ks Q=kY P G o ops ((zQ (Dof P) O t (ev G env m) (ev G env k) (ev G env v)).map fun O'=>[(.tup [],O')]) none dst ct env ks Q:=by simp only[kO,kY];rw[qed]
@[simp ↓]theorem kO_extract {x:Operand}{i:Nat}:kO P G o ops d (.extract x i) dst ct env O ks Q=kS P G o ops (sem (Dof P) G env O (.extract x i)) dst ct env ks Q:=by simp only[kO,kS];rw[qb1]
@[simp ↓]theorem kO_len {a:Array Operand}{t:Array TypeId}:kO P G o ops d (.call { callee:=.builtin .len,args:=a,argTypes:=t }) dst ct env O ks Q=kS P G o ops (sem (Dof P) G env O (.call { callee:=.builtin .len,args:=a,argTypes:=t })) dst ct env ks Q:=by simp only[kO,kS];rw[qlY]
@[simp ↓]theorem kO_min {a:Array Operand}{t:Array TypeId}:kO P G o ops d (.call { callee:=.builtin .min,args:=a,argTypes:=t }) dst ct env O ks Q=kS P G o ops (sem (Dof P) G env O (.call { callee:=.builtin .min,args:=a,argTypes:=t })) dst ct env ks Q:=by simp only[kO,kS];rw[qlW]
@[simp ↓]theorem kO_max {a:Array Operand}{t:Array TypeId}:kO P G o ops d (.call { callee:=.builtin .max,args:=a,argTypes:=t }) dst ct env O ks Q=kS P G o ops (sem (Dof P) G env O (.call { callee:=.builtin .max,args:=a,argTypes:=t })) dst ct env ks Q:=by simp only[kO,kS];rw[qlX]
@[simp ↓]theorem qks {a:Array Operand}{t:Array TypeId}(hmu:o.mu=false):kO P G o ops d (.call { callee:=.builtin .append,args:=a,argTypes:=t }) dst ct env O ks Q=kS P G o ops (sem (Dof P) G env O (.call { callee:=.builtin .append,args:=a,argTypes:=t })) dst ct env ks Q:=by simp only[kO,kS,hmu];rw[qef]
@[simp ↓]theorem kO_appendM {s x:Operand}{t u:TypeId}(hmu:o.mu=true):kO P G o ops false (.call { callee:=.builtin .append,args:=#[s,x],argTypes:=#[t,u] }) dst ct env O ks Q=kY P G o ops ((z6 (Dof P) O t u (ev G env s) (ev G env x)).map fun p=>[p]) (sem (Dof P) G env O (.call { callee:=.builtin .append,args:=#[s,x],argTypes:=#[t,u] })) dst ct env ks Q:=by simp only[kO,kY,hmu];rw[qb3]
@[simp ↓]theorem kO_clear {x:Operand}{t:TypeId}:kO P G o ops false (.call { callee:=.builtin .clear,args:=#[x],argTypes:=#[t] }) dst ct env O ks Q=kY P G o ops ((qak (Dof P) O t (ev G env x)).map fun O'=>[(.tup [],O')]) none dst ct env ks Q:=by simp only[kO,kY];rw[qhf]
@[simp ↓]theorem kO_append0 {a:Array Operand}{t:Array TypeId}:kO P G o0 ops d (.call { callee:=.builtin .append,args:=a,argTypes:=t }) dst ct env O ks Q=kS P G o0 ops (sem (Dof P) G env O (.call { callee:=.builtin .append,args:=a,argTypes:=t })) dst ct env ks Q:=qks rfl
end
section
@[simp]theorem atom_any  : AV.atom (.any)=false:=rfl
@[simp]theorem qqT  : acells (.any)=none:=rfl
@[simp]theorem pl1_any  : pl1 (.any)=.any:=rfl
@[simp]theorem pl2_any  : pl2 (.any)=.any:=rfl
@[simp]theorem plain_any  : plain (.any)=.any:=rfl
@[simp]theorem fin1_any  {H:List Blk}:ze H (.any)=.any:=rfl
@[simp]theorem fin2_any  {H:List Blk}:zh H (.any)=.any:=rfl
@[simp]theorem fin_any  {H:List Blk}:fin H (.any)=.any:=rfl
@[simp]theorem atom_bool {b:Bool}:AV.atom (.bool b)=true:=rfl
@[simp]theorem qoS {b:Bool}:acells (.bool b)=some [.bool b]:=rfl
@[simp]theorem pl1_bool {b:Bool}:pl1 (.bool b)=.bool b:=rfl
@[simp]theorem pl2_bool {b:Bool}:pl2 (.bool b)=.bool b:=rfl
@[simp]theorem plain_bool {b:Bool}:plain (.bool b)=.bool b:=rfl
@[simp]theorem fin1_bool {b:Bool}{H:List Blk}:ze H (.bool b)=.bool b:=rfl
@[simp]theorem fin2_bool {b:Bool}{H:List Blk}:zh H (.bool b)=.bool b:=rfl
@[simp]theorem fin_bool {b:Bool}{H:List Blk}:fin H (.bool b)=.bool b:=rfl
@[simp]theorem atom_int {k:IntKind}{n:Int}:AV.atom (.int k n)=true:=rfl
@[simp]theorem qqS {k:IntKind}{n:Int}:acells (.int k n)=some [.int k n]:=rfl
@[simp]theorem pl1_int {k:IntKind}{n:Int}:pl1 (.int k n)=.int k n:=rfl
@[simp]theorem pl2_int {k:IntKind}{n:Int}:pl2 (.int k n)=.int k n:=rfl
@[simp]theorem plain_int {k:IntKind}{n:Int}:plain (.int k n)=.int k n:=rfl
@[simp]theorem fin1_int {k:IntKind}{n:Int}{H:List Blk}:ze H (.int k n)=.int k n:=rfl
@[simp]theorem fin2_int {k:IntKind}{n:Int}{H:List Blk}:zh H (.int k n)=.int k n:=rfl
@[simp]theorem fin_int {k:IntKind}{n:Int}{H:List Blk}:fin H (.int k n)=.int k n:=rfl
@[simp]theorem atom_str {s:List UInt8}:AV.atom (.str s)=true:=rfl
@[simp]theorem qqP {s:List UInt8}:acells (.str s)=some [.str s]:=rfl
@[simp]theorem pl1_str {s:List UInt8}:pl1 (.str s)=.str s:=rfl
@[simp]theorem pl2_str {s:List UInt8}:pl2 (.str s)=.str s:=rfl
@[simp]theorem plain_str {s:List UInt8}:plain (.str s)=.str s:=rfl
@[simp]theorem fin1_str {s:List UInt8}{H:List Blk}:ze H (.str s)=.str s:=rfl
@[simp]theorem fin2_str {s:List UInt8}{H:List Blk}:zh H (.str s)=.str s:=rfl
@[simp]theorem fin_str {s:List UInt8}{H:List Blk}:fin H (.str s)=.str s:=rfl
@[simp]theorem atom_nilp  : AV.atom (.nilp)=true:=rfl
@[simp]theorem qoO  : acells (.nilp)=some [.nilp]:=rfl
@[simp]theorem pl1_nilp  : pl1 (.nilp)=.nilp:=rfl
@[simp]theorem pl2_nilp  : pl2 (.nilp)=.nilp:=rfl
@[simp]theorem plain_nilp  : plain (.nilp)=.nilp:=rfl
@[simp]theorem fin1_nilp  {H:List Blk}:ze H (.nilp)=.nilp:=rfl
@[simp]theorem fin2_nilp  {H:List Blk}:zh H (.nilp)=.nilp:=rfl
@[simp]theorem fin_nilp  {H:List Blk}:fin H (.nilp)=.nilp:=rfl
@[simp]theorem atom_ptr {b o:Nat}:AV.atom (.ptr b o)=true:=rfl
@[simp]theorem qqQ {b o:Nat}:acells (.ptr b o)=some [.ptr b o]:=rfl
@[simp]theorem pl1_ptr {b o:Nat}:pl1 (.ptr b o)=.ptr b o:=rfl
@[simp]theorem pl2_ptr {b o:Nat}:pl2 (.ptr b o)=.ptr b o:=rfl
@[simp]theorem plain_ptr {b o:Nat}:plain (.ptr b o)=.ptr b o:=rfl
@[simp]theorem fin1_ptr {b o:Nat}{H:List Blk}:ze H (.ptr b o)=.ptr b o:=rfl
@[simp]theorem fin2_ptr {b o:Nat}{H:List Blk}:zh H (.ptr b o)=.ptr b o:=rfl
@[simp]theorem fin_ptr {b o:Nat}{H:List Blk}:fin H (.ptr b o)=.ptr b o:=rfl
@[simp]theorem atom_rptr {c:List AV}:AV.atom (.rptr c)=true:=rfl
@[simp]theorem qoN {c:List AV}:acells (.rptr c)=some [.rptr c]:=rfl
@[simp]theorem pl1_rptr {c:List AV}:pl1 (.rptr c)=.rptr c:=rfl
@[simp]theorem pl2_rptr {c:List AV}:pl2 (.rptr c)=.rptr c:=rfl
@[simp]theorem plain_rptr {c:List AV}:plain (.rptr c)=.rptr c:=rfl
@[simp]theorem fin1_rptr {c:List AV}{H:List Blk}:ze H (.rptr c)=.rptr c:=rfl
@[simp]theorem fin2_rptr {c:List AV}{H:List Blk}:zh H (.rptr c)=.rptr c:=rfl
@[simp]theorem fin_rptr {c:List AV}{H:List Blk}:fin H (.rptr c)=.rptr c:=rfl
@[simp]theorem atom_nilm  : AV.atom (.nilm)=true:=rfl
@[simp]theorem qoP  : acells (.nilm)=some [.nilm]:=rfl
@[simp]theorem pl1_nilm  : pl1 (.nilm)=.nilm:=rfl
@[simp]theorem pl2_nilm  : pl2 (.nilm)=.nilm:=rfl
@[simp]theorem plain_nilm  : plain (.nilm)=.nilm:=rfl
@[simp]theorem fin1_nilm  {H:List Blk}:ze H (.nilm)=.nilm:=rfl
@[simp]theorem fin2_nilm  {H:List Blk}:zh H (.nilm)=.nilm:=rfl
@[simp]theorem fin_nilm  {H:List Blk}:fin H (.nilm)=.nilm:=rfl
@[simp]theorem atom_map {b:Nat}:AV.atom (.map b)=true:=rfl
@[simp]theorem qqR {b:Nat}:acells (.map b)=some [.map b]:=rfl
@[simp]theorem pl1_map {b:Nat}:pl1 (.map b)=.map b:=rfl
@[simp]theorem pl2_map {b:Nat}:pl2 (.map b)=.map b:=rfl
@[simp]theorem plain_map {b:Nat}:plain (.map b)=.map b:=rfl
@[simp]theorem fin1_map {b:Nat}{H:List Blk}:ze H (.map b)=.map b:=rfl
@[simp]theorem fin2_map {b:Nat}{H:List Blk}:zh H (.map b)=.map b:=rfl
@[simp]theorem fin_map {b:Nat}{H:List Blk}:fin H (.map b)=.map b:=rfl
@[simp]theorem atom_iter {b:Nat}:AV.atom (.iter b)=true:=rfl
@[simp]theorem qoR {b:Nat}:acells (.iter b)=some [.iter b]:=rfl
@[simp]theorem pl1_iter {b:Nat}:pl1 (.iter b)=.iter b:=rfl
@[simp]theorem pl2_iter {b:Nat}:pl2 (.iter b)=.iter b:=rfl
@[simp]theorem plain_iter {b:Nat}:plain (.iter b)=.iter b:=rfl
@[simp]theorem fin1_iter {b:Nat}{H:List Blk}:ze H (.iter b)=.iter b:=rfl
@[simp]theorem fin2_iter {b:Nat}{H:List Blk}:zh H (.iter b)=.iter b:=rfl
@[simp]theorem fin_iter {b:Nat}{H:List Blk}:fin H (.iter b)=.iter b:=rfl
@[simp]theorem atom_fn {f:FuncId}{a c:List AV}:AV.atom (.fn f a c)=true:=rfl
@[simp]theorem acells_fnB {f:FuncId}{a c:List AV}:acells (.fn f a c)=some [.fn f a c]:=rfl
@[simp]theorem pl1_fn {f:FuncId}{a c:List AV}:pl1 (.fn f a c)=.fn f a c:=rfl
@[simp]theorem pl2_fn {f:FuncId}{a c:List AV}:pl2 (.fn f a c)=.fn f a c:=rfl
@[simp]theorem plain_fn {f:FuncId}{a c:List AV}:plain (.fn f a c)=.fn f a c:=rfl
@[simp]theorem fin1_fn {f:FuncId}{a c:List AV}{H:List Blk}:ze H (.fn f a c)=.fn f a c:=rfl
@[simp]theorem fin2_fn {f:FuncId}{a c:List AV}{H:List Blk}:zh H (.fn f a c)=.fn f a c:=rfl
@[simp]theorem fin_fn {f:FuncId}{a c:List AV}{H:List Blk}:fin H (.fn f a c)=.fn f a c:=rfl
@[simp]theorem atom_nilf  : AV.atom (.nilf)=true:=rfl
@[simp]theorem qoQ  : acells (.nilf)=some [.nilf]:=rfl
@[simp]theorem pl1_nilf  : pl1 (.nilf)=.nilf:=rfl
@[simp]theorem pl2_nilf  : pl2 (.nilf)=.nilf:=rfl
@[simp]theorem plain_nilf  : plain (.nilf)=.nilf:=rfl
@[simp]theorem fin1_nilf  {H:List Blk}:ze H (.nilf)=.nilf:=rfl
@[simp]theorem fin2_nilf  {H:List Blk}:zh H (.nilf)=.nilf:=rfl
@[simp]theorem fin_nilf  {H:List Blk}:fin H (.nilf)=.nilf:=rfl
@[simp]theorem atom_sl {sz:Nat}{rows:List (List AV)}{tok:Tok}:AV.atom (.sl sz rows tok)=true:=rfl
@[simp]theorem acells_slB {sz:Nat}{rows:List (List AV)}{tok:Tok}:acells (.sl sz rows tok)=some [.sl sz rows tok]:=rfl
@[simp]theorem qpN {sz:Nat}{rows:List (List AV)}  : pl1 (.sl sz rows .none)=.sl sz rows .none:=rfl
@[simp]theorem qpM {sz:Nat}{rows:List (List AV)}  : pl2 (.sl sz rows .none)=.sl sz rows .none:=rfl
@[simp]theorem qmH {sz:Nat}{rows:List (List AV)}  : plain (.sl sz rows .none)=.sl sz rows .none:=rfl
@[simp]theorem qoB {sz:Nat}{rows:List (List AV)}  {H:List Blk}:ze H (.sl sz rows .none)=.sl sz rows .none:=rfl
@[simp]theorem qoA {sz:Nat}{rows:List (List AV)}  {H:List Blk}:zh H (.sl sz rows .none)=.sl sz rows .none:=rfl
@[simp]theorem qqs {sz:Nat}{rows:List (List AV)}  {H:List Blk}:fin H (.sl sz rows .none)=.sl sz rows .none:=rfl
@[simp]theorem pl1_sl_nil {sz:Nat}{rows:List (List AV)}  : pl1 (.sl sz rows .nil)=.sl sz rows .nil:=rfl
@[simp]theorem pl2_sl_nil {sz:Nat}{rows:List (List AV)}  : pl2 (.sl sz rows .nil)=.sl sz rows .nil:=rfl
@[simp]theorem qoj {sz:Nat}{rows:List (List AV)}  : plain (.sl sz rows .nil)=.sl sz rows .nil:=rfl
@[simp]theorem qqv {sz:Nat}{rows:List (List AV)}  {H:List Blk}:ze H (.sl sz rows .nil)=.sl sz rows .nil:=rfl
@[simp]theorem qqu {sz:Nat}{rows:List (List AV)}  {H:List Blk}:zh H (.sl sz rows .nil)=.sl sz rows .nil:=rfl
@[simp]theorem fin_sl_nil {sz:Nat}{rows:List (List AV)}  {H:List Blk}:fin H (.sl sz rows .nil)=.sl sz rows .nil:=rfl
@[simp]theorem qom {sz:Nat}{rows:List (List AV)}  : pl1 (.sl sz rows .tight)=.sl sz rows .tight:=rfl
@[simp]theorem qok {sz:Nat}{rows:List (List AV)}  : pl2 (.sl sz rows .tight)=.sl sz rows .tight:=rfl
@[simp]theorem qlJ {sz:Nat}{rows:List (List AV)}  : plain (.sl sz rows .tight)=.sl sz rows .tight:=rfl
@[simp]theorem qnD {sz:Nat}{rows:List (List AV)}  {H:List Blk}:ze H (.sl sz rows .tight)=.sl sz rows .tight:=rfl
@[simp]theorem qnB {sz:Nat}{rows:List (List AV)}  {H:List Blk}:zh H (.sl sz rows .tight)=.sl sz rows .tight:=rfl
@[simp]theorem qoy {sz:Nat}{rows:List (List AV)}  {H:List Blk}:fin H (.sl sz rows .tight)=.sl sz rows .tight:=rfl
@[simp]theorem qon {sz:Nat}{rows:List (List AV)}{t k:Nat}:pl1 (.sl sz rows (.chain t k))=.sl sz rows .none:=rfl
@[simp]theorem qol {sz:Nat}{rows:List (List AV)}{t k:Nat}:pl2 (.sl sz rows (.chain t k))=.sl sz rows .none:=rfl
@[simp]theorem qlK {sz:Nat}{rows:List (List AV)}{t k:Nat}:plain (.sl sz rows (.chain t k))=.sl sz rows .none:=rfl
@[simp]theorem qnE {sz:Nat}{rows:List (List AV)}{t k:Nat}{H:List Blk}:ze H (.sl sz rows (.chain t k))=.sl sz rows .none:=rfl
@[simp]theorem qnC {sz:Nat}{rows:List (List AV)}{t k:Nat}{H:List Blk}:zh H (.sl sz rows (.chain t k))=.sl sz rows .none:=rfl
@[simp]theorem qoz {sz:Nat}{rows:List (List AV)}{t k:Nat}{H:List Blk}:fin H (.sl sz rows (.chain t k))=.sl sz rows .none:=rfl
@[simp]theorem atom_ms {b o l z:Nat}:AV.atom (.ms b o l z)=true:=rfl
@[simp]theorem acells_msB {b o l z:Nat}:acells (.ms b o l z)=some [.ms b o l z]:=rfl
@[simp]theorem pl1_ms {b o l z:Nat}:pl1 (.ms b o l z)=.ms b o l z:=rfl
@[simp]theorem pl2_ms {b o l z:Nat}:pl2 (.ms b o l z)=.ms b o l z:=rfl
@[simp]theorem plain_ms {b o l z:Nat}:plain (.ms b o l z)=.ms b o l z:=rfl
@[simp]theorem atom_agg {c:List AV}:AV.atom (.agg c)=false:=rfl
@[simp]theorem atom_tup {c:List AV}:AV.atom (.tup c)=false:=rfl
@[simp]theorem qfG {c:List AV}:acells (.agg c)=if c.all AV.atom=true then some c else none:=rfl
@[simp]theorem acells_tup {c:List AV}:acells (.tup c)=none:=rfl
@[simp]theorem pl2_agg {c:List AV}:pl2 (.agg c)=.agg (c.map pl1):=rfl
@[simp]theorem plain_agg {c:List AV}:plain (.agg c)=.agg (c.map pl1):=rfl
@[simp]theorem fin2_agg {c:List AV}{H:List Blk}:zh H (.agg c)=.agg (c.map (ze H)):=rfl
@[simp]theorem fin_agg {c:List AV}{H:List Blk}:fin H (.agg c)=.agg (c.map (ze H)):=rfl
@[simp]theorem plain_tup {c:List AV}:plain (.tup c)=.tup (c.map pl2):=rfl
@[simp]theorem fin_tup {c:List AV}{H:List Blk}:fin H (.tup c)=.tup (c.map (zh H)):=rfl
end
attribute [simp] qsf qsR
attribute [simp] Q2 Zs Qb qI zc zD qaX zw TD.isSl TD.isPtr TD.isMap TD.isFn
section
variable {A t:List Blk}{k:Nat}{x:Blk}
@[simp]theorem at_app0:(A++t)[A.length]?=t[0]? := by rw[qro (qrn _),qsP]
@[simp]theorem at_appk:(A++t)[A.length+k]?=t[k]? := by rw[qro (by omega)];congr 1;try omega
theorem qoK (b:Nat)(y:Blk)(t:List Blk):(A.set b y++t)[A.length]?=t[0]? := by rw[qro (by simp),qsk,qsP]
theorem qb (h:A[k]?=some x)(t:List Blk):(A++t)[k]?=some x:=by rw[qrc (qqV.1 h).1,h]
theorem zV {b:Nat}(h:A[b]?=some x)(t:List Blk)(y:Blk):(A++t).set b y=A.set b y++t:=List.set_append_left _ _ (qqV.1 h).1
end
section
variable {P:Program}{G:Nat->AV}{O:St}{f:FuncId}{args:List AV}{r:AV}
theorem Pure.kO {fn : Func} {c : Code} (o : Opts) (deep : Bool) (hm : P.follows .mixedOrders = true) (hf : P.funcs[f]? = some fn) (hb : fn.body = some c) (hk : (j8 fn.ntmps o c && decide (args.length ≤ fn.ntmps) && fn.name != "runtime.NumGoroutine") = true)
 (h:kC P G o c (JI args) ⟨[],[]⟩ [] (qdh P deep fn.results.toList r)):Pure P G f args r:=Pure.vcO o deep hm hf hb hk h
theorem Pure.k {fn : Func} {c : Code} (hm : P.follows .mixedOrders = true) (hf : P.funcs[f]? = some fn) (hb : fn.body = some c) (hk : (j8 fn.ntmps o0 c && decide (args.length ≤ fn.ntmps) && fn.name != "runtime.NumGoroutine") = true)
 (h:kC P G o0 c (JI args) ⟨[],[]⟩ [] (qdh P false fn.results.toList r)):Pure P G f args r:=Pure.vc hm hf hb hk h
theorem qq.kO {fn : Func} {c : Code} {Q : AV → St → Prop} (o : Opts) (hm : P.follows .mixedOrders = true) (hf : P.funcs[f]? = some fn) (hb : fn.body = some c) (hk : (j8 fn.ntmps o c && decide (args.length ≤ fn.ntmps) && fn.name != "runtime.NumGoroutine") = true)
 (h:kC P G o c (JI args) O [] (qd1 P fn.results.toList Q)):qq P G f args O Q:=qq.vcO o hm hf hb hk h
theorem qq.k {fn : Func} {c : Code} {Q : AV → St → Prop} (hm : P.follows .mixedOrders = true) (hf : P.funcs[f]? = some fn) (hb : fn.body = some c) (hk : (j8 fn.ntmps o0 c && decide (args.length ≤ fn.ntmps) && fn.name != "runtime.NumGoroutine") = true)
 (h:kC P G o0 c (JI args) O [] (qd1 P fn.results.toList Q)):qq P G f args O Q:=qq.vc hm hf hb hk h
end
section
variable {P:Program}{G:Nat->AV}{o:Opts}{ops:Array Oper}{d:Bool}{g:FuncId}{args args':List AV}{env:Env}{O:St}{ks:List Fr}{Q:Exit->Env->St->Prop}{dst:Option Nat}{ct:Ct}{r:AV}
theorem qd.call (h:Pure P G g args r)(hno:qu args=true)(hq:kT P G o ops ct (upd env dst r) O ks Q):qd P G o ops d g args O dst ct env ks Q:=qe.call h hno hq
theorem qd.less (h:Pure P G g args' r)(hno:qu args=true)(ha:zt args args')(hq:kT P G o ops ct (upd env dst r) O ks Q):qd P G o ops d g args O dst ct env ks Q:=qe.less h hno ha hq
theorem qd.pure (h:Pure P G g args' r)(hno:qu (args.map plain)=true)(ha:zt (args.map plain) args')(hq:kT P G o ops ct (upd env dst r) O ks Q):qd P G o ops d g args O dst ct env ks Q:=qe.pure h hno ha hq
theorem qd.lent (h:Pure P G g args' r)(hb:bare r=true)(ha:zt (args.map (frz O.H 8)) args')(hq:kT P G o ops ct (upd env dst r) O ks Q):qd P G o ops d g args O dst ct env ks Q:=qe.lent h hb ha hq
theorem qd.acall {R:AV->St->Prop}(h:qq P G g args O R)(hq:∀ v O',R v O'->kT P G o ops ct (upd env dst v) O' ks Q):qd P G o ops false g args O dst ct env ks Q:=qq.imp h hq
theorem qv.list {α:Type}(l:List α)(J:List α->Env->St->Prop){c:Code}(h0:J [] env O)
 (hs:∀ d v r env O,l=d++v::r->l[d.length]?=some v->d.length<l.length->J d env O->kC P G o c env O (.loop (J (d++[v]))::ks) Q)
 (he:∀ env O,J l env O->kC P G o c env O (.loop (fun _ _=>False)::ks) Q) (hp:yi c=true:=by rfl):qv P G o c env O ks Q:=qC.list l J h0 hs he hp
theorem qv.count (n:Nat)(J:Nat->Env->St->Prop){c:Code}(h0:J 0 env O)
 (hs:∀ i env O,i<n->J i env O->kC P G o c env O (.loop (J (i+1))::ks) Q)
 (he:∀ env O,J n env O->kC P G o c env O (.loop (fun _ _=>False)::ks) Q) (hp:yi c=true:=by rfl):qv P G o c env O ks Q:=qC.count n J h0 hs he hp
theorem qv.gen {c:Code}(I:Nat->Env->St->Prop)(n:Nat)(h:I n env O)(hr:∀ n env O (R:Env->St->Prop),(∀ m env O,m<n->I m env O->R env O)->I n env O->kC P G o c env O (.loop R::ks) Q):qv P G o c env O ks Q :=
 qC.intro I n h fun n env O hI=>hr n env O _ (fun m env O hm hI=>⟨m,hm,hI⟩) hI
end
end
end Go.Abs
end
