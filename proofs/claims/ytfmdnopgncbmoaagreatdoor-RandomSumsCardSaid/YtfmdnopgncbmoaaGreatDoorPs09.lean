import Derived.Test.YtfmdnopgncbmoaaGreatDoorPs08
set_option linter.all false
set_option linter.defProp false
namespace Go.Abs
open Go Go.RowKit
inductive Fr where
 |seq (y:Code)
 |block (id:Nat)
 |loop (n:Env->St->Prop)
 |scope
inductive Ct where
 |run (d lw:Bool) (rest:List Oper)
 |plan (ac:List Nat) (s:Sch)
section
variable (P:Program)(G:Glo)(o:Opts)
def itp:List Fr->(Exit->Env->St->Prop)->Exit->Env->St->Prop
 |[],Q=>Q
 |.seq y::ks,Q=>wE (fun env U=>vcC P G o y env U (itp ks Q)) (itp ks Q)
 |.block id::ks,Q=>wF id (itp ks Q)
 |.loop n::ks,Q=>wE n (itp ks Q)
 |.scope::ks,Q=>qop (itp ks Q)
def kC(c:Code)(env:Env)(U:St)(ks:List Fr)(Q:Exit->Env->St->Prop):Prop:=vcC P G o c env U (itp P G o ks Q)
def kX(e:Exit)(env:Env)(U:St)(ks:List Fr)(Q:Exit->Env->St->Prop):Prop:=itp P G o ks Q e env U
def kT(ops:Array Oper)(ct:Ct)(env:Env)(U:St)(ks:List Fr)(Q:Exit->Env->St->Prop):Prop:=match ct with
 |.run d lw rest=>vcR P G o.mu ops d lw rest env U (fun env U=>itp P G o ks Q .normal env U)
 |.plan ac s=>vcS P G o.mu ac ops s env U (fun env U=>itp P G o ks Q .normal env U)
def kO(ops:Array Oper)(d:Bool)(op:Op)(dst:Option Nat)(ct:Ct)(env:Env)(U:St)(ks:List Fr)(Q:Exit->Env->St->Prop):Prop :=
 jy P G o.mu d op env U (fun v U'=>kT P G o ops ct (upd env dst v) U' ks Q)
def kS(ops:Array Oper)(x:Option (AV×St))(dst:Option Nat)(ct:Ct)(env:Env)(ks:List Fr)(Q:Exit->Env->St->Prop):Prop :=
 jt x (fun v U'=>kT P G o ops ct (upd env dst v) U' ks Q)
def kY(ops:Array Oper)(l:Option (List (AV×St)))(x:Option (AV×St))(dst:Option Nat)(ct:Ct)(env:Env)(ks:List Fr)(Q:Exit->Env->St->Prop):Prop :=
 vcX l x (fun v U'=>kT P G o ops ct (upd env dst v) U' ks Q)
def kFn(ops:Array Oper)(d:Bool)(f:AV)(args:List AV)(U:St)(dst:Option Nat)(ct:Ct)(env:Env)(ks:List Fr)(Q:Exit->Env->St->Prop):Prop :=
 qvj P G d f args U (fun v U'=>kT P G o ops ct (upd env dst v) U' ks Q)
def qc(ops:Array Oper)(d:Bool)(g:FuncId)(args:List AV)(U:St)(dst:Option Nat)(ct:Ct)(env:Env)(ks:List Fr)(Q:Exit->Env->St->Prop):Prop :=
 qb P G d g args U (fun v U'=>kT P G o ops ct (upd env dst v) U' ks Q)
def kCd(v:AV)(x y:Code)(env:Env)(U:St)(ks:List Fr)(Q:Exit->Env->St->Prop):Prop:=match v with
 |.bool b=>(b=true->kC P G o x env U ks Q)/\(b=false->kC P G o y env U ks Q)
 |_=>False
def kGv(ops:Array Oper)(d:Bool)(t:Nat)(v:AV)(b:Bool)(op:Op)(dst:Option Nat)(ct:Ct)(env:Env)(U:St)(ks:List Fr)(Q:Exit->Env->St->Prop):Prop:=match v with
 |.bool c=>((c==b)=true->kO P G o ops d op dst ct (upd env (some t) (.bool b)) U ks Q)/\((c==b)=false->kT P G o ops ct (upd (upd env (some t) (.bool (!b))) dst (.tup [])) U ks Q)
 |.tup []=>kT P G o ops ct (upd env dst (.tup [])) U ks Q
 |_=>False
def kG(ops:Array Oper)(d:Bool)(x:Option Nat)(b:Bool)(op:Op)(dst:Option Nat)(ct:Ct)(env:Env)(U:St)(ks:List Fr)(Q:Exit->Env->St->Prop):Prop:=match x with
 |some t=>kGv P G o ops d t (env t) b op dst ct env U ks Q
 |none=>kT P G o ops ct (upd env dst (.tup [])) U ks Q
def qQ(c:Code)(env:Env)(U:St)(ks:List Fr)(Q:Exit->Env->St->Prop):Prop:=qy P G o c env U (itp P G o ks Q)
def kP(ops:Array Oper)(x:Option Oper)(d:Bool)(ct:Ct)(env:Env)(U:St)(ks:List Fr)(Q:Exit->Env->St->Prop):Prop:=match x with
 |some u=>vcG P G o.mu d ops u env U (fun env v U'=>kT P G o ops ct (upd env u.dst v) U' ks Q)
 |none=>False
end
section
variable {P:Program}{G:Glo}{o:Opts}{env:Env}{U:St}{ks:List Fr}{Q:Exit->Env->St->Prop}
@[simp ↓]def qwk:kC P G o .skip env U ks Q=kX P G o .normal env U ks Q:=by simp only[kC,kX,vcC]
@[simp ↓]def qxo:kC P G o .ret env U ks Q=kX P G o .ret env U ks Q:=by simp only[kC,kX,vcC]
@[simp ↓]def qwm{id}:kC P G o (.exit id) env U ks Q=kX P G o (.exit id) env U ks Q:=by simp only[kC,kX,vcC]
@[simp ↓]def qxn{x y}:kC P G o (.seq x y) env U ks Q=kC P G o x env U (.seq y::ks) Q:=by simp only[kC,vcC,itp]
@[simp ↓]def quw{id x}:kC P G o (.block id x) env U ks Q=kC P G o x env U (.block id::ks) Q:=by simp only[kC,vcC,itp]
@[simp ↓]def qus{x}:kC P G o (.scope x) env U ks Q=kC P G o x env U (.scope::ks) Q:=by simp only[kC,vcC,itp]
@[simp ↓]def qut{l}:kC P G o (.label l) env U ks Q=kX P G o .normal env U ks Q:=by simp only[kC,kX,vcC]
@[simp ↓]def qnN:kX P G o .ret env U (.scope::ks) Q=kX P G o .ret env U ks Q:=zN rfl
@[simp ↓]def qwn{c x y}:kC P G o (.cond c x y) env U ks Q=kCd P G o (ev G env c) x y env U ks Q:=by
 simp only[kC,vcC,kCd,qfg];split<;>simp_all[]
@[simp ↓]def qwl{x}:kC P G o (.loop x) env U ks Q=qQ P G o x env U ks Q:=by simp only[kC,qQ,vcC]<;>rfl
@[simp ↓]def qsL{id l}:kC P G o (.region id l.toArray false) env U ks Q=kT P G o l.toArray (.run false (o.lw.contains id) l) env U ks Q:=by simp only[kC,kT,vcC]
@[simp ↓ high]def qro{id l}:kC P G o0 (.region id l.toArray false) env U ks Q=kT P G o0 l.toArray (.run false false l) env U ks Q:=by simp only[kC,kT,vcC];rfl
@[simp ↓ high]def qrn{m x y id l}:kC P G ⟨m,x,[],y⟩ (.region id l.toArray false) env U ks Q=kT P G ⟨m,x,[],y⟩ l.toArray (.run false false l) env U ks Q:=by simp only[kC,kT,vcC];rfl
@[simp ↓ high]def quu{m y id l}:kC P G ⟨m,[],[],y⟩ (.region id l.toArray true) env U ks Q=kT P G ⟨m,[],[],y⟩ l.toArray (.run true false l) env U ks Q:=by simp[kC,kT,vcC]
@[simp ↓]def quv{id l}:kC P G o0 (.region id l.toArray true) env U ks Q=kT P G o0 l.toArray (.run true false l) env U ks Q:=by simp[kC,kT,vcC,o0]
def QC{id l}(h:o.fk.lookup id=none):kC P G o (.region id l.toArray true) env U ks Q=kT P G o l.toArray (.run true (o.lw.contains id) l) env U ks Q:=by simp only[kC,kT,vcC,h]
def qJ{id}{l:List Oper}{s ac}(h:o.fk.lookup id=some (s,ac)):kC P G o (.region id l.toArray true) env U ks Q=kT P G o l.toArray (.plan ac s) env U ks Q:=by simp only[kC,kT,vcC,h]
@[simp]def quq{x y}:kCd P G o (.bool true) x y env U ks Q=kC P G o x env U ks Q:=by simp[kCd]
@[simp]def qsK{x y}:kCd P G o (.bool false) x y env U ks Q=kC P G o y env U ks Q:=by simp[kCd]
@[simp low]def qur{b x y}:kCd P G o (.bool b) x y env U ks Q=((b=true->kC P G o x env U ks Q)/\(b=false->kC P G o y env U ks Q)):=zN rfl
@[simp ↓]def qw9{e}:kX P G o e env U [] Q=Q e env U:=zN rfl
@[simp ↓]def qw8{y}:kX P G o .normal env U (.seq y::ks) Q=kC P G o y env U ks Q:=zN rfl
@[simp ↓]def qrh{y}:kX P G o .ret env U (.seq y::ks) Q=kX P G o .ret env U ks Q:=zN rfl
@[simp ↓]def qpT{y i}:kX P G o (.exit i) env U (.seq y::ks) Q=kX P G o (.exit i) env U ks Q:=zN rfl
@[simp ↓]def quf{id}:kX P G o .normal env U (.block id::ks) Q=kX P G o .normal env U ks Q:=zN rfl
@[simp ↓]def qnP{id}:kX P G o .ret env U (.block id::ks) Q=kX P G o .ret env U ks Q:=zN rfl
@[simp ↓]def qlT{id i}:kX P G o (.exit i) env U (.block id::ks) Q=if i=id then kX P G o .normal env U ks Q else kX P G o (.exit i) env U ks Q:=by
 simp only[kX,itp,wF]
@[simp ↓]def qv6{n}:kX P G o .normal env U (.loop n::ks) Q=n env U:=zN rfl
@[simp ↓]def qpU{n}:kX P G o .ret env U (.loop n::ks) Q=kX P G o .ret env U ks Q:=zN rfl
@[simp ↓]def qnO{n i}:kX P G o (.exit i) env U (.loop n::ks) Q=kX P G o (.exit i) env U ks Q:=zN rfl
end
section
variable {P:Program}{G:Glo}{o:Opts}{ops:Array Oper}{d lw:Bool}{env:Env}{U:St}{ks:List Fr}{Q:Exit->Env->St->Prop}{dst:Option Nat}{op:Op}{ct:Ct}
@[simp ↓]def qxb:kT P G o ops (.run d lw []) env U ks Q=kX P G o .normal env U ks Q:=zN rfl
@[simp ↓]def qxa{type pos}{after:Array Edge}{rest}:
 kT P G o ops (.run d false ({dst:=dst,op:=op,type:=type,pos:=pos,after:=after,guard:=none}::rest)) env U ks Q=kO P G o ops d op dst (.run d false rest) env U ks Q:=by
 simp only[kT,kO];rw[qoH]
@[simp ↓]def qug{type pos}{after:Array Edge}{rest j b}:
 kT P G o ops (.run d false ({dst:=dst,op:=op,type:=type,pos:=pos,after:=after,guard:=some (j,b)}::rest)) env U ks Q=kG P G o ops d ((ops[j]?).bind (·.dst)) b op dst (.run d false rest) env U ks Q:=by
 simp only[kT];rw[qgQ];unfold vk kG;generalize (ops[j]?).bind (·.dst)=x
 cases x with
 |none=>rfl
 | some t=>
  simp only[kGv];generalize env t=v
  cases v with
  |tup vs=>cases vs<;>rfl
  |_=>rfl
@[simp ↓]def qv9{ac}:kT P G o ops (.plan ac .done) env U ks Q=kX P G o .normal env U ks Q:=by simp only[kT,vcS,kX]
@[simp ↓]def qv7{ac dp k s}:kT P G o ops (.plan ac (.step k dp s)) env U ks Q=kP P G o ops (ops[k]?) (match ops[k]? with|some u=>qX o.mu ac k u.op != 9|none=>false) (.plan ac s) env U ks Q:=by
 simp only[kT,vcS,kP];split<;>rename_i h<;>simp[h]
@[simp]def qxc{type pos}{after:Array Edge}:kP P G o ops (some {dst:=dst,op:=op,type:=type,pos:=pos,after:=after,guard:=none}) d ct env U ks Q=kO P G o ops d op dst ct env U ks Q:=by
 simp only[kP,vcG,kO]
@[simp]def qwj{t b}:kG P G o ops d (some t) b op dst ct env U ks Q=kGv P G o ops d t (env t) b op dst ct env U ks Q:=zN rfl
@[simp]def qwi{t b}:kGv P G o ops d t (.tup []) b op dst ct env U ks Q=kT P G o ops ct (upd env dst (.tup [])) U ks Q:=zN rfl
@[simp]def qxi{t}:kGv P G o ops d t (.bool true) true op dst ct env U ks Q=kO P G o ops d op dst ct (upd env (some t) (.bool true)) U ks Q:=by simp[kGv]
@[simp]def qxl{t}:kGv P G o ops d t (.bool false) false op dst ct env U ks Q=kO P G o ops d op dst ct (upd env (some t) (.bool false)) U ks Q:=by simp[kGv]
@[simp]def qxj{t}:kGv P G o ops d t (.bool true) false op dst ct env U ks Q=kT P G o ops ct (upd (upd env (some t) (.bool true)) dst (.tup [])) U ks Q:=by simp[kGv]
@[simp]def qxk{t}:kGv P G o ops d t (.bool false) true op dst ct env U ks Q=kT P G o ops ct (upd (upd env (some t) (.bool false)) dst (.tup [])) U ks Q:=by simp[kGv]
@[simp low]def qup{t c}:kGv P G o ops d t (.bool c) true op dst ct env U ks Q=((c=true->kO P G o ops d op dst ct (upd env (some t) (.bool true)) U ks Q)/\(c=false->kT P G o ops ct (upd (upd env (some t) (.bool false)) dst (.tup [])) U ks Q)):=by simp[kGv]
@[simp low]def qsJ{t c}:kGv P G o ops d t (.bool c) false op dst ct env U ks Q=((c=false->kO P G o ops d op dst ct (upd env (some t) (.bool false)) U ks Q)/\(c=true->kT P G o ops ct (upd (upd env (some t) (.bool true)) dst (.tup [])) U ks Q)):=by simp[kGv]
@[simp]def qwa{v U}:kS P G o ops (some (v,U)) dst ct env ks Q=kT P G o ops ct (upd env dst v) U ks Q:=zN rfl
@[simp]def qwb:kS P G o ops none dst ct env ks Q=False:=zN rfl
@[simp]def qv5{x}:kY P G o ops none x dst ct env ks Q=kS P G o ops x dst ct env ks Q:=by simp only[kY,kS];rw[WM]
@[simp]def qw7{v τ x}:kY P G o ops (some [(v,τ)]) x dst ct env ks Q=kT P G o ops ct (upd env dst v) τ ks Q:=by simp only[kY];rw[qoF]
@[simp]def qw6{v v' τ τ' x}:kY P G o ops (some [(v,τ),(v',τ')]) x dst ct env ks Q=(kT P G o ops ct (upd env dst v) τ ks Q/\kT P G o ops ct (upd env dst v') τ' ks Q):=by simp only[kY];rw[qoE]
@[simp]def qxm{g first args cap}:kFn P G o ops d (.fn g first cap) args U dst ct env ks Q=qc P G o ops d g (yB first args cap) U dst ct env ks Q:=zN rfl
@[simp ↓]def qwh{f a t}:kO P G o ops d (.call {callee:=.value f,args:=a,argTypes:=t}) dst ct env U ks Q=kFn P G o ops d (ev G env f) (V8 G env a.toList) U dst ct env ks Q:=zN rfl
@[simp ↓]def qwe{x}:kO P G o ops d (.move x) dst ct env U ks Q=kS P G o ops (sem (Dof P) G env U (.move x)) dst ct env ks Q:=by simp only[kO,kS];rw[qgT]
@[simp ↓]def qsI{x}:kO P G o ops d (.assign x) dst ct env U ks Q=kS P G o ops (sem (Dof P) G env U (.assign x)) dst ct env ks Q:=by simp only[kO,kS];rw[qcl]
@[simp ↓]def qwd{a b c}:kO P G o ops d (.pick a b c) dst ct env U ks Q=kS P G o ops (sem (Dof P) G env U (.pick a b c)) dst ct env ks Q:=by simp only[kO,kS];rw[qgS]
@[simp ↓]def qun{t}:kO P G o ops d (.alloc t) dst ct env U ks Q=kS P G o ops (sem (Dof P) G env U (.alloc t)) dst ct env ks Q:=by simp only[kO,kS];rw[qff]
@[simp ↓]def qxh{t x}:kO P G o ops d (.box t x) dst ct env U ks Q=kS P G o ops (sem (Dof P) G env U (.box t x)) dst ct env ks Q:=by simp only[kO,kS];rw[qkw]
@[simp ↓]def qul{t p}:kO P G o ops d (.build t p) dst ct env U ks Q=kS P G o ops (sem (Dof P) G env U (.build t p)) dst ct env ks Q:=by simp only[kO,kS];rw[qfd]
@[simp ↓]def qlX{t n p}:kO P G o ops d (.buildSlice t n p) dst ct env U ks Q=kS P G o ops (sem (Dof P) G env U (.buildSlice t n p)) dst ct env ks Q:=by simp only[kO,kS];rw[J8]
@[simp ↓]def qwf{t x}:kO P G o ops d (.load t x) dst ct env U ks Q=kS P G o ops (sem (Dof P) G env U (.load t x)) dst ct env ks Q:=by simp only[kO,kS];rw[qgU]
@[simp ↓]def quh{t x y}:kO P G o ops d (.store t x y) dst ct env U ks Q=kS P G o ops (sem (Dof P) G env U (.store t x y)) dst ct env ks Q:=by simp only[kO,kS];rw[qe9]
@[simp ↓]def qpV{x}:kO P G o ops d (.nilCheck x) dst ct env U ks Q=kS P G o ops (sem (Dof P) G env U (.nilCheck x)) dst ct env ks Q:=by simp only[kO,kS];rw[WN]
@[simp ↓]def qum{b t u x y}(h:b≠.eql)(h':b≠.neq):kO P G o ops d (.binOp b t x y u) dst ct env U ks Q=kS P G o ops (sem (Dof P) G env U (.binOp b t x y u)) dst ct env ks Q:=by simp only[kO,kS];rw[qfe h h']
@[simp ↓]def qxg{t u x y}:kO P G o ops d (.binOp .eql t x y u) dst ct env U ks Q=kY P G o ops (qh5 d false (Dof P) t (ev G env x) (ev G env y) U) (sem (Dof P) G env U (.binOp .eql t x y u)) dst ct env ks Q:=by simp only[kO,kY];rw[qku]
@[simp ↓]def qxd{t u x y}:kO P G o ops d (.binOp .neq t x y u) dst ct env U ks Q=kY P G o ops (qh5 d true (Dof P) t (ev G env x) (ev G env y) U) (sem (Dof P) G env U (.binOp .neq t x y u)) dst ct env ks Q:=by simp only[kO,kY];rw[qkr]
@[simp ↓]def qwc{u t x}:kO P G o ops d (.unOp u t x) dst ct env U ks Q=kS P G o ops (sem (Dof P) G env U (.unOp u t x)) dst ct env ks Q:=by simp only[kO,kS];rw[qgR]
@[simp ↓]def qrk{t u x}:kO P G o ops d (.convert t u x) dst ct env U ks Q=kS P G o ops (sem (Dof P) G env U (.convert t u x)) dst ct env ks Q:=by simp only[kO,kS];rw[qal]
@[simp ↓]def qpW{f:Fn}{a b}:kO P G o ops d (.makeFunc f a b) dst ct env U ks Q=kS P G o ops (sem (Dof P) G env U (.makeFunc f a b)) dst ct env ks Q:=by simp only[kO,kS];rw[WO]
@[simp ↓]def qri{t r}:kO P G o ops d (.makeMap t r) dst ct env U ks Q=kS P G o ops (sem (Dof P) G env U (.makeMap t r)) dst ct env ks Q:=by simp only[kO,kS];rw[qaj]
def Q9{t x y}(hmu:o.mu=false):kO P G o ops d (.makeSlice t x y) dst ct env U ks Q=kS P G o ops (sem (Dof P) G env U (.makeSlice t x y)) dst ct env ks Q:=by
 simp only[kO,kS];cases d
 . rw[Ql,hmu,qh8,WM]
 rw[J7]
@[simp ↓]def qlV{u lw v t x y}:kO P G ⟨false,u,lw,v⟩ ops d (.makeSlice t x y) dst ct env U ks Q=kS P G ⟨false,u,lw,v⟩ ops (sem (Dof P) G env U (.makeSlice t x y)) dst ct env ks Q:=Q9 rfl
@[simp ↓]def qlW{t x y}:kO P G o0 ops d (.makeSlice t x y) dst ct env U ks Q=kS P G o0 ops (sem (Dof P) G env U (.makeSlice t x y)) dst ct env ks Q:=Q9 rfl
@[simp ↓]def qlU{u lw v t x y}:kO P G ⟨true,u,lw,v⟩ ops false (.makeSlice t x y) dst ct env U ks Q=kY P G ⟨true,u,lw,v⟩ ops (mkX (Dof P) true U t (ev G env x) (ev G env y)) (sem (Dof P) G env U (.makeSlice t x y)) dst ct env ks Q:=by simp only[kO,kY];rw[Ql]
@[simp ↓]def qui{t x lo hi mx}:kO P G o ops d (.slice t x lo hi mx) dst ct env U ks Q=kS P G o ops (sem (Dof P) G env U (.slice t x lo hi mx)) dst ct env ks Q:=by simp only[kO,kS];rw[qfa]
@[simp ↓]def qnS{t x i}:kO P G o ops d (.fieldAddr t x i) dst ct env U ks Q=kS P G o ops (sem (Dof P) G env U (.fieldAddr t x i)) dst ct env ks Q:=by simp only[kO,kS];rw[Kz]
@[simp ↓]def quk{t x i}:kO P G o ops d (.field t x i) dst ct env U ks Q=kS P G o ops (sem (Dof P) G env U (.field t x i)) dst ct env ks Q:=by simp only[kO,kS];rw[qfc]
@[simp ↓]def qnR{t x y}:kO P G o ops d (.indexAddr t x y) dst ct env U ks Q=kS P G o ops (sem (Dof P) G env U (.indexAddr t x y)) dst ct env ks Q:=by simp only[kO,kS];rw[Ky]
@[simp ↓]def quj{t x y}:kO P G o ops d (.index t x y) dst ct env U ks Q=kS P G o ops (sem (Dof P) G env U (.index t x y)) dst ct env ks Q:=by simp only[kO,kS];rw[qfb]
@[simp ↓]def qsH{t x y k}:kO P G o ops d (.lookup t x y k) dst ct env U ks Q=kS P G o ops (sem (Dof P) G env U (.lookup t x y k)) dst ct env ks Q:=by simp only[kO,kS];rw[qck]
@[simp ↓]def qnQ{t x y z}:kO P G o ops d (.mapUpdate t x y z) dst ct env U ks Q=kS P G o ops (sem (Dof P) G env U (.mapUpdate t x y z)) dst ct env ks Q:=by simp only[kO,kS];rw[Kx]
@[simp ↓]def qrj{x i}:kO P G o ops d (.extract x i) dst ct env U ks Q=kS P G o ops (sem (Dof P) G env U (.extract x i)) dst ct env ks Q:=by simp only[kO,kS];rw[qak]
@[simp ↓]def qxf{a t}:kO P G o ops d (.call {callee:=.builtin .len,args:=a,argTypes:=t}) dst ct env U ks Q=kS P G o ops (sem (Dof P) G env U (.call {callee:=.builtin .len,args:=a,argTypes:=t})) dst ct env ks Q:=by simp only[kO,kS];rw[qkt]
@[simp ↓]def qxe{a t}:kO P G o ops d (.call {callee:=.builtin .min,args:=a,argTypes:=t}) dst ct env U ks Q=kS P G o ops (sem (Dof P) G env U (.call {callee:=.builtin .min,args:=a,argTypes:=t})) dst ct env ks Q:=by simp only[kO,kS];rw[qks]
@[simp ↓]def qiq{a t}(hmu:o.mu=false):kO P G o ops d (.call {callee:=.builtin .append,args:=a,argTypes:=t}) dst ct env U ks Q=kS P G o ops (sem (Dof P) G env U (.call {callee:=.builtin .append,args:=a,argTypes:=t})) dst ct env ks Q:=by simp only[kO,kS,hmu];rw[qcm]
@[simp ↓]def qrl{s x t u}(hmu:o.mu=true):kO P G o ops false (.call {callee:=.builtin .append,args:=#[s,x],argTypes:=#[t,u]}) dst ct env U ks Q=kY P G o ops ((zn (Dof P) U t u (ev G env s) (ev G env x)).map fun p=>[p]) (sem (Dof P) G env U (.call {callee:=.builtin .append,args:=#[s,x],argTypes:=#[t,u]})) dst ct env ks Q:=by simp only[kO,kY,hmu];rw[qam]
@[simp ↓]def qwg{x y t u}:kO P G o ops false (.call {callee:=.builtin .copy,args:=#[x,y],argTypes:=#[t,u]}) dst ct env U ks Q=kY P G o ops ((yJ (Dof P) U t (ev G env x) (ev G env y)).map fun p=>[p]) none dst ct env ks Q:=by simp only[kO,kY];rw[qgV]
@[simp ↓]def qrm{a t}:kO P G o0 ops d (.call {callee:=.builtin .append,args:=a,argTypes:=t}) dst ct env U ks Q=kS P G o0 ops (sem (Dof P) G env U (.call {callee:=.builtin .append,args:=a,argTypes:=t})) dst ct env ks Q:=qiq rfl
end
section
@[simp]def quX  : AV.atom (.any)=false:=rfl
@[simp]def qqV  : qW (.any)=none:=rfl
@[simp]def qvR  : pl1 (.any)=.any:=rfl
@[simp]def qvL  : pl2 (.any)=.any:=rfl
@[simp]def qsm  : plain (.any)=.any:=rfl
@[simp]def quP  {H}:kZ H (.any)=.any:=rfl
@[simp]def quJ  {H}:Zs H (.any)=.any:=rfl
@[simp]def qwC  {H}:fin H (.any)=.any:=rfl
@[simp]def qtB{b}:AV.atom (.bool b)=true:=rfl
@[simp]def qon{b}:qW (.bool b)=some [.bool b]:=rfl
@[simp]def qt9{b}:pl1 (.bool b)=.bool b:=rfl
@[simp]def qt3{b}:pl2 (.bool b)=.bool b:=rfl
@[simp]def qrd{b}:plain (.bool b)=.bool b:=rfl
@[simp]def qs9{b H}:kZ H (.bool b)=.bool b:=rfl
@[simp]def qs3{b H}:Zs H (.bool b)=.bool b:=rfl
@[simp]def quE{b H}:fin H (.bool b)=.bool b:=rfl
@[simp]def quW{k n}:AV.atom (.int k n)=true:=rfl
@[simp]def qqU{k n}:qW (.int k n)=some [.int k n]:=rfl
@[simp]def qvQ{k n}:pl1 (.int k n)=.int k n:=rfl
@[simp]def qvK{k n}:pl2 (.int k n)=.int k n:=rfl
@[simp]def qsl{k n}:plain (.int k n)=.int k n:=rfl
@[simp]def quO{k n H}:kZ H (.int k n)=.int k n:=rfl
@[simp]def quI{k n H}:Zs H (.int k n)=.int k n:=rfl
@[simp]def qwB{k n H}:fin H (.int k n)=.int k n:=rfl
@[simp]def quT{s:List UInt8}:AV.atom (.str s)=true:=rfl
@[simp]def qqR{s:List UInt8}:qW (.str s)=some [.str s]:=rfl
@[simp]def qvN{s:List UInt8}:pl1 (.str s)=.str s:=rfl
@[simp]def qvH{s:List UInt8}:pl2 (.str s)=.str s:=rfl
@[simp]def qsi{s:List UInt8}:plain (.str s)=.str s:=rfl
@[simp]def quL{s:List UInt8}{H}:kZ H (.str s)=.str s:=rfl
@[simp]def quF{s:List UInt8}{H}:Zs H (.str s)=.str s:=rfl
@[simp]def qwy{s:List UInt8}{H}:fin H (.str s)=.str s:=rfl
@[simp]def qtx  : AV.atom (.nilp)=true:=rfl
@[simp]def qoj  : qW (.nilp)=some [.nilp]:=rfl
@[simp]def qt5  : pl1 (.nilp)=.nilp:=rfl
@[simp]def qtZ  : pl2 (.nilp)=.nilp:=rfl
@[simp]def qq9  : plain (.nilp)=.nilp:=rfl
@[simp]def qs5  {H}:kZ H (.nilp)=.nilp:=rfl
@[simp]def qsZ  {H}:Zs H (.nilp)=.nilp:=rfl
@[simp]def quA  {H}:fin H (.nilp)=.nilp:=rfl
@[simp]def quU{b o}:AV.atom (.ptr b o)=true:=rfl
@[simp]def qqS{b o}:qW (.ptr b o)=some [.ptr b o]:=rfl
@[simp]def qvO{b o}:pl1 (.ptr b o)=.ptr b o:=rfl
@[simp]def qvI{b o}:pl2 (.ptr b o)=.ptr b o:=rfl
@[simp]def qsj{b o}:plain (.ptr b o)=.ptr b o:=rfl
@[simp]def quM{b o H}:kZ H (.ptr b o)=.ptr b o:=rfl
@[simp]def quG{b o H}:Zs H (.ptr b o)=.ptr b o:=rfl
@[simp]def qwz{b o H}:fin H (.ptr b o)=.ptr b o:=rfl
@[simp]def qtw{c}:AV.atom (.rptr c)=true:=rfl
@[simp]def qoi{c}:qW (.rptr c)=some [.rptr c]:=rfl
@[simp]def qt4{c}:pl1 (.rptr c)=.rptr c:=rfl
@[simp]def qtY{c}:pl2 (.rptr c)=.rptr c:=rfl
@[simp]def qq8{c}:plain (.rptr c)=.rptr c:=rfl
@[simp]def qs4{c H}:kZ H (.rptr c)=.rptr c:=rfl
@[simp]def qsY{c H}:Zs H (.rptr c)=.rptr c:=rfl
@[simp]def quy{c H}:fin H (.rptr c)=.rptr c:=rfl
@[simp]def qty  : AV.atom (.nilm)=true:=rfl
@[simp]def qok  : qW (.nilm)=some [.nilm]:=rfl
@[simp]def qt6  : pl1 (.nilm)=.nilm:=rfl
@[simp]def qt0  : pl2 (.nilm)=.nilm:=rfl
@[simp]def qra  : plain (.nilm)=.nilm:=rfl
@[simp]def qs6  {H}:kZ H (.nilm)=.nilm:=rfl
@[simp]def qs0  {H}:Zs H (.nilm)=.nilm:=rfl
@[simp]def quB  {H}:fin H (.nilm)=.nilm:=rfl
@[simp]def quV{b}:AV.atom (.map b)=true:=rfl
@[simp]def qqT{b}:qW (.map b)=some [.map b]:=rfl
@[simp]def qvP{b}:pl1 (.map b)=.map b:=rfl
@[simp]def qvJ{b}:pl2 (.map b)=.map b:=rfl
@[simp]def qsk{b}:plain (.map b)=.map b:=rfl
@[simp]def quN{b H}:kZ H (.map b)=.map b:=rfl
@[simp]def quH{b H}:Zs H (.map b)=.map b:=rfl
@[simp]def qwA{b H}:fin H (.map b)=.map b:=rfl
@[simp]def qtA{b}:AV.atom (.iter b)=true:=rfl
@[simp]def qom{b}:qW (.iter b)=some [.iter b]:=rfl
@[simp]def qt8{b}:pl1 (.iter b)=.iter b:=rfl
@[simp]def qt2{b}:pl2 (.iter b)=.iter b:=rfl
@[simp]def qrc{b}:plain (.iter b)=.iter b:=rfl
@[simp]def qs8{b H}:kZ H (.iter b)=.iter b:=rfl
@[simp]def qs2{b H}:Zs H (.iter b)=.iter b:=rfl
@[simp]def quD{b H}:fin H (.iter b)=.iter b:=rfl
@[simp]def qwM{f a c}:AV.atom (.fn f a c)=true:=rfl
@[simp]def qry{f a c}:qW (.fn f a c)=some [.fn f a c]:=rfl
@[simp]def qw3{f a c}:pl1 (.fn f a c)=.fn f a c:=rfl
@[simp]def qw1{f a c}:pl2 (.fn f a c)=.fn f a c:=rfl
@[simp]def qtX{f a c}:plain (.fn f a c)=.fn f a c:=rfl
@[simp]def qwF{f a c H}:kZ H (.fn f a c)=.fn f a c:=rfl
@[simp]def qwE{f a c H}:Zs H (.fn f a c)=.fn f a c:=rfl
@[simp]def qxq{f a c H}:fin H (.fn f a c)=.fn f a c:=rfl
@[simp]def qtz  : AV.atom (.nilf)=true:=rfl
@[simp]def qol  : qW (.nilf)=some [.nilf]:=rfl
@[simp]def qt7  : pl1 (.nilf)=.nilf:=rfl
@[simp]def qt1  : pl2 (.nilf)=.nilf:=rfl
@[simp]def qrb  : plain (.nilf)=.nilf:=rfl
@[simp]def qs7  {H}:kZ H (.nilf)=.nilf:=rfl
@[simp]def qs1  {H}:Zs H (.nilf)=.nilf:=rfl
@[simp]def quC  {H}:fin H (.nilf)=.nilf:=rfl
@[simp]def qwK{sz rows tok}:AV.atom (.sl sz rows tok)=true:=rfl
@[simp]def qrw{sz rows tok}:qW (.sl sz rows tok)=some [.sl sz rows tok]:=rfl
@[simp]def qpn{sz rows}  : pl1 (.sl sz rows .none)=.sl sz rows .none:=rfl
@[simp]def qpm{sz rows}  : pl2 (.sl sz rows .none)=.sl sz rows .none:=rfl
@[simp]def qlp{sz rows}  : plain (.sl sz rows .none)=.sl sz rows .none:=rfl
@[simp]def qn0{sz rows H}:kZ H (.sl sz rows .none)=.sl sz rows .none:=rfl
@[simp]def qnZ{sz rows H}:Zs H (.sl sz rows .none)=.sl sz rows .none:=rfl
@[simp]def qqg{sz rows H}:fin H (.sl sz rows .none)=.sl sz rows .none:=rfl
@[simp]def qrf{sz rows}  : pl1 (.sl sz rows .nil)=.sl sz rows .nil:=rfl
@[simp]def qre{sz rows}  : pl2 (.sl sz rows .nil)=.sl sz rows .nil:=rfl
@[simp]def qny{sz rows}  : plain (.sl sz rows .nil)=.sl sz rows .nil:=rfl
@[simp]def qqj{sz rows H}:kZ H (.sl sz rows .nil)=.sl sz rows .nil:=rfl
@[simp]def qqi{sz rows H}:Zs H (.sl sz rows .nil)=.sl sz rows .nil:=rfl
@[simp]def qrq{sz rows H}:fin H (.sl sz rows .nil)=.sl sz rows .nil:=rfl
@[simp]def qnB{sz rows}  : pl1 (.sl sz rows .tight)=.sl sz rows .tight:=rfl
@[simp]def qnz{sz rows}  : pl2 (.sl sz rows .tight)=.sl sz rows .tight:=rfl
@[simp]def qke{sz rows}  : plain (.sl sz rows .tight)=.sl sz rows .tight:=rfl
@[simp]def qmj{sz rows H}:kZ H (.sl sz rows .tight)=.sl sz rows .tight:=rfl
@[simp]def qmh{sz rows H}:Zs H (.sl sz rows .tight)=.sl sz rows .tight:=rfl
@[simp]def qnX{sz rows H}:fin H (.sl sz rows .tight)=.sl sz rows .tight:=rfl
@[simp]def qnC{sz rows t k}:pl1 (.sl sz rows (.chain t k))=.sl sz rows .none:=rfl
@[simp]def qnA{sz rows t k}:pl2 (.sl sz rows (.chain t k))=.sl sz rows .none:=rfl
@[simp]def qkf{sz rows t k}:plain (.sl sz rows (.chain t k))=.sl sz rows .none:=rfl
@[simp]def qmk{sz rows t k H}:kZ H (.sl sz rows (.chain t k))=.sl sz rows .none:=rfl
@[simp]def qmi{sz rows t k H}:Zs H (.sl sz rows (.chain t k))=.sl sz rows .none:=rfl
@[simp]def qnY{sz rows t k H}:fin H (.sl sz rows (.chain t k))=.sl sz rows .none:=rfl
@[simp]def qwL{b o l z}:AV.atom (.ms b o l z)=true:=rfl
@[simp]def qrx{b o l z}:qW (.ms b o l z)=some [.ms b o l z]:=rfl
@[simp]def qw2{b o l z}:pl1 (.ms b o l z)=.ms b o l z:=rfl
@[simp]def qw0{b o l z}:pl2 (.ms b o l z)=.ms b o l z:=rfl
@[simp]def qtW{b o l z}:plain (.ms b o l z)=.ms b o l z:=rfl
@[simp]def quY{c}:AV.atom (.agg c)=false:=rfl
@[simp]def quS{c}:AV.atom (.tup c)=false:=rfl
@[simp]def qqW{c}:qW (.agg c)=if c.all AV.atom=true then some c else none:=rfl
@[simp]def qrv{c}:qW (.tup c)=none:=rfl
@[simp]def qvM{c}:pl2 (.agg c)=.agg (c.map pl1):=rfl
@[simp]def qsn{c}:plain (.agg c)=.agg (c.map pl1):=rfl
@[simp]def quK{c H}:Zs H (.agg c)=.agg (c.map (kZ H)):=rfl
@[simp]def qwD{c H}:fin H (.agg c)=.agg (c.map (kZ H)):=rfl
@[simp]def qsh{c}:plain (.tup c)=.tup (c.map pl2):=rfl
@[simp]def qwx{c H}:fin H (.tup c)=.tup (c.map (Zs H)):=rfl
end
attribute [simp] qCh qBd
attribute [simp] zp zS qG qj qs zK ZB qP TD.isSl TD.isPtr TD.isMap TD.isFn
section
variable {A t:List Blk}{k:Nat}{x:Blk}
@[simp]def qwO:(A++t)[A.length]?=t[0]?:=by rw[qyO (qyQ _),qzU]
@[simp]def qwN:(A++t)[A.length+k]?=t[k]?:=by rw[qyO (by omega)];congr 1;try omega
def qa(h:A[k]?=some x)(t):(A++t)[k]?=some x:=by rw[qyT (qyF.1 h).1,h]
def yO{b}(h:A[b]?=some x)(t y):(A++t).set b y=A.set b y++t:=List.set_append_left _ _ (qyF.1 h).1
end
section
variable {P:Program}{G:Glo}{U:St}{f:FuncId}{args:List AV}{r:AV}
def Pure.kO {G : Nat → AV} {fn : Func} {c : Code} (o : Opts) (deep : Bool) (hm : P.follows .mixedOrders = true) (hf : P.funcs[f]? = some fn) (hb : fn.body = some c) (hk : (jC fn.ntmps o c && decide (args.length ≤ fn.ntmps) && fn.name != "runtime.NumGoroutine") = true)
 (h:kC P G o c (ZQ args) ⟨[],[]⟩ [] (qbE P deep fn.results.toList r)):Pure P G f args r:=Pure.vcO o deep hm hf hb hk h
def qCK:=@Pure.kO
def Pure.k {G : Nat → AV} {fn : Func} {c : Code} (hm : P.follows .mixedOrders = true) (hf : P.funcs[f]? = some fn) (hb : fn.body = some c) (hk : (jC fn.ntmps o0 c && decide (args.length ≤ fn.ntmps) && fn.name != "runtime.NumGoroutine") = true)
 (h:kC P G o0 c (ZQ args) ⟨[],[]⟩ [] (qbE P false fn.results.toList r)):Pure P G f args r:=qDb hm hf hb hk h
def qCL:=@Pure.k
def qf.kO {fn c Q} (o) (hm : P.follows .mixedOrders = true) (hf : P.funcs[f]? = some fn) (hb : fn.body = some c) (hk : (jC fn.ntmps o c && decide (args.length ≤ fn.ntmps) && fn.name != "runtime.NumGoroutine") = true)
 (h:kC P G o c (ZQ args) U [] (qb6 P fn.results.toList Q)):qf P G f args U Q:=qf.vcO o hm hf hb hk h
def qCM:=@qf.kO
def qf.k {fn c Q} (hm : P.follows .mixedOrders = true) (hf : P.funcs[f]? = some fn) (hb : fn.body = some c) (hk : (jC fn.ntmps o0 c && decide (args.length ≤ fn.ntmps) && fn.name != "runtime.NumGoroutine") = true)
 (h:kC P G o0 c (ZQ args) U [] (qb6 P fn.results.toList Q)):qf P G f args U Q:=qf.vc hm hf hb hk h
def qCN:=@qf.k
end
section
variable {P:Program}{G:Glo}{o:Opts}{ops:Array Oper}{d:Bool}{g:FuncId}{args args':List AV}{env:Env}{U:St}{ks:List Fr}{Q:Exit->Env->St->Prop}{dst:Option Nat}{ct:Ct}{r:AV}
def qc.call(h:Pure P G g args r)(hno:qx args=true)(hq:kT P G o ops ct (upd env dst r) U ks Q):qc P G o ops d g args U dst ct env ks Q:=qCW h hno hq
def qCO:=@qc.call
def qc.less(h:Pure P G g args' r)(hno:qx args=true)(ha:zq args args')(hq:kT P G o ops ct (upd env dst r) U ks Q):qc P G o ops d g args U dst ct env ks Q:=qCX h hno ha hq
def qc.pure(h:Pure P G g args' r)(hno:qx (args.map plain)=true)(ha:zq (args.map plain) args')(hq:kT P G o ops ct (upd env dst r) U ks Q):qc P G o ops d g args U dst ct env ks Q:=qb.pure h hno ha hq
def qc.lent(h:Pure P G g args' r)(hb:qrt r=true)(ha:zq (args.map (frz U.H 8)) args')(hq:kT P G o ops ct (upd env dst r) U ks Q):qc P G o ops d g args U dst ct env ks Q:=qb.lent h hb ha hq
def qCP:=@qc.lent
def qc.acall{R}(h:qf P G g args U R)(hq:∀v U',R v U'->kT P G o ops ct (upd env dst v) U' ks Q):qc P G o ops false g args U dst ct env ks Q:=qC0 h hq
def qCQ:=@qc.acall
def qQ.list{α:Type}(l:List α)(J:List α->Env->St->Prop){c:Code}(h0:J [] env U)
 (hs:∀d v r env U,l=d++v::r->l[d.length]?=some v->d.length<l.length->J d env U->kC P G o c env U (.loop (J (d++[v]))::ks) Q)
 (he:∀env U,J l env U->kC P G o c env U (.loop (fun _ _=>False)::ks) Q) (hp:jS c=true:=by rfl):qQ P G o c env U ks Q:=qy.list l J h0 hs he hp
def qQ.count(n)(J:Nat->Env->St->Prop){c}(h0:J 0 env U)
 (hs:∀i env U,i<n->J i env U->kC P G o c env U (.loop (J (i+1))::ks) Q)
 (he:∀env U,J n env U->kC P G o c env U (.loop (fun _ _=>False)::ks) Q) (hp:jS c=true:=by rfl):qQ P G o c env U ks Q:=qy.count n J h0 hs he hp
def qQ.gen{c}(I:Nat->Env->St->Prop)(n)(h:I n env U)(hr:∀n env U (R:Env->St->Prop),(∀m env U,m<n->I m env U->R env U)->I n env U->kC P G o c env U (.loop R::ks) Q):qQ P G o c env U ks Q :=
 qC9 I n h fun n env U hI=>hr n env U _ (fun m env U hm hI=>⟨m,hm,hI⟩) hI
def qCR:=@qQ.gen
end
def jr{α:Type}(b sz:Nat)(en:α->List AV)(H:List Blk)(v:AV)(l:List α):Prop :=
 (l=[]/\v=.sl 0 [] .nil)\/(l≠[]/\v=.ms b 0 l.length sz/\H[b]?=some (.cells (l.flatMap en)))
section
variable {α:Type}{b sz:Nat}{en:α->List AV}{H:List Blk}{v:AV}{l m:List α}
def ZW(hl:∀x,(en x).length=sz):∀(l:List α) (t),vg sz l.length (l.flatMap en++t)=l.map en
 |[],t=>by simp[vg]
 | a::r,t=>by
  have h1:((a::r).flatMap en++t).take sz=en a:=by
   rw[qy5,qze,qzL (by rw[hl];exact qyQ _),qyN (by rw[hl];exact qyQ _)]
  have h2:((a::r).flatMap en++t).drop sz=r.flatMap en++t:=by
   rw[qy5,qze,qAT (by rw[hl];exact qyQ _),qzf (by rw[hl];exact qyQ _),qy2]
  show((a::r).flatMap en++t).take sz::vg sz r.length (((a::r).flatMap en++t).drop sz)=en a::r.map en;rw[h1,h2,ZW hl r t]
def jf(hl:∀x,(en x).length=sz):∀(l:List α),(l.flatMap en).length=l.length*sz
 |[]=>by simp
 |a::r=>by rw[qy5,qyK,hl,jf hl r,qyY,qA8];omega
def Zd(hn:∀x,qx (en x)=true){n}:∀(l:List α),(l.map en).map (·.map (frz H n))=l.map en
 |[]=>rfl
 | a::r=>by
  have h:(en a).map (frz H n)=en a:=by
   have:=hn a;generalize en a=c at this
   induction c with
   |nil=>rfl
   | cons x y ih=>
    simp only[qx,qyJ]at this;rw[qyR,qS this.1,ih this.2]
  rw[qyR,qyR,h,Zd hn r]
def jr.frz(h:jr b sz en H v l)(hl:∀x,(en x).length=sz)(hn:∀x,qx (en x)=true)(ha:∀x,(en x).all AV.atom=true)(n):Leq (frz H (n+1) v) (.sl sz (l.map en) .none):=by
 rcases h with⟨rfl,rfl⟩|⟨hne,rfl,hb⟩
 . rw[qS (by simp)];simp
 have hc:=ZW hl l [];rw[qzp]at hc;have hall:((vg sz l.length (l.flatMap en)).map (·.map (Abs.frz H n))).all (·.all AV.atom)=true:=by
  rw[hc,Zd hn,qCc,qyP];intro x _;exact ha x
 unfold Abs.frz;simp only[zb,qy4,if_false,hb,qzX];rw[if_pos ⟨by rw[jf hl];omega,hall⟩,hc,Zd hn];exact qCT _
def jr.append{D T ty e i j tok}(h:jr b sz en H v l)(hi:D ty=some i)(hd:i.d=.sl e)(hj:D e=some j)(hsz:j.size=sz)(h0:0<sz)(hz:j.zero.length=sz)(hbt:j.bytes<=256)
 (hl:∀x,(en x).length=sz) (hlen:l.length+m.length<=549755813888) (hm:m≠[]):
 ∃v' H',zn D ⟨H,T⟩ ty ty v (.sl sz (m.map en) tok)=some (v',⟨H',T⟩)/\jr H.length sz en H' v' (l++m)/\(∀(k) (x),H[k]?=some x->(l=[]\/k≠b)->H'[k]?=some x)/\H'.length=H.length+1:=by
 subst hsz;have hml:m.length≠0:=fun h=>hm (qBF.1 h)
 have hfl:(m.map en).flatten=m.flatMap en:=by rw[qAv]
 rcases h with⟨rfl,rfl⟩|⟨hne,rfl,hb⟩
 . refine⟨.ms H.length 0 m.length j.size,H++[.cells (m.flatMap en)],?_,?_,?_,by simp⟩
   . have:m.length<=549755813888:=by simpa using hlen
     simp[zn,zZ,hi,hd,hj,h0,hz,hbt,KA,qP,hml,this,hm,hfl]
   . right;refine⟨by simpa using hm,by simp⟩
   . intro k x hk _;rw[qyT (qyF.1 hk).1,hk]
 have hfl2:=jf hl l;refine⟨.ms H.length 0 (l.length+m.length) j.size,H.set b .dead++[.cells (l.flatMap en++m.flatMap en)],?_,?_,?_,by simp⟩
 . have ht:(l.flatMap en).take (l.length*j.size)=l.flatMap en:=qyN (by omega);have hle:l.length*j.size<=(l.flatMap en).length:=(by omega);rw[hfl2]at hle;simp[zn,zZ,hi,hd,hj,h0,hz,hbt,KA,qP,hml,hlen,hm,hfl,hb,hfl2,ht]
 . right;refine⟨by simp[hne],by simp⟩
 intro k x hk hkb;have hkb:=hkb.resolve_left hne;rw[qyT (by rw[qzZ];exact(qyF.1 hk).1),qyI (Ne.symm hkb),hk]
def jr.append0{D T ty e i j sz2 tok}(h:jr b sz en H v l)(hi:D ty=some i)(hd:i.d=.sl e)(hj:D e=some j)(hne:l≠[]):
 zn D ⟨H,T⟩ ty ty v (.sl sz2 [] tok)=some (v,⟨H,T⟩):=by
 rcases h with⟨rfl,rfl⟩|⟨hne,rfl,hb⟩
 . exact absurd rfl hne
 simp only[zn,zZ,hi,hd,hj,qP,KA];split<;>simp_all
def jr.frzNo(h:jr b sz en H v l)(hl:∀x,(en x).length=sz)(hn:∀x,qx (en x)=true)(ha:∀x,(en x).all AV.atom=true)(n):zb (Abs.frz H (n+1) v)=true:=by
 rcases h with⟨rfl,rfl⟩|⟨hne,rfl,hb⟩
 . rw[qS (by simp)];simp
 have hc:=ZW hl l [];rw[qzp]at hc;have hall:((vg sz l.length (l.flatMap en)).map (·.map (Abs.frz H n))).all (·.all AV.atom)=true:=by
  rw[hc,Zd hn,qCc,qyP];intro x _;exact ha x
 unfold Abs.frz;simp only[zb,qy4,if_false,hb,qzX];rw[if_pos ⟨by rw[jf hl];omega,hall⟩,hc,Zd hn];simpa using zx hn l
def jr.lt(h:jr b sz en H v l)(hl:l≠[]):b<H.length:=by
 rcases h with⟨h,_⟩|⟨_,_,h⟩
 . exact absurd h hl
 exact(qyF.1 h).1
def jr.keep{H'}(h:jr b sz en H v l)(hk:∀x,l≠[]->H[b]?=some x->H'[b]?=some x):jr b sz en H' v l:=by
 rcases h with h|⟨h1,h2,h3⟩
 . exact .inl h
 exact .inr ⟨h1,h2,hk _ h1 h3⟩
def jr.at(h:jr b sz en H v l)(hl:l≠[]):v=.ms b 0 l.length sz/\H[b]?=some (.cells (l.flatMap en)):=by
 rcases h with⟨h,_⟩|⟨_,h1,h2⟩
 . exact absurd h hl
 exact⟨h1,h2⟩
end
section
variable {α:Type}{b sz:Nat}{en:α->List AV}{H:List Blk}{v:AV}{l m:List α}
def jr.appendK{P G o D T ty e i j tok}(h:jr b sz en H v l)(hi:D ty=some i)(hd:i.d=.sl e)(hj:D e=some j)(hsz:j.size=sz)(h0:0<sz)(hz:j.zero.length=sz)(hbt:j.bytes<=256)
 (hl:∀x,(en x).length=sz) (hlen:l.length+m.length<=549755813888):
 ∃ v' b' H',(∀ops dst ct env ks Q,kY P G o ops ((zn D ⟨H,T⟩ ty ty v (.sl sz (m.map en) tok)).map fun p=>[p]) (qL D ⟨H,T⟩ ty v (.sl sz (m.map en) tok)) dst ct env ks Q=kT P G o ops ct (upd env dst v') ⟨H',T⟩ ks Q) /\
  jr b' sz en H' v' (l++m)/\(b'=b\/b'=H.length)/\(∀(k) (x),H[k]?=some x->(l=[]\/k≠b)->H'[k]?=some x)/\H.length<=H'.length:=by
 by_cases hm:m=[]
 . subst hm;rw[qzp];by_cases hne:l=[]
   . rcases h with⟨rfl,rfl⟩|⟨hne',_⟩
     . refine⟨.sl 0 [] .nil,b,H,fun ops dst ct env ks Q=>?_,.inl ⟨rfl,rfl⟩,.inl rfl,fun k x hk _=>hk,qyQ _⟩;subst hsz;have hX:zn D ⟨H,T⟩ ty ty (.sl 0 [] .nil) (.sl j.size [] tok)=none:=by
        simp[zn,zZ,hi,hd,hj,qP,KA]
       have hA:qL D ⟨H,T⟩ ty (.sl 0 [] .nil) (.sl j.size [] tok)=some (.sl 0 [] .nil,⟨H,T⟩):=by
        simp[qL,hi,hd,hj,zK,h0,hz,hbt]
       rw[qzj,hX,hA];simp
     . exact absurd hne hne'
   refine⟨v,b,H,fun ops dst ct env ks Q=>?_,h,.inl rfl,fun k x hk _=>hk,qyQ _⟩;rw[qzj,h.append0 hi hd hj hne];simp
 obtain⟨v',H',h1,h2,h3,h4⟩:=h.append (T:=T) (tok:=tok) hi hd hj hsz h0 hz hbt hl hlen hm;refine⟨v',H.length,H',fun ops dst ct env ks Q=>?_,h2,.inr rfl,h3,by omega⟩;rw[h1];simp
end
section
variable {A t:List Blk}{b k:Nat}{x y:Blk}
end
def vC{c}:∀(new) (pre) (off),zj (pre++c) (pre.length+off) new=pre++zj c off new
 | new,pre,off=>by
  induction new generalizing c off with
  |nil=>rfl
  | cons v r ih=>
   rw[zj,zj,qzO _ _ (by omega),qzF,qAR];exact ih (off+1)
def wK:∀(new c t),c.length=new.length->zj (c++t) 0 new=new++t:=by
 have gen:∀(new pre c t:List AV),c.length=new.length->zj (pre++(c++t)) pre.length new=pre++(new++t):=by
  intro new
  induction new with
  |nil=>intro pre c t h;have:c=[]:=qBF.1 h;subst this;simp[zj]
  | cons v r ih=>
   intro pre c t h
   cases c with
   |nil=>simp at h
   | cons x c=>
    have:=ih (pre++[v]) c t (by simpa using h);simp only[qze,qAq,qyK,qzd]at this;rw[zj]
    rwa[show(pre++(x::c++t)).set pre.length v=pre++v::(c++t) by simp]
 intro new c t h;simpa using gen new [] c t h
def vX{α:Type}{sz:Nat}{en:α->List AV}(hl:∀x,(en x).length=sz):∀(l:List α) (i:Nat) (v:α),i<l.length->zj (l.flatMap en) (i*sz) (en v)=(l.set i v).flatMap en
 |[],i,v,h=>by simp at h
 | a::r,0,v,_=>by
  rw[qy5,qAl,qB2,qy5];exact wK _ _ _ (by rw[hl,hl])
 | a::r,i+1,v,h=>by
  have h':i<r.length:=by simpa using h
  rw[qy5,qBw,qy5,<- vX hl r i v h',qA8,qAt];have:=vC (c:=r.flatMap en) (en v) (en a) (i*sz)
  rwa[hl]at this
section
variable {P:Program}{G:Glo}{o:Opts}{env:Env}{U:St}{ks:List Fr}{Q:Exit->Env->St->Prop}
def qQ.listR{α:Type}(l:List α)(J:List α->Env->St->Prop){c:Code}(h0:J [] env U)
 (hs:∀d v r env U (R:Env->St->Prop),(∀env U,J (d++[v]) env U->R env U)->l=d++v::r->l[d.length]?=some v->d.length<l.length->J d env U->kC P G o c env U (.loop R::ks) Q)
 (he:∀env U,J l env U->kC P G o c env U (.loop (fun _ _=>False)::ks) Q) (hp:jS c=true:=by rfl):qQ P G o c env U ks Q :=
 qQ.list l J h0 (fun d v r env U h1 h2 h3 hJ=>hs d v r env U _ (fun _ _ h=>h) h1 h2 h3 hJ) he hp
def qC2:=@qQ.listR
end
section
variable {P:Program}{G:Glo}{o:Opts}{env:Env}{U:St}{ks:List Fr}{Q:Exit->Env->St->Prop}
def qir(hX:G.NoX){g:Operand}{pe gb:Nat}{cap:List AV}{x y:Code}(pre:St->Prop)(vals:List AV)(J:Nat->St->Prop)(hg:ev G env g=.fn gb [] cap)(hfw:qu2 P G gb cap pre vals)(hpre:∀i U,J i U->pre U)(hJ:J 0 U)
 (hs:∀i v U,vals[i]?=some v->J i U->kC P G o x (upd env (some pe) v) U [] (fun e env' U'=>e=.normal/\kC P G o y env' U' [] (fun e _ U''=>e=.normal/\J (i+1) U'')))
 (he:∀U,J vals.length U->kX P G o .normal env U ks Q):kC P G o (.rangeFunc g #[pe] x y) env U ks Q:=by
 unfold kC;simp only[vcC,hg];exact⟨pre,vals,J,hX,hfw,hpre,hJ,hs,he⟩
end
def qiG{H b off n c}(h:H[b]?=some (.cells c)):frz H (n+1) (.ptr b off)=.rptr ((c.drop off).map (frz H n)):=by
 rw[frz];simp[zb,h]
def qiF{H n}{s:List UInt8}:frz H n (.str s)=.str s:=qS rfl
def ZK{H n k z}:frz H n (.int k z)=.int k z:=qS rfl
def Vs{H n z}:frz H n (.bool z)=.bool z:=qS rfl
section
variable {P:Program}{G:Glo}{o:Opts}{ops:Array Oper}{ac dp:List Nat}{env:Env}{U:St}{ks:List Fr}{Q:Exit->Env->St->Prop}
def kAl(P:Program)(G:Glo)(o:Opts)(ops:Array Oper)(ac:List Nat)(al:Alts)(env:Env)(U:St)(ks:List Fr)(Q:Exit->Env->St->Prop):Prop:=vl P G o.mu ac ops al env U (fun env U=>itp P G o ks Q .normal env U)
@[simp ↓]def qv8{al}:kT P G o ops (.plan ac (.fork al)) env U ks Q=kAl P G o ops ac al env U ks Q:=by simp only[kT,vcS,kAl]
@[simp ↓]def qwo:kAl P G o ops ac .nil env U ks Q=True:=by simp only[kAl,vl]
@[simp ↓]def qux{k s r}:kAl P G o ops ac (.cons k s r) env U ks Q=(kP P G o ops (ops[k]?) (match ops[k]? with|some u=>qX o.mu ac k u.op != 9|none=>false) (.plan ac s) env U ks Q/\kAl P G o ops ac r env U ks Q):=by
 simp only[kAl,vl,kP,kT];congr 1;split<;>rename_i h<;>simp[h]
end
section
variable {α:Type}{sz t:Nat}{en:α->List AV}{T:List (Option Nat)}{a s m:List α}
end
section
variable {P:Program}{G:Glo}{o:Opts}{env:Env}{U:St}{ks:List Fr}{Q:Exit->Env->St->Prop}
end
section
variable {P:Program}{G:Glo}{U:St}{f:FuncId}{args args':List AV}{Q:AV->St->Prop}
def qf.leq(h:qf P G f args' U Q)(ha:zq args args'):qf P G f args U Q :=
 ⟨h.1,fun w0 ro0 K w vs hw hvs=>h.2 w0 ro0 K w vs hw (zq.rel _ _ ha hvs)⟩
end
section
variable {P:Program}{G:Glo}{o:Opts}{ops:Array Oper}{ct:Ct}{env:Env}{U:St}{ks:List Fr}{Q:Exit->Env->St->Prop}
end
def KK{α:Type}(n sz:Nat)(en:α->List AV)(T:List (Option Nat))(v:AV)(l:List α):Prop :=
 (l=[]/\v=.sl 0 [] .nil)\/(l≠[]/\∃t,n<=t/\v=.sl sz (l.map en) (.chain t l.length)/\T[t]?=some (some l.length))
section
variable {α:Type}{n sz:Nat}{en:α->List AV}{T T':List (Option Nat)}{v:AV}{l m:List α}
def KK.nil:KK n sz en T (.sl 0 [] .nil) ([]:List α):=.inl ⟨rfl,rfl⟩
def KK.ext(h:KK n sz en T v l)(hT:T <+: T'):KK n sz en T' v l:=by
 rcases h with h|⟨h1,t,h2,h3,h4⟩
 . exact .inl h
 obtain⟨u,rfl⟩:=hT;exact .inr ⟨h1,t,h2,h3,by rw[qyT (qyF.1 h4).1,h4]⟩
def qfM{T0 T:List (Option Nat)}(h:T0 <+: T){t}(ht:T0.length<=t)(x:Option Nat):T0 <+: T.set t x:=by
 obtain⟨u,rfl⟩:=h;rw[qzO _ _ ht];exact⟨_,rfl⟩
def KK.append{T0 D ty e i j tok}(h:KK T0.length sz en T v l)(hT:T0 <+: T)(hi:D ty=some i)(hd:i.d=.sl e)(hj:D e=some j)(hsz:j.size=sz)(h0:0<sz)(hz:j.zero.length=sz)(hb:j.bytes<=256)
 (hlen:l.length+m.length<=549755813888) (sz2) (h2:sz2=sz\/m=[]):
 ∃v' T',(∀H,qL D ⟨H,T⟩ ty v (.sl sz2 (m.map en) tok)=some (v',⟨H,T'⟩))/\KK T0.length sz en T' v' (l++m)/\T0 <+: T':=by
 subst hsz;by_cases hm:m=[]
 . subst hm;rw[qzp];refine⟨v,T,fun H=>?_,h,hT⟩;rcases h with⟨rfl,rfl⟩|⟨hne,t,_,rfl,_⟩
   . simp[qL,hi,hd,hj,h0,hz,hb,zK]
   have:l.length<=549755813888:=by simpa using hlen
   simp[qL,hi,hd,hj,h0,hz,hb,zK,this]
 have h2:=h2.resolve_right hm;subst h2;rcases h with⟨rfl,rfl⟩|⟨hne,t,ht,rfl,hk⟩
 . have:m.length<=549755813888:=by simpa using hlen
   refine⟨.sl j.size (m.map en) (.chain T.length m.length),T++[some m.length],fun H=>?_,.inr ⟨by simpa using hm,T.length,?_,by simp⟩,hT.trans (qB0 _ _)⟩
   . simp[qL,hi,hd,hj,h0,hz,hb,zK,this,hm]
   obtain⟨u,rfl⟩:=hT;simp
 refine⟨.sl j.size ((l++m).map en) (.chain t (l.length+m.length)),T.set t (some (l.length+m.length)),fun H=>?_,.inr ⟨by simp[hne],t,ht,by simp,?_⟩,qfM hT ht _⟩
 . simp[qL,hi,hd,hj,h0,hz,hb,zK,hlen,hm,hk]
 rw[qyL (qyF.1 hk).1];simp
end
section
variable {P:Program}{G:Glo}{f:FuncId}{args:List AV}{U:St}{Q:AV->St->Prop}
def qf.up(h:qf P G f args U (fun r τ=>∃w,Leq r w/\Q w τ)):qf P G f args U Q :=
 ⟨h.1,fun w0 ro0 K w vs hw hvs=>(h.2 w0 ro0 K w vs hw hvs).mono fun e w' h=>h.imp (fun⟨v',v,U',K',h1,h2,h3,h4,u,h5,h6⟩=>⟨v',u,U',K',h1,h2,h3,qCS _ _ h5 h4,h6⟩) id⟩
end
section
variable {P:Program}{G:Glo}{o:Opts}{ops:Array Oper}{ct:Ct}{env:Env}{U:St}{ks:List Fr}{Q:Exit->Env->St->Prop}{dst:Option Nat}
end
section
variable {es:List (AV×AV×Nat)}{H:List Blk}{T:List (Option Nat)}{it m clk:Nat}{seen:List Nat}
end
