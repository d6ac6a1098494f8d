import Derived.Test.YtdapogpjhljhaaaGreatDoorCs05
set_option linter.all false
set_option linter.defProp false
namespace Go.Abs
open Go Go.RowKit
inductive Fr where
 |seq (y:Code)
 |block (id:Nat)
 |loop (n:Env->St->Prop)
 |scope
inductive Ct where
 |run (d lw:Bool) (rest:List Oper)
 |plan (ac:List Nat) (s:Sch)
section
variable (P:Program)(G:Glo)(o:Opts)
def itp:List Fr->(Exit->Env->St->Prop)->Exit->Env->St->Prop
 |[],Q=>Q
 |.seq y::ks,Q=>vj (fun env σ=>vcC P G o y env σ (itp ks Q)) (itp ks Q)
 |.block id::ks,Q=>vk id (itp ks Q)
 |.loop n::ks,Q=>vj n (itp ks Q)
 |.scope::ks,Q=>qqO (itp ks Q)
def kC(c:Code)(env:Env)(σ:St)(ks:List Fr)(Q:Exit->Env->St->Prop):Prop:=vcC P G o c env σ (itp P G o ks Q)
def kX(e:Exit)(env:Env)(σ:St)(ks:List Fr)(Q:Exit->Env->St->Prop):Prop:=itp P G o ks Q e env σ
def kT(ops:Array Oper)(ct:Ct)(env:Env)(σ:St)(ks:List Fr)(Q:Exit->Env->St->Prop):Prop:=match ct with
 |.run d lw rest=>vcR P G o.mu ops d lw rest env σ (fun env σ=>itp P G o ks Q .normal env σ)
 |.plan ac s=>vcS P G o.mu ac ops s env σ (fun env σ=>itp P G o ks Q .normal env σ)
def kO(ops:Array Oper)(d:Bool)(op:Op)(dst:Option Nat)(ct:Ct)(env:Env)(σ:St)(ks:List Fr)(Q:Exit->Env->St->Prop):Prop :=
 jO P G o.mu d op env σ (fun v σ'=>kT P G o ops ct (upd env dst v) σ' ks Q)
def kS(ops:Array Oper)(x:Option (AV×St))(dst:Option Nat)(ct:Ct)(env:Env)(ks:List Fr)(Q:Exit->Env->St->Prop):Prop :=
 jL x (fun v σ'=>kT P G o ops ct (upd env dst v) σ' ks Q)
def kY(ops:Array Oper)(l:Option (List (AV×St)))(x:Option (AV×St))(dst:Option Nat)(ct:Ct)(env:Env)(ks:List Fr)(Q:Exit->Env->St->Prop):Prop :=
 vcX l x (fun v σ'=>kT P G o ops ct (upd env dst v) σ' ks Q)
def kFn(ops:Array Oper)(d:Bool)(f:AV)(args:List AV)(σ:St)(dst:Option Nat)(ct:Ct)(env:Env)(ks:List Fr)(Q:Exit->Env->St->Prop):Prop :=
 qyh P G d f args σ (fun v σ'=>kT P G o ops ct (upd env dst v) σ' ks Q)
def qc(ops:Array Oper)(d:Bool)(g:FuncId)(args:List AV)(σ:St)(dst:Option Nat)(ct:Ct)(env:Env)(ks:List Fr)(Q:Exit->Env->St->Prop):Prop :=
 qb P G d g args σ (fun v σ'=>kT P G o ops ct (upd env dst v) σ' ks Q)
def kCd(v:AV)(x y:Code)(env:Env)(σ:St)(ks:List Fr)(Q:Exit->Env->St->Prop):Prop:=match v with
 |.bool b=>(b=true->kC P G o x env σ ks Q)/\(b=false->kC P G o y env σ ks Q)
 |_=>False
def kGv(ops:Array Oper)(d:Bool)(t:Nat)(v:AV)(b:Bool)(op:Op)(dst:Option Nat)(ct:Ct)(env:Env)(σ:St)(ks:List Fr)(Q:Exit->Env->St->Prop):Prop:=match v with
 |.bool c=>((c==b)=true->kO P G o ops d op dst ct (upd env (some t) (.bool b)) σ ks Q)/\((c==b)=false->kT P G o ops ct (upd (upd env (some t) (.bool (!b))) dst (.tup [])) σ ks Q)
 |.tup []=>kT P G o ops ct (upd env dst (.tup [])) σ ks Q
 |_=>False
def kG(ops:Array Oper)(d:Bool)(x:Option Nat)(b:Bool)(op:Op)(dst:Option Nat)(ct:Ct)(env:Env)(σ:St)(ks:List Fr)(Q:Exit->Env->St->Prop):Prop:=match x with
 |some t=>kGv P G o ops d t (env t) b op dst ct env σ ks Q
 |none=>kT P G o ops ct (upd env dst (.tup [])) σ ks Q
def qF(c:Code)(env:Env)(σ:St)(ks:List Fr)(Q:Exit->Env->St->Prop):Prop:=qK P G o c env σ (itp P G o ks Q)
def kP(ops:Array Oper)(x:Option Oper)(d:Bool)(ct:Ct)(env:Env)(σ:St)(ks:List Fr)(Q:Exit->Env->St->Prop):Prop:=match x with
 |some u=>vcG P G o.mu d ops u env σ (fun env v σ'=>kT P G o ops ct (upd env u.dst v) σ' ks Q)
 |none=>False
end
section
variable {P:Program}{G:Glo}{o:Opts}{env:Env}{σ:St}{ks:List Fr}{Q:Exit->Env->St->Prop}
@[simp ↓]def qy1:kC P G o .skip env σ ks Q=kX P G o .normal env σ ks Q:=by simp only[kC,kX,vcC]
@[simp ↓]def qz5:kC P G o .ret env σ ks Q=kX P G o .ret env σ ks Q:=by simp only[kC,kX,vcC]
@[simp ↓]def qy3{id}:kC P G o (.exit id) env σ ks Q=kX P G o (.exit id) env σ ks Q:=by simp only[kC,kX,vcC]
@[simp ↓]def qz4{x y}:kC P G o (.seq x y) env σ ks Q=kC P G o x env σ (.seq y::ks) Q:=by simp only[kC,vcC,itp]
@[simp ↓]def qxr{id x}:kC P G o (.block id x) env σ ks Q=kC P G o x env σ (.block id::ks) Q:=by simp only[kC,vcC,itp]
@[simp ↓]def qxn{x}:kC P G o (.scope x) env σ ks Q=kC P G o x env σ (.scope::ks) Q:=by simp only[kC,vcC,itp]
@[simp ↓]def qxo{l}:kC P G o (.label l) env σ ks Q=kX P G o .normal env σ ks Q:=by simp only[kC,kX,vcC]
@[simp ↓]def qqd:kX P G o .ret env σ (.scope::ks) Q=kX P G o .ret env σ ks Q:=jb rfl
@[simp ↓]def qy4{c x y}:kC P G o (.cond c x y) env σ ks Q=kCd P G o (ev G env c) x y env σ ks Q:=by
 simp only[kC,vcC,kCd,qhq];split<;>simp_all[]
@[simp ↓]def qy2{x}:kC P G o (.loop x) env σ ks Q=qF P G o x env σ ks Q:=by simp only[kC,qF,vcC]<;>rfl
@[simp ↓]def qvD{id l}:kC P G o (.region id l.toArray false) env σ ks Q=kT P G o l.toArray (.run false (o.lw.contains id) l) env σ ks Q:=by simp only[kC,kT,vcC]
@[simp ↓ high]def qt1{id l}:kC P G o0 (.region id l.toArray false) env σ ks Q=kT P G o0 l.toArray (.run false false l) env σ ks Q:=by simp only[kC,kT,vcC];rfl
@[simp ↓ high]def qt0{m x y id l}:kC P G ⟨m,x,[],y⟩ (.region id l.toArray false) env σ ks Q=kT P G ⟨m,x,[],y⟩ l.toArray (.run false false l) env σ ks Q:=by simp only[kC,kT,vcC];rfl
@[simp ↓ high]def qxp{m y id l}:kC P G ⟨m,[],[],y⟩ (.region id l.toArray true) env σ ks Q=kT P G ⟨m,[],[],y⟩ l.toArray (.run true false l) env σ ks Q:=by simp[kC,kT,vcC]
@[simp ↓]def qxq{id l}:kC P G o0 (.region id l.toArray true) env σ ks Q=kT P G o0 l.toArray (.run true false l) env σ ks Q:=by simp[kC,kT,vcC,o0]
def wd{id l}(h:o.fk.lookup id=none):kC P G o (.region id l.toArray true) env σ ks Q=kT P G o l.toArray (.run true (o.lw.contains id) l) env σ ks Q:=by simp only[kC,kT,vcC,h]
def qG{id}{l:List Oper}{s ac}(h:o.fk.lookup id=some (s,ac)):kC P G o (.region id l.toArray true) env σ ks Q=kT P G o l.toArray (.plan ac s) env σ ks Q:=by simp only[kC,kT,vcC,h]
@[simp]def qxl{x y}:kCd P G o (.bool true) x y env σ ks Q=kC P G o x env σ ks Q:=by simp[kCd]
@[simp]def qvC{x y}:kCd P G o (.bool false) x y env σ ks Q=kC P G o y env σ ks Q:=by simp[kCd]
@[simp low]def qxm{b x y}:kCd P G o (.bool b) x y env σ ks Q=((b=true->kC P G o x env σ ks Q)/\(b=false->kC P G o y env σ ks Q)):=jb rfl
@[simp ↓]def qzQ{e}:kX P G o e env σ [] Q=Q e env σ:=jb rfl
@[simp ↓]def qzP{y}:kX P G o .normal env σ (.seq y::ks) Q=kC P G o y env σ ks Q:=jb rfl
@[simp ↓]def qtU{y}:kX P G o .ret env σ (.seq y::ks) Q=kX P G o .ret env σ ks Q:=jb rfl
@[simp ↓]def qsB{y i}:kX P G o (.exit i) env σ (.seq y::ks) Q=kX P G o (.exit i) env σ ks Q:=jb rfl
@[simp ↓]def qxb{id}:kX P G o .normal env σ (.block id::ks) Q=kX P G o .normal env σ ks Q:=jb rfl
@[simp ↓]def qqf{id}:kX P G o .ret env σ (.block id::ks) Q=kX P G o .ret env σ ks Q:=jb rfl
@[simp ↓]def qoq{id i}:kX P G o (.exit i) env σ (.block id::ks) Q=if i=id then kX P G o .normal env σ ks Q else kX P G o (.exit i) env σ ks Q:=by
 simp only[kX,itp,vk]
@[simp ↓]def qyO{n}:kX P G o .normal env σ (.loop n::ks) Q=n env σ:=jb rfl
@[simp ↓]def qsC{n}:kX P G o .ret env σ (.loop n::ks) Q=kX P G o .ret env σ ks Q:=jb rfl
@[simp ↓]def qqe{n i}:kX P G o (.exit i) env σ (.loop n::ks) Q=kX P G o (.exit i) env σ ks Q:=jb rfl
end
section
variable {P:Program}{G:Glo}{o:Opts}{ops:Array Oper}{d lw:Bool}{env:Env}{σ:St}{ks:List Fr}{Q:Exit->Env->St->Prop}{dst:Option Nat}{op:Op}{ct:Ct}
@[simp ↓]def qzS:kT P G o ops (.run d lw []) env σ ks Q=kX P G o .normal env σ ks Q:=jb rfl
@[simp ↓]def qzR{type pos}{after:Array Edge}{rest}:
 kT P G o ops (.run d false ({dst:=dst,op:=op,type:=type,pos:=pos,after:=after,guard:=none}::rest)) env σ ks Q=kO P G o ops d op dst (.run d false rest) env σ ks Q:=by
 simp only[kT,kO];rw[qq7]
@[simp ↓]def qxc{type pos}{after:Array Edge}{rest j b}:
 kT P G o ops (.run d false ({dst:=dst,op:=op,type:=type,pos:=pos,after:=after,guard:=some (j,b)}::rest)) env σ ks Q=kG P G o ops d ((ops[j]?).bind (·.dst)) b op dst (.run d false rest) env σ ks Q:=by
 simp only[kT];rw[qjc];unfold v6 kG;generalize (ops[j]?).bind (·.dst)=x
 cases x with
 |none=>rfl
 | some t=>
  simp only[kGv];generalize env t=v
  cases v with
  |tup vs=>cases vs<;>rfl
  |_=>rfl
@[simp ↓]def qyR{ac}:kT P G o ops (.plan ac .done) env σ ks Q=kX P G o .normal env σ ks Q:=by simp only[kT,vcS,kX]
@[simp ↓]def qyP{ac dp k s}:kT P G o ops (.plan ac (.step k dp s)) env σ ks Q=kP P G o ops (ops[k]?) (match ops[k]? with|some u=>qX o.mu ac k u.op != 9|none=>false) (.plan ac s) env σ ks Q:=by
 simp only[kT,vcS,kP];split<;>rename_i h<;>simp[h]
@[simp]def qzT{type pos}{after:Array Edge}:kP P G o ops (some {dst:=dst,op:=op,type:=type,pos:=pos,after:=after,guard:=none}) d ct env σ ks Q=kO P G o ops d op dst ct env σ ks Q:=by
 simp only[kP,vcG,kO]
@[simp]def qy0{t b}:kG P G o ops d (some t) b op dst ct env σ ks Q=kGv P G o ops d t (env t) b op dst ct env σ ks Q:=jb rfl
@[simp]def qyZ{t b}:kGv P G o ops d t (.tup []) b op dst ct env σ ks Q=kT P G o ops ct (upd env dst (.tup [])) σ ks Q:=jb rfl
@[simp]def qzZ{t}:kGv P G o ops d t (.bool true) true op dst ct env σ ks Q=kO P G o ops d op dst ct (upd env (some t) (.bool true)) σ ks Q:=by simp[kGv]
@[simp]def qz2{t}:kGv P G o ops d t (.bool false) false op dst ct env σ ks Q=kO P G o ops d op dst ct (upd env (some t) (.bool false)) σ ks Q:=by simp[kGv]
@[simp]def qz0{t}:kGv P G o ops d t (.bool true) false op dst ct env σ ks Q=kT P G o ops ct (upd (upd env (some t) (.bool true)) dst (.tup [])) σ ks Q:=by simp[kGv]
@[simp]def qz1{t}:kGv P G o ops d t (.bool false) true op dst ct env σ ks Q=kT P G o ops ct (upd (upd env (some t) (.bool false)) dst (.tup [])) σ ks Q:=by simp[kGv]
@[simp low]def qxk{t c}:kGv P G o ops d t (.bool c) true op dst ct env σ ks Q=((c=true->kO P G o ops d op dst ct (upd env (some t) (.bool true)) σ ks Q)/\(c=false->kT P G o ops ct (upd (upd env (some t) (.bool false)) dst (.tup [])) σ ks Q)):=by simp[kGv]
@[simp low]def qvB{t c}:kGv P G o ops d t (.bool c) false op dst ct env σ ks Q=((c=false->kO P G o ops d op dst ct (upd env (some t) (.bool false)) σ ks Q)/\(c=true->kT P G o ops ct (upd (upd env (some t) (.bool true)) dst (.tup [])) σ ks Q)):=by simp[kGv]
@[simp]def qyS{v σ}:kS P G o ops (some (v,σ)) dst ct env ks Q=kT P G o ops ct (upd env dst v) σ ks Q:=jb rfl
@[simp]def qyN{x}:kY P G o ops none x dst ct env ks Q=kS P G o ops x dst ct env ks Q:=by simp only[kY,kS];rw[qah]
@[simp]def qzO{v τ x}:kY P G o ops (some [(v,τ)]) x dst ct env ks Q=kT P G o ops ct (upd env dst v) τ ks Q:=by simp only[kY];rw[qq5]
@[simp]def qzN{v v' τ a x}:kY P G o ops (some [(v,τ),(v',a)]) x dst ct env ks Q=(kT P G o ops ct (upd env dst v) τ ks Q/\kT P G o ops ct (upd env dst v') a ks Q):=by simp only[kY];rw[qq4]
@[simp]def qz3{g first args cap}:kFn P G o ops d (.fn g first cap) args σ dst ct env ks Q=qc P G o ops d g (kq first args cap) σ dst ct env ks Q:=jb rfl
@[simp ↓]def qyY{f a t}:kO P G o ops d (.call {callee:=.value f,args:=a,argTypes:=t}) dst ct env σ ks Q=kFn P G o ops d (ev G env f) (qbJ G env a.toList) σ dst ct env ks Q:=jb rfl
@[simp ↓]def qyV{x}:kO P G o ops d (.move x) dst ct env σ ks Q=kS P G o ops (sem (Dof P) G env σ (.move x)) dst ct env ks Q:=by simp only[kO,kS];rw[qjf]
@[simp ↓]def qvA{x}:kO P G o ops d (.assign x) dst ct env σ ks Q=kS P G o ops (sem (Dof P) G env σ (.assign x)) dst ct env ks Q:=by simp only[kO,kS];rw[qdY]
@[simp ↓]def qyU{a b c}:kO P G o ops d (.pick a b c) dst ct env σ ks Q=kS P G o ops (sem (Dof P) G env σ (.pick a b c)) dst ct env ks Q:=by simp only[kO,kS];rw[qje]
@[simp ↓]def qxj{t}:kO P G o ops d (.alloc t) dst ct env σ ks Q=kS P G o ops (sem (Dof P) G env σ (.alloc t)) dst ct env ks Q:=by simp only[kO,kS];rw[qhp]
@[simp ↓]def qzY{t x}:kO P G o ops d (.box t x) dst ct env σ ks Q=kS P G o ops (sem (Dof P) G env σ (.box t x)) dst ct env ks Q:=by simp only[kO,kS];rw[qmR]
@[simp ↓]def qxh{t p}:kO P G o ops d (.build t p) dst ct env σ ks Q=kS P G o ops (sem (Dof P) G env σ (.build t p)) dst ct env ks Q:=by simp only[kO,kS];rw[qhn]
@[simp ↓]def qou{t n p}:kO P G o ops d (.buildSlice t n p) dst ct env σ ks Q=kS P G o ops (sem (Dof P) G env σ (.buildSlice t n p)) dst ct env ks Q:=by simp only[kO,kS];rw[Kl]
@[simp ↓]def qyW{t x}:kO P G o ops d (.load t x) dst ct env σ ks Q=kS P G o ops (sem (Dof P) G env σ (.load t x)) dst ct env ks Q:=by simp only[kO,kS];rw[qjg]
@[simp ↓]def qxd{t x y}:kO P G o ops d (.store t x y) dst ct env σ ks Q=kS P G o ops (sem (Dof P) G env σ (.store t x y)) dst ct env ks Q:=by simp only[kO,kS];rw[qhj]
@[simp ↓]def qsD{x}:kO P G o ops d (.nilCheck x) dst ct env σ ks Q=kS P G o ops (sem (Dof P) G env σ (.nilCheck x)) dst ct env ks Q:=by simp only[kO,kS];rw[qak]
@[simp ↓]def qxi{b t u x y}(h:b≠.eql)(h':b≠.neq):kO P G o ops d (.binOp b t x y u) dst ct env σ ks Q=kS P G o ops (sem (Dof P) G env σ (.binOp b t x y u)) dst ct env ks Q:=by simp only[kO,kS];rw[qho h h']
@[simp ↓]def qzX{t u x y}:kO P G o ops d (.binOp .eql t x y u) dst ct env σ ks Q=kY P G o ops (qkD d false (Dof P) t (ev G env x) (ev G env y) σ) (sem (Dof P) G env σ (.binOp .eql t x y u)) dst ct env ks Q:=by simp only[kO,kY];rw[qmP]
@[simp ↓]def qzU{t u x y}:kO P G o ops d (.binOp .neq t x y u) dst ct env σ ks Q=kY P G o ops (qkD d true (Dof P) t (ev G env x) (ev G env y) σ) (sem (Dof P) G env σ (.binOp .neq t x y u)) dst ct env ks Q:=by simp only[kO,kY];rw[qmM]
@[simp ↓]def qyT{u t x}:kO P G o ops d (.unOp u t x) dst ct env σ ks Q=kS P G o ops (sem (Dof P) G env σ (.unOp u t x)) dst ct env ks Q:=by simp only[kO,kS];rw[qjd]
@[simp ↓]def qtX{t u x}:kO P G o ops d (.convert t u x) dst ct env σ ks Q=kS P G o ops (sem (Dof P) G env σ (.convert t u x)) dst ct env ks Q:=by simp only[kO,kS];rw[qbX]
@[simp ↓]def qsE{f:Fn}{a b}:kO P G o ops d (.makeFunc f a b) dst ct env σ ks Q=kS P G o ops (sem (Dof P) G env σ (.makeFunc f a b)) dst ct env ks Q:=by simp only[kO,kS];rw[qal]
@[simp ↓]def qtV{t r}:kO P G o ops d (.makeMap t r) dst ct env σ ks Q=kS P G o ops (sem (Dof P) G env σ (.makeMap t r)) dst ct env ks Q:=by simp only[kO,kS];rw[qbV]
def Jf{t x y}(a:o.mu=false):kO P G o ops d (.makeSlice t x y) dst ct env σ ks Q=kS P G o ops (sem (Dof P) G env σ (.makeSlice t x y)) dst ct env ks Q:=by
 simp only[kO,kS];cases d
 . rw[Zk,a,qkI,qah]
 rw[Kk]
@[simp ↓]def qos{u lw v t x y}:kO P G ⟨false,u,lw,v⟩ ops d (.makeSlice t x y) dst ct env σ ks Q=kS P G ⟨false,u,lw,v⟩ ops (sem (Dof P) G env σ (.makeSlice t x y)) dst ct env ks Q:=Jf rfl
@[simp ↓]def qot{t x y}:kO P G o0 ops d (.makeSlice t x y) dst ct env σ ks Q=kS P G o0 ops (sem (Dof P) G env σ (.makeSlice t x y)) dst ct env ks Q:=Jf rfl
@[simp ↓]def qor{u lw v t x y}:kO P G ⟨true,u,lw,v⟩ ops false (.makeSlice t x y) dst ct env σ ks Q=kY P G ⟨true,u,lw,v⟩ ops (mkX (Dof P) true σ t (ev G env x) (ev G env y)) (sem (Dof P) G env σ (.makeSlice t x y)) dst ct env ks Q:=by simp only[kO,kY];rw[Zk]
@[simp ↓]def qxe{t x lo hi mx}:kO P G o ops d (.slice t x lo hi mx) dst ct env σ ks Q=kS P G o ops (sem (Dof P) G env σ (.slice t x lo hi mx)) dst ct env ks Q:=by simp only[kO,kS];rw[qhk]
@[simp ↓]def qqi{t x i}:kO P G o ops d (.fieldAddr t x i) dst ct env σ ks Q=kS P G o ops (sem (Dof P) G env σ (.fieldAddr t x i)) dst ct env ks Q:=by simp only[kO,kS];rw[W2]
@[simp ↓]def qxg{t x i}:kO P G o ops d (.field t x i) dst ct env σ ks Q=kS P G o ops (sem (Dof P) G env σ (.field t x i)) dst ct env ks Q:=by simp only[kO,kS];rw[qhm]
@[simp ↓]def qqh{t x y}:kO P G o ops d (.indexAddr t x y) dst ct env σ ks Q=kS P G o ops (sem (Dof P) G env σ (.indexAddr t x y)) dst ct env ks Q:=by simp only[kO,kS];rw[W1]
@[simp ↓]def qxf{t x y}:kO P G o ops d (.index t x y) dst ct env σ ks Q=kS P G o ops (sem (Dof P) G env σ (.index t x y)) dst ct env ks Q:=by simp only[kO,kS];rw[qhl]
@[simp ↓]def qvz{t x y k}:kO P G o ops d (.lookup t x y k) dst ct env σ ks Q=kS P G o ops (sem (Dof P) G env σ (.lookup t x y k)) dst ct env ks Q:=by simp only[kO,kS];rw[qdX]
@[simp ↓]def qqg{t x y z}:kO P G o ops d (.mapUpdate t x y z) dst ct env σ ks Q=kS P G o ops (sem (Dof P) G env σ (.mapUpdate t x y z)) dst ct env ks Q:=by simp only[kO,kS];rw[W0]
@[simp ↓]def qtW{x i}:kO P G o ops d (.extract x i) dst ct env σ ks Q=kS P G o ops (sem (Dof P) G env σ (.extract x i)) dst ct env ks Q:=by simp only[kO,kS];rw[qbW]
@[simp ↓]def qzW{a t}:kO P G o ops d (.call {callee:=.builtin .len,args:=a,argTypes:=t}) dst ct env σ ks Q=kS P G o ops (sem (Dof P) G env σ (.call {callee:=.builtin .len,args:=a,argTypes:=t})) dst ct env ks Q:=by simp only[kO,kS];rw[qmO]
@[simp ↓]def qzV{a t}:kO P G o ops d (.call {callee:=.builtin .min,args:=a,argTypes:=t}) dst ct env σ ks Q=kS P G o ops (sem (Dof P) G env σ (.call {callee:=.builtin .min,args:=a,argTypes:=t})) dst ct env ks Q:=by simp only[kO,kS];rw[qmN]
@[simp ↓]def qkY{a t}(b:o.mu=false):kO P G o ops d (.call {callee:=.builtin .append,args:=a,argTypes:=t}) dst ct env σ ks Q=kS P G o ops (sem (Dof P) G env σ (.call {callee:=.builtin .append,args:=a,argTypes:=t})) dst ct env ks Q:=by simp only[kO,kS,b];rw[qdZ]
@[simp ↓]def qtY{s x t u}(a:o.mu=true):kO P G o ops false (.call {callee:=.builtin .append,args:=#[s,x],argTypes:=#[t,u]}) dst ct env σ ks Q=kY P G o ops ((qY (Dof P) σ t u (ev G env s) (ev G env x)).map fun p=>[p]) (sem (Dof P) G env σ (.call {callee:=.builtin .append,args:=#[s,x],argTypes:=#[t,u]})) dst ct env ks Q:=by simp only[kO,kY,a];rw[qbY]
@[simp ↓]def qyX{x y t u}:kO P G o ops false (.call {callee:=.builtin .copy,args:=#[x,y],argTypes:=#[t,u]}) dst ct env σ ks Q=kY P G o ops ((kh (Dof P) σ t (ev G env x) (ev G env y)).map fun p=>[p]) none dst ct env ks Q:=by simp only[kO,kY];rw[qjh]
@[simp ↓]def qtZ{a t}:kO P G o0 ops d (.call {callee:=.builtin .append,args:=a,argTypes:=t}) dst ct env σ ks Q=kS P G o0 ops (sem (Dof P) G env σ (.call {callee:=.builtin .append,args:=a,argTypes:=t})) dst ct env ks Q:=qkY rfl
end
section
@[simp]def qxS  : AV.atom (.any)=false:=rfl
@[simp]def qtu  : qL (.any)=none:=rfl
@[simp]def qyG  : pl1 (.any)=.any:=rfl
@[simp]def qyA  : pl2 (.any)=.any:=rfl
@[simp]def qu4  : plain (.any)=.any:=rfl
@[simp]def qxK  {H}:kw H (.any)=.any:=rfl
@[simp]def qxE  {H}:w9 H (.any)=.any:=rfl
@[simp]def qzi  {H}:fin H (.any)=.any:=rfl
@[simp]def qwp{b}:AV.atom (.bool b)=true:=rfl
@[simp]def qqM{b}:qL (.bool b)=some [.bool b]:=rfl
@[simp]def qw6{b}:pl1 (.bool b)=.bool b:=rfl
@[simp]def qw0{b}:pl2 (.bool b)=.bool b:=rfl
@[simp]def qtQ{b}:plain (.bool b)=.bool b:=rfl
@[simp]def qv3{b H}:kw H (.bool b)=.bool b:=rfl
@[simp]def qvX{b H}:w9 H (.bool b)=.bool b:=rfl
@[simp]def qxz{b H}:fin H (.bool b)=.bool b:=rfl
@[simp]def qxR{k n}:AV.atom (.int k n)=true:=rfl
@[simp]def qtt{k n}:qL (.int k n)=some [.int k n]:=rfl
@[simp]def qyF{k n}:pl1 (.int k n)=.int k n:=rfl
@[simp]def qyz{k n}:pl2 (.int k n)=.int k n:=rfl
@[simp]def qu3{k n}:plain (.int k n)=.int k n:=rfl
@[simp]def qxJ{k n H}:kw H (.int k n)=.int k n:=rfl
@[simp]def qxD{k n H}:w9 H (.int k n)=.int k n:=rfl
@[simp]def qzh{k n H}:fin H (.int k n)=.int k n:=rfl
@[simp]def qxO{s:List UInt8}:AV.atom (.str s)=true:=rfl
@[simp]def qtq{s:List UInt8}:qL (.str s)=some [.str s]:=rfl
@[simp]def qyC{s:List UInt8}:pl1 (.str s)=.str s:=rfl
@[simp]def qyw{s:List UInt8}:pl2 (.str s)=.str s:=rfl
@[simp]def qu0{s:List UInt8}:plain (.str s)=.str s:=rfl
@[simp]def qxG{s:List UInt8}{H}:kw H (.str s)=.str s:=rfl
@[simp]def qxA{s:List UInt8}{H}:w9 H (.str s)=.str s:=rfl
@[simp]def qze{s:List UInt8}{H}:fin H (.str s)=.str s:=rfl
@[simp]def qwl  : AV.atom (.nilp)=true:=rfl
@[simp]def qqI  : qL (.nilp)=some [.nilp]:=rfl
@[simp]def qw2  : pl1 (.nilp)=.nilp:=rfl
@[simp]def qwW  : pl2 (.nilp)=.nilp:=rfl
@[simp]def qtM  : plain (.nilp)=.nilp:=rfl
@[simp]def qvZ  {H}:kw H (.nilp)=.nilp:=rfl
@[simp]def qvT  {H}:w9 H (.nilp)=.nilp:=rfl
@[simp]def qxv  {H}:fin H (.nilp)=.nilp:=rfl
@[simp]def qxP{b o}:AV.atom (.ptr b o)=true:=rfl
@[simp]def qtr{b o}:qL (.ptr b o)=some [.ptr b o]:=rfl
@[simp]def qyD{b o}:pl1 (.ptr b o)=.ptr b o:=rfl
@[simp]def qyx{b o}:pl2 (.ptr b o)=.ptr b o:=rfl
@[simp]def qu1{b o}:plain (.ptr b o)=.ptr b o:=rfl
@[simp]def qxH{b o H}:kw H (.ptr b o)=.ptr b o:=rfl
@[simp]def qxB{b o H}:w9 H (.ptr b o)=.ptr b o:=rfl
@[simp]def qzf{b o H}:fin H (.ptr b o)=.ptr b o:=rfl
@[simp]def qwk{c}:AV.atom (.rptr c)=true:=rfl
@[simp]def qqH{c}:qL (.rptr c)=some [.rptr c]:=rfl
@[simp]def qw1{c}:pl1 (.rptr c)=.rptr c:=rfl
@[simp]def qwV{c}:pl2 (.rptr c)=.rptr c:=rfl
@[simp]def qtL{c}:plain (.rptr c)=.rptr c:=rfl
@[simp]def qvY{c H}:kw H (.rptr c)=.rptr c:=rfl
@[simp]def qvR{c H}:w9 H (.rptr c)=.rptr c:=rfl
@[simp]def qxt{c H}:fin H (.rptr c)=.rptr c:=rfl
@[simp]def qwm  : AV.atom (.nilm)=true:=rfl
@[simp]def qqJ  : qL (.nilm)=some [.nilm]:=rfl
@[simp]def qw3  : pl1 (.nilm)=.nilm:=rfl
@[simp]def qwX  : pl2 (.nilm)=.nilm:=rfl
@[simp]def qtN  : plain (.nilm)=.nilm:=rfl
@[simp]def qv0  {H}:kw H (.nilm)=.nilm:=rfl
@[simp]def qvU  {H}:w9 H (.nilm)=.nilm:=rfl
@[simp]def qxw  {H}:fin H (.nilm)=.nilm:=rfl
@[simp]def qxQ{b}:AV.atom (.map b)=true:=rfl
@[simp]def qts{b}:qL (.map b)=some [.map b]:=rfl
@[simp]def qyE{b}:pl1 (.map b)=.map b:=rfl
@[simp]def qyy{b}:pl2 (.map b)=.map b:=rfl
@[simp]def qu2{b}:plain (.map b)=.map b:=rfl
@[simp]def qxI{b H}:kw H (.map b)=.map b:=rfl
@[simp]def qxC{b H}:w9 H (.map b)=.map b:=rfl
@[simp]def qzg{b H}:fin H (.map b)=.map b:=rfl
@[simp]def qwo{b}:AV.atom (.iter b)=true:=rfl
@[simp]def qqL{b}:qL (.iter b)=some [.iter b]:=rfl
@[simp]def qw5{b}:pl1 (.iter b)=.iter b:=rfl
@[simp]def qwZ{b}:pl2 (.iter b)=.iter b:=rfl
@[simp]def qtP{b}:plain (.iter b)=.iter b:=rfl
@[simp]def qv2{b H}:kw H (.iter b)=.iter b:=rfl
@[simp]def qvW{b H}:w9 H (.iter b)=.iter b:=rfl
@[simp]def qxy{b H}:fin H (.iter b)=.iter b:=rfl
@[simp]def qzr{f a c}:AV.atom (.fn f a c)=true:=rfl
@[simp]def qt9{f a c}:qL (.fn f a c)=some [.fn f a c]:=rfl
@[simp]def qzK{f a c}:pl1 (.fn f a c)=.fn f a c:=rfl
@[simp]def qzI{f a c}:pl2 (.fn f a c)=.fn f a c:=rfl
@[simp]def qwU{f a c}:plain (.fn f a c)=.fn f a c:=rfl
@[simp]def qzl{f a c H}:kw H (.fn f a c)=.fn f a c:=rfl
@[simp]def qzk{f a c H}:w9 H (.fn f a c)=.fn f a c:=rfl
@[simp]def qz7{f a c H}:fin H (.fn f a c)=.fn f a c:=rfl
@[simp]def qwn  : AV.atom (.nilf)=true:=rfl
@[simp]def qqK  : qL (.nilf)=some [.nilf]:=rfl
@[simp]def qw4  : pl1 (.nilf)=.nilf:=rfl
@[simp]def qwY  : pl2 (.nilf)=.nilf:=rfl
@[simp]def qtO  : plain (.nilf)=.nilf:=rfl
@[simp]def qv1  {H}:kw H (.nilf)=.nilf:=rfl
@[simp]def qvV  {H}:w9 H (.nilf)=.nilf:=rfl
@[simp]def qxx  {H}:fin H (.nilf)=.nilf:=rfl
@[simp]def qzp{sz rows tok}:AV.atom (.sl sz rows tok)=true:=rfl
@[simp]def qt7{sz rows tok}:qL (.sl sz rows tok)=some [.sl sz rows tok]:=rfl
@[simp]def qr5{sz rows}  : pl1 (.sl sz rows .none)=.sl sz rows .none:=rfl
@[simp]def qr4{sz rows}  : pl2 (.sl sz rows .none)=.sl sz rows .none:=rfl
@[simp]def qn2{sz rows}  : plain (.sl sz rows .none)=.sl sz rows .none:=rfl
@[simp]def qqs{sz rows H}:kw H (.sl sz rows .none)=.sl sz rows .none:=rfl
@[simp]def qqr{sz rows H}:w9 H (.sl sz rows .none)=.sl sz rows .none:=rfl
@[simp]def qsW{sz rows H}:fin H (.sl sz rows .none)=.sl sz rows .none:=rfl
@[simp]def qtS{sz rows}  : pl1 (.sl sz rows .nil)=.sl sz rows .nil:=rfl
@[simp]def qtR{sz rows}  : pl2 (.sl sz rows .nil)=.sl sz rows .nil:=rfl
@[simp]def qpZ{sz rows}  : plain (.sl sz rows .nil)=.sl sz rows .nil:=rfl
@[simp]def qsZ{sz rows H}:kw H (.sl sz rows .nil)=.sl sz rows .nil:=rfl
@[simp]def qsY{sz rows H}:w9 H (.sl sz rows .nil)=.sl sz rows .nil:=rfl
@[simp]def qt3{sz rows H}:fin H (.sl sz rows .nil)=.sl sz rows .nil:=rfl
@[simp]def qp2{sz rows}  : pl1 (.sl sz rows .tight)=.sl sz rows .tight:=rfl
@[simp]def qp0{sz rows}  : pl2 (.sl sz rows .tight)=.sl sz rows .tight:=rfl
@[simp]def qmA{sz rows}  : plain (.sl sz rows .tight)=.sl sz rows .tight:=rfl
@[simp]def qoQ{sz rows H}:kw H (.sl sz rows .tight)=.sl sz rows .tight:=rfl
@[simp]def qoO{sz rows H}:w9 H (.sl sz rows .tight)=.sl sz rows .tight:=rfl
@[simp]def qqp{sz rows H}:fin H (.sl sz rows .tight)=.sl sz rows .tight:=rfl
@[simp]def qp3{sz rows t k}:pl1 (.sl sz rows (.chain t k))=.sl sz rows .none:=rfl
@[simp]def qp1{sz rows t k}:pl2 (.sl sz rows (.chain t k))=.sl sz rows .none:=rfl
@[simp]def qmB{sz rows t k}:plain (.sl sz rows (.chain t k))=.sl sz rows .none:=rfl
@[simp]def qoR{sz rows t k H}:kw H (.sl sz rows (.chain t k))=.sl sz rows .none:=rfl
@[simp]def qoP{sz rows t k H}:w9 H (.sl sz rows (.chain t k))=.sl sz rows .none:=rfl
@[simp]def qqq{sz rows t k H}:fin H (.sl sz rows (.chain t k))=.sl sz rows .none:=rfl
@[simp]def qzq{b o l z}:AV.atom (.ms b o l z)=true:=rfl
@[simp]def qt8{b o l z}:qL (.ms b o l z)=some [.ms b o l z]:=rfl
@[simp]def qzJ{b o l z}:pl1 (.ms b o l z)=.ms b o l z:=rfl
@[simp]def qzH{b o l z}:pl2 (.ms b o l z)=.ms b o l z:=rfl
@[simp]def qwT{b o l z}:plain (.ms b o l z)=.ms b o l z:=rfl
@[simp]def qxT{c}:AV.atom (.agg c)=false:=rfl
@[simp]def qxN{c}:AV.atom (.tup c)=false:=rfl
@[simp]def qtv{c}:qL (.agg c)=if c.all AV.atom=true then some c else none:=rfl
@[simp]def qt6{c}:qL (.tup c)=none:=rfl
@[simp]def qyB{c}:pl2 (.agg c)=.agg (c.map pl1):=rfl
@[simp]def qu5{c}:plain (.agg c)=.agg (c.map pl1):=rfl
@[simp]def qxF{c H}:w9 H (.agg c)=.agg (c.map (kw H)):=rfl
@[simp]def qzj{c H}:fin H (.agg c)=.agg (c.map (kw H)):=rfl
@[simp]def quZ{c}:plain (.tup c)=.tup (c.map pl2):=rfl
@[simp]def qzd{c H}:fin H (.tup c)=.tup (c.map (w9 H)):=rfl
end
attribute [simp] qE0 qDP
attribute [simp] qV zt qx qe qp qR JH qP TD.isSl TD.isPtr TD.isMap TD.isFn
section
variable {A t:List Blk}{k:Nat}{x:Blk}
@[simp]def qzt:(A++t)[A.length]?=t[0]?:=by rw[qBt (qBs _),qCh]
@[simp]def qzs:(A++t)[A.length+k]?=t[k]?:=by rw[qBt (by omega)];congr 1;try omega
def qa(h:A[k]?=some x)(t):(A++t)[k]?=some x:=by rw[qBv (qBk.1 h).1,h]
def kF{b}(h:A[b]?=some x)(t y):(A++t).set b y=A.set b y++t:=List.set_append_left _ _ (qBk.1 h).1
end
section
variable {P:Program}{G:Glo}{σ:St}{f:FuncId}{args:List AV}{r:AV}
def Pure.kO{G:Nat->AV}{fn:Func}{c:Code}(o:Opts)(deep:Bool)(hf:P.funcs[f]?=some fn)
 (h:kC P G o c (JW args) ⟨[],[]⟩ [] (qdj P deep fn.results.toList r)) (hb:fn.body=some c:=by exact rfl) (hk:(jV fn.ntmps o c && decide (args.length≤fn.ntmps) && fn.name != "runtime.NumGoroutine")=true:=by kernel_rfl) (hm:P.follows .mixedOrders=true:=by exact qcN):Pure P G f args r:=Pure.vcO o deep hf h hb hk hm
def qFC:=@Pure.kO
def Pure.k{G:Nat->AV}{fn:Func}{c:Code}(hf:P.funcs[f]?=some fn)
 (h:kC P G o0 c (JW args) ⟨[],[]⟩ [] (qdj P false fn.results.toList r)) (hb:fn.body=some c:=by exact rfl) (hk:(jV fn.ntmps o0 c && decide (args.length≤fn.ntmps) && fn.name != "runtime.NumGoroutine")=true:=by kernel_rfl) (hm:P.follows .mixedOrders=true:=by exact qcN):Pure P G f args r:=qF6 hf h hb hk hm
def qFD:=@Pure.k
def qh.kO{fn c Q}(o)(hf:P.funcs[f]?=some fn)
 (h:kC P G o c (JW args) σ [] (qdJ P fn.results.toList Q)) (hb:fn.body=some c:=by exact rfl) (hk:(jV fn.ntmps o c && decide (args.length≤fn.ntmps) && fn.name != "runtime.NumGoroutine")=true:=by kernel_rfl) (hm:P.follows .mixedOrders=true:=by exact qcN):qh P G f args σ Q:=qh.vcO o hf h hb hk hm
def qFE:=@qh.kO
def qh.k{fn c Q}(hf:P.funcs[f]?=some fn)
 (h:kC P G o0 c (JW args) σ [] (qdJ P fn.results.toList Q)) (hb:fn.body=some c:=by exact rfl) (hk:(jV fn.ntmps o0 c && decide (args.length≤fn.ntmps) && fn.name != "runtime.NumGoroutine")=true:=by kernel_rfl) (hm:P.follows .mixedOrders=true:=by exact qcN):qh P G f args σ Q:=qh.vc hf h hb hk hm
def qFF:=@qh.k
end
section
variable {P:Program}{G:Glo}{o:Opts}{ops:Array Oper}{d:Bool}{g:FuncId}{args args':List AV}{env:Env}{σ:St}{ks:List Fr}{Q:Exit->Env->St->Prop}{dst:Option Nat}{ct:Ct}{r:AV}
def qc.call(h:Pure P G g args r)(a:kT P G o ops ct (upd env dst r) σ ks Q)(b:qr args=true:=by simp):qc P G o ops d g args σ dst ct env ks Q:=qFQ h a b
def qFG:=@qc.call
def qc.less(h:Pure P G g args' r)(c:qr args=true)(a:zl args args')(b:kT P G o ops ct (upd env dst r) σ ks Q):qc P G o ops d g args σ dst ct env ks Q:=qFR h c a b
def qc.pure(h:Pure P G g args' r)(c:qr (args.map plain)=true)(a:zl (args.map plain) args')(b:kT P G o ops ct (upd env dst r) σ ks Q):qc P G o ops d g args σ dst ct env ks Q:=qF5 h c a b
def qFH:=@qc.pure
def qc.lent(h:Pure P G g args' r)(hb:qt5 r=true)(a:zl (args.map (frz σ.H 8)) args')(b:kT P G o ops ct (upd env dst r) σ ks Q):qc P G o ops d g args σ dst ct env ks Q:=qb.lent h hb a b
def qFI:=@qc.lent
def qc.acall{R}(h:qh P G g args σ R)(a:∀v σ',R v σ'->kT P G o ops ct (upd env dst v) σ' ks Q):qc P G o ops false g args σ dst ct env ks Q:=qFU h a
def qFJ:=@qc.acall
def qF.list{α:Type}(l:List α)(J:List α->Env->St->Prop){c:Code}(h0:J [] env σ)
 (e:∀d v r env σ,l=d++v::r->l[d.length]?=some v->d.length<l.length->J d env σ->kC P G o c env σ (.loop (J (d++[v]))::ks) Q)
 (a:∀env σ,J l env σ->kC P G o c env σ (.loop (fun _ _=>False)::ks) Q) (b:yq c=true:=by rfl):qF P G o c env σ ks Q:=qK.list l J h0 e a b
def qFK:=@qF.list
def qF.count(n)(J:Nat->Env->St->Prop){c}(h0:J 0 env σ)
 (d:∀i env σ,i<n->J i env σ->kC P G o c env σ (.loop (J (i+1))::ks) Q)
 (a:∀env σ,J n env σ->kC P G o c env σ (.loop (fun _ _=>False)::ks) Q) (b:yq c=true:=by rfl):qF P G o c env σ ks Q:=qK.count n J h0 d a b
def qF.gen{c}(I:Nat->Env->St->Prop)(n)(h:I n env σ)(b:∀n env σ (R:Env->St->Prop),(∀m env σ,m<n->I m env σ->R env σ)->I n env σ->kC P G o c env σ (.loop R::ks) Q):qF P G o c env σ ks Q :=
 qF3 I n h fun n env σ a=>b n env σ _ (fun m env σ d a=>⟨m,d,a⟩) a
def qFL:=@qF.gen
end
def ja{α:Type}(b sz:Nat)(en:α->List AV)(H:List Blk)(v:AV)(l:List α):Prop :=
 (l=[]/\v=.sl 0 [] .nil)\/(l≠[]/\v=.ms b 0 l.length sz/\H[b]?=some (.cells (l.flatMap en)))
section
variable {α:Type}{b sz:Nat}{en:α->List AV}{H:List Blk}{v:AV}{l m:List α}
def vg(b:∀x,(en x).length=sz):∀(l:List α) (t),ww sz l.length (l.flatMap en++t)=l.map en
 |[],t=>by simp[ww]
 | a::r,t=>by
  have h1:((a::r).flatMap en++t).take sz=en a:=by
   rw[qBJ,qBX,qCv (by rw[b];exact qBs _),qBr (by rw[b];exact qBs _)]
  have h2:((a::r).flatMap en++t).drop sz=r.flatMap en++t:=by
   rw[qBJ,qBX,qCJ (by rw[b];exact qBs _),qBZ (by rw[b];exact qBs _),qBL]
  show((a::r).flatMap en++t).take sz::ww sz r.length (((a::r).flatMap en++t).drop sz)=en a::r.map en;rw[h1,h2,vg b r t]
def zZ(b:∀x,(en x).length=sz):∀(l:List α),(l.flatMap en).length=l.length*sz
 |[]=>by simp
 |a::r=>by rw[qBJ,qBp,b,zZ b r,qBB,qEb];omega
def QU(b:∀x,qr (en x)=true){n}:∀(l:List α),(l.map en).map (·.map (frz H n))=l.map en
 |[]=>rfl
 | a::r=>by
  have h:(en a).map (frz H n)=en a:=by
   have:=b a;generalize en a=c at this
   induction c with
   |nil=>rfl
   | cons x y ih=>
    simp only[qr,qBq]at this;rw[qBz,ql this.1,ih this.2]
  rw[qBz,qBz,h,QU b r]
def ja.frz(h:ja b sz en H v l)(d:∀x,(en x).length=sz)(c:∀x,qr (en x)=true)(e:∀x,(en x).all AV.atom=true)(n):Leq (frz H (n+1) v) (.sl sz (l.map en) .none):=by
 rcases h with⟨rfl,rfl⟩|⟨g,rfl,hb⟩
 . rw[ql (by simp)];simp
 have a:=vg d l [];rw[qB4]at a;have f:((ww sz l.length (l.flatMap en)).map (·.map (Abs.frz H n))).all (·.all AV.atom)=true:=by
  rw[a,QU c,qEs,qBx];intro x _;exact e x
 unfold Abs.frz;simp only[qE,qBP,if_false,hb,qCG];rw[if_pos ⟨by rw[zZ d];omega,f⟩,a,QU c];exact qFN _
def ja.append{D T ty e i j tok}(h:ja b sz en H v l)(hi:D ty=some i)(hd:i.d=.sl e)(w:D e=some j)(u:j.size=sz)(h0:0<sz)(y:j.zero.length=sz)(A:j.bytes<=256)
 (r:∀x,(en x).length=sz) (s:l.length+m.length<=549755813888) (g:m≠[]):
 ∃v' H',qY D ⟨H,T⟩ ty ty v (.sl sz (m.map en) tok)=some (v',⟨H',T⟩)/\ja H.length sz en H' v' (l++m)/\(∀(k) (x),H[k]?=some x->(l=[]\/k≠b)->H'[k]?=some x)/\H'.length=H.length+1:=by
 subst u;have z:m.length≠0:=fun h=>g (qEj.1 h)
 have C:(m.map en).flatten=m.flatMap en:=by rw[qCQ]
 rcases h with⟨rfl,rfl⟩|⟨f,rfl,hb⟩
 . refine⟨.ms H.length 0 m.length j.size,H++[.cells (m.flatMap en)],?_,?_,?_,by simp⟩
   . have:m.length<=549755813888:=by simpa using s
     simp[*,qY,zD,Zl,qP]
   . right;refine⟨by simpa using g,by simp⟩
   . intro k x a _;rw[qBv (qBk.1 a).1,a]
 have t:=zZ r l;refine⟨.ms H.length 0 (l.length+m.length) j.size,H.set b .dead++[.cells (l.flatMap en++m.flatMap en)],?_,?_,?_,by simp⟩
 . have B:(l.flatMap en).take (l.length*j.size)=l.flatMap en:=qBr (by omega);have o:l.length*j.size<=(l.flatMap en).length:=(by omega);rw[t]at o;simp[*,qY,zD,Zl,qP]
 . right;refine⟨by simp[f],by simp⟩
 intro k x a c;have c:=c.resolve_left f;rw[qBv (by rw[qCO];exact(qBk.1 a).1),qBn (Ne.symm c),a]
def ja.append0{D T ty e i j f tok}(h:ja b sz en H v l)(hi:D ty=some i)(hd:i.d=.sl e)(c:D e=some j)(a:l≠[]):
 qY D ⟨H,T⟩ ty ty v (.sl f [] tok)=some (v,⟨H,T⟩):=by
 rcases h with⟨rfl,rfl⟩|⟨a,rfl,hb⟩
 . exact absurd rfl a
 simp only[qY,zD,hi,hd,c,qP,Zl];split<;>simp_all
def ja.frzNo(h:ja b sz en H v l)(d:∀x,(en x).length=sz)(a:∀x,qr (en x)=true)(e:∀x,(en x).all AV.atom=true)(n):qE (Abs.frz H (n+1) v)=true:=by
 rcases h with⟨rfl,rfl⟩|⟨g,rfl,hb⟩
 . rw[ql (by simp)];simp
 have c:=vg d l [];rw[qB4]at c;have f:((ww sz l.length (l.flatMap en)).map (·.map (Abs.frz H n))).all (·.all AV.atom)=true:=by
  rw[c,QU a,qEs,qBx];intro x _;exact e x
 unfold Abs.frz;simp only[qE,qBP,if_false,hb,qCG];rw[if_pos ⟨by rw[zZ d];omega,f⟩,c,QU a];simpa using zj a l
def ja.lt(h:ja b sz en H v l)(a:l≠[]):b<H.length:=by
 rcases h with⟨h,_⟩|⟨_,_,h⟩
 . exact absurd h a
 exact(qBk.1 h).1
def ja.keep{H'}(h:ja b sz en H v l)(a:∀x,l≠[]->H[b]?=some x->H'[b]?=some x):ja b sz en H' v l:=by
 rcases h with h|⟨h1,h2,c⟩
 . exact .inl h
 exact .inr ⟨h1,h2,a _ h1 c⟩
def ja.at(h:ja b sz en H v l)(a:l≠[]):v=.ms b 0 l.length sz/\H[b]?=some (.cells (l.flatMap en)):=by
 rcases h with⟨h,_⟩|⟨_,h1,h2⟩
 . exact absurd h a
 exact⟨h1,h2⟩
end
section
variable {α:Type}{b sz:Nat}{en:α->List AV}{H:List Blk}{v:AV}{l m:List α}
def ja.appendK{P G o D T ty e i j tok}(h:ja b sz en H v l)(hi:D ty=some i)(hd:i.d=.sl e)(c:D e=some j)(r:j.size=sz)(h0:0<sz)(u:j.zero.length=sz)(z:j.bytes<=256)
 (y:∀x,(en x).length=sz) (B:l.length+m.length<=549755813888):
 ∃ v' b' H',(∀ops dst ct env ks Q,kY P G o ops ((qY D ⟨H,T⟩ ty ty v (.sl sz (m.map en) tok)).map fun p=>[p]) (qm D ⟨H,T⟩ ty v (.sl sz (m.map en) tok)) dst ct env ks Q=kT P G o ops ct (upd env dst v') ⟨H',T⟩ ks Q) /\
  ja b' sz en H' v' (l++m)/\(b'=b\/b'=H.length)/\(∀(k) (x),H[k]?=some x->(l=[]\/k≠b)->H'[k]?=some x)/\H.length<=H'.length:=by
 by_cases g:m=[]
 . subst g;rw[qB4];by_cases f:l=[]
   . rcases h with⟨rfl,rfl⟩|⟨A,_⟩
     . refine⟨.sl 0 [] .nil,b,H,fun ops dst ct env ks Q=>?_,.inl ⟨rfl,rfl⟩,.inl rfl,fun k x a _=>a,qBs _⟩;subst r;have t:qY D ⟨H,T⟩ ty ty (.sl 0 [] .nil) (.sl j.size [] tok)=none:=by
        simp[*,qY,zD,qP,Zl]
       have w:qm D ⟨H,T⟩ ty (.sl 0 [] .nil) (.sl j.size [] tok)=some (.sl 0 [] .nil,⟨H,T⟩):=by
        simp[*,qm,qR]
       rw[qBS,t,w];simp
     . exact absurd f A
   refine⟨v,b,H,fun ops dst ct env ks Q=>?_,h,.inl rfl,fun k x a _=>a,qBs _⟩;rw[qBS,h.append0 hi hd c f];simp
 obtain⟨v',H',h1,h2,s,C⟩:=h.append (T:=T) (tok:=tok) hi hd c r h0 u z y B g;refine⟨v',H.length,H',fun ops dst ct env ks Q=>?_,h2,.inr rfl,s,by omega⟩;rw[h1];simp
end
section
variable {A t:List Blk}{b k:Nat}{x y:Blk}
end
def Qk{c}:∀(new) (pre) (off),zC (pre++c) (pre.length+off) new=pre++zC c off new
 | new,pre,off=>by
  induction new generalizing c off with
  |nil=>rfl
  | cons v r ih=>
   rw[zC,zC,qCd _ _ (by omega),qCt,qDu];exact ih (off+1)
def vm:∀(new c t),c.length=new.length->zC (c++t) 0 new=new++t:=by
 have gen:∀(new pre c t:List AV),c.length=new.length->zC (pre++(c++t)) pre.length new=pre++(new++t):=by
  intro new
  induction new with
  |nil=>intro pre c t h;have:c=[]:=qEj.1 h;subst this;simp[zC]
  | cons v r ih=>
   intro pre c t h
   cases c with
   |nil=>simp at h
   | cons x c=>
    have:=ih (pre++[v]) c t (by simpa using h);simp at this;rw[zC]
    rwa[show(pre++(x::c++t)).set pre.length v=pre++v::(c++t) by simp]
 intro new c t h;simpa using gen new [] c t h
def QP{α:Type}{sz:Nat}{en:α->List AV}(b:∀x,(en x).length=sz):∀(l:List α) (i:Nat) (v:α),i<l.length->zC (l.flatMap en) (i*sz) (en v)=(l.set i v).flatMap en
 |[],i,v,h=>by simp at h
 | a::r,0,v,_=>by
  rw[qBJ,qDa,qEH,qBJ];exact vm _ _ _ (by rw[b,b])
 | a::r,i+1,v,h=>by
  have h':i<r.length:=by simpa using h
  rw[qBJ,qEc,qBJ,<- QP b r i v h',qEb,qDn];have:=Qk (c:=r.flatMap en) (en v) (en a) (i*sz)
  rwa[b]at this
section
variable {P:Program}{G:Glo}{o:Opts}{env:Env}{σ:St}{ks:List Fr}{Q:Exit->Env->St->Prop}
def qF.listR{α:Type}(l:List α)(J:List α->Env->St->Prop){c:Code}(h0:J [] env σ)
 (g:∀d v r env σ (R:Env->St->Prop),(∀env σ,J (d++[v]) env σ->R env σ)->l=d++v::r->l[d.length]?=some v->d.length<l.length->J d env σ->kC P G o c env σ (.loop R::ks) Q)
 (a:∀env σ,J l env σ->kC P G o c env σ (.loop (fun _ _=>False)::ks) Q) (f:yq c=true:=by rfl):qF P G o c env σ ks Q :=
 qFK l J h0 (fun d v r env σ h1 h2 b e=>g d v r env σ _ (fun _ _ h=>h) h1 h2 b e) a f
def qFW:=@qF.listR
end
section
variable {P:Program}{G:Glo}{o:Opts}{env:Env}{σ:St}{ks:List Fr}{Q:Exit->Env->St->Prop}
def qcZ(j:G.NoX){g:Operand}{pe b:Nat}{cap:List AV}{x y:Code}(pre:St->Prop)(a:List AV)(J:Nat->St->Prop)(d:ev G env g=.fn b [] cap)(l:qwG P G b cap pre a)(f:∀i σ,J i σ->pre σ)(h:J 0 σ)
 (r:∀i v σ,a[i]?=some v->J i σ->kC P G o x (upd env (some pe) v) σ [] (fun e env' σ'=>e=.normal/\kC P G o y env' σ' [] (fun e _ m=>e=.normal/\J (i+1) m)))
 (c:∀σ,J a.length σ->kX P G o .normal env σ ks Q):kC P G o (.rangeFunc g #[pe] x y) env σ ks Q:=by
 unfold kC;simp only[vcC,d];exact⟨pre,a,J,j,l,f,h,r,c⟩
end
def qba{H b off n c}(h:H[b]?=some (.cells c)):frz H (n+1) (.ptr b off)=.rptr ((c.drop off).map (frz H n)):=by
 rw[frz];simp[qE,h]
def qa9{H n}{s:List UInt8}:frz H n (.str s)=.str s:=ql rfl
def wL{H n k z}:frz H n (.int k z)=.int k z:=ql rfl
def QV{H n z}:frz H n (.bool z)=.bool z:=ql rfl
section
variable {P:Program}{G:Glo}{o:Opts}{ops:Array Oper}{ac dp:List Nat}{env:Env}{σ:St}{ks:List Fr}{Q:Exit->Env->St->Prop}
def kAl(P:Program)(G:Glo)(o:Opts)(ops:Array Oper)(ac:List Nat)(al:Alts)(env:Env)(σ:St)(ks:List Fr)(Q:Exit->Env->St->Prop):Prop:=v7 P G o.mu ac ops al env σ (fun env σ=>itp P G o ks Q .normal env σ)
@[simp ↓]def qyQ{al}:kT P G o ops (.plan ac (.fork al)) env σ ks Q=kAl P G o ops ac al env σ ks Q:=by simp only[kT,vcS,kAl]
@[simp ↓]def qy5:kAl P G o ops ac .nil env σ ks Q=True:=by simp only[kAl,v7]
@[simp ↓]def qxs{k s r}:kAl P G o ops ac (.cons k s r) env σ ks Q=(kP P G o ops (ops[k]?) (match ops[k]? with|some u=>qX o.mu ac k u.op != 9|none=>false) (.plan ac s) env σ ks Q/\kAl P G o ops ac r env σ ks Q):=by
 simp only[kAl,v7,kP,kT];congr 1;split<;>rename_i h<;>simp[h]
end
section
variable {α:Type}{sz t:Nat}{en:α->List AV}{T:List (Option Nat)}{a s m:List α}
end
section
variable {P:Program}{G:Glo}{o:Opts}{env:Env}{σ:St}{ks:List Fr}{Q:Exit->Env->St->Prop}
end
section
variable {P:Program}{G:Glo}{σ:St}{f:FuncId}{args args':List AV}{Q:AV->St->Prop}
def qh.leq(h:qh P G f args' σ Q)(a:zl args args'):qh P G f args σ Q :=
 ⟨h.1,fun w0 ro0 K w vs c b=>h.2 w0 ro0 K w vs c (zl.rel _ _ a b)⟩
end
section
variable {P:Program}{G:Glo}{o:Opts}{ops:Array Oper}{ct:Ct}{env:Env}{σ:St}{ks:List Fr}{Q:Exit->Env->St->Prop}
def qvy{y}(I)(h1:kT P G o ops ct env σ (.loop I::ks) Q)(h2:∀env σ,I env σ->kC P G o y env σ ks Q):kT P G o ops ct env σ (.seq y::ks) Q:=by
 unfold kT at h1⊢
 cases ct with
 |run d lw rest=>exact qaj (fun env σ h=>h2 env σ h) rest h1
 |plan ac s=>exact qai (fun env σ h=>h2 env σ h) s h1
end
def Va{α:Type}(n sz:Nat)(en:α->List AV)(T:List (Option Nat))(v:AV)(l:List α):Prop :=
 (l=[]/\v=.sl 0 [] .nil)\/(l≠[]/\∃t,n<=t/\v=.sl sz (l.map en) (.chain t l.length)/\T[t]?=some (some l.length))
section
variable {α:Type}{n sz:Nat}{en:α->List AV}{T T':List (Option Nat)}{v:AV}{l m:List α}
def Va.nil:Va n sz en T (.sl 0 [] .nil) ([]:List α):=.inl ⟨rfl,rfl⟩
def Va.ext(h:Va n sz en T v l)(c:T <+: T'):Va n sz en T' v l:=by
 rcases h with h|⟨h1,t,h2,b,a⟩
 . exact .inl h
 obtain⟨u,rfl⟩:=c;exact .inr ⟨h1,t,h2,b,by rw[qBv (qBk.1 a).1,a]⟩
def qhV{T0 T:List (Option Nat)}(h:T0 <+: T){t}(a:T0.length<=t)(x:Option Nat):T0 <+: T.set t x:=by
 obtain⟨u,rfl⟩:=h;rw[qCd _ _ a];exact⟨_,rfl⟩
def Va.append{T0 D ty e i j tok}(h:Va T0.length sz en T v l)(f:T0 <+: T)(hi:D ty=some i)(hd:i.d=.sl e)(b:D e=some j)(x:j.size=sz)(h0:0<sz)(c:j.zero.length=sz)(hb:j.bytes<=256)
 (g:l.length+m.length<=549755813888) (r) (h2:r=sz\/m=[]):
 ∃v' T',(∀H,qm D ⟨H,T⟩ ty v (.sl r (m.map en) tok)=some (v',⟨H,T'⟩))/\Va T0.length sz en T' v' (l++m)/\T0 <+: T':=by
 subst x;by_cases a:m=[]
 . subst a;rw[qB4];refine⟨v,T,fun H=>?_,h,f⟩;rcases h with⟨rfl,rfl⟩|⟨o,t,_,rfl,_⟩
   . simp[qm,hi,hd,b,h0,c,hb,qR]
   have:l.length<=549755813888:=by simpa using g
   simp[qm,hi,hd,b,h0,c,hb,qR,this]
 have h2:=h2.resolve_right a;subst h2;rcases h with⟨rfl,rfl⟩|⟨o,t,w,rfl,s⟩
 . have:m.length<=549755813888:=by simpa using g
   refine⟨.sl j.size (m.map en) (.chain T.length m.length),T++[some m.length],fun H=>?_,.inr ⟨by simpa using a,T.length,?_,by simp⟩,f.trans (qED _ _)⟩
   . simp[qm,hi,hd,b,h0,c,hb,qR,this,a]
   obtain⟨u,rfl⟩:=f;simp
 refine⟨.sl j.size ((l++m).map en) (.chain t (l.length+m.length)),T.set t (some (l.length+m.length)),fun H=>?_,.inr ⟨by simp[o],t,w,by simp,?_⟩,qhV f w _⟩
 . simp[qm,hi,hd,b,h0,c,hb,qR,g,a,s]
 rw[qBo (qBk.1 s).1];simp
end
def qlb{α:Type}{sz:Nat}{en:α->List AV}(d:∀x,qr (en x)=true)(c:∀x,(en x).all AV.atom=true)(H:List Blk)(k:Nat)(l:List α)(tok:Tok):Leq (Abs.frz H (k+1) (.sl sz (l.map en) tok)) (.sl sz (l.map en) .none):=by
 have a:=QU (H:=H) d (n:=k) l;have e:((l.map en).map (·.map (Abs.frz H k))).all (·.all AV.atom)=true:=by
  rw[a,qEs,qBx];intro x _;exact c x
 by_cases b:Abs.qE (.sl sz (l.map en) tok)=true
 . rw[ql b];exact Leq.sl rfl
 rw[Abs.frz,if_neg b];simp only[if_pos e];rw[a];exact qFN _
def qoK{α:Type}{sz b}{en:α->List AV}(c:∀x,qr (en x)=true)(d:∀x,(en x).all AV.atom=true)(H k)(l:List α)(tok)(h:sz=b\/l=[]):Leq (Abs.frz H (k+1) (.sl sz (l.map en) tok)) (.sl b (l.map en) .none):=by
 rcases h with rfl|rfl
 . exact qlb c d H k l tok
 by_cases a:Abs.qE (.sl sz [] tok)=true
 . rw[qBS,ql a];exact Leq.slnil
 rw[qBS,Abs.frz,if_neg a];exact Leq.slnil
section
variable {P:Program}{G:Glo}{f:FuncId}{args:List AV}{σ:St}{Q:AV->St->Prop}
def qh.up(h:qh P G f args σ (fun r τ=>∃w,Leq r w/\Q w τ)):qh P G f args σ Q :=
 ⟨h.1,fun w0 ro0 K w vs c i=>(h.2 w0 ro0 K w vs c i).mono fun e w' h=>h.imp (fun⟨v',v,σ',K',h1,h2,d,g,u,a,b⟩=>⟨v',u,σ',K',h1,h2,d,qFM _ _ a g,b⟩) id⟩
end
section
variable {P:Program}{G:Glo}{o:Opts}{ops:Array Oper}{ct:Ct}{env:Env}{σ:St}{ks:List Fr}{Q:Exit->Env->St->Prop}{dst:Option Nat}
end
section
variable {es:List (AV×AV×Nat)}{H:List Blk}{T:List (Option Nat)}{it m clk:Nat}{seen:List Nat}
end
