import Derived.Test.YtkodonalmdmgpaaGreatDoorSv09
set_option linter.all false
set_option linter.defProp false
section
namespace Go.Abs
open Go Go.RowKit
theorem notRfl {p q:Prop} (h:p=q):p=q:=by rw [h]
@[congr] theorem vcC_congr {P:Program} {G:Glo} {o:Opts} {c:Code} {env:Env} {σ:St} {Q:Exit→Env→St→Prop}:vcC P G o c env σ Q=vcC P G o c env σ Q:=rfl
@[congr] theorem vcR_congr {P:Program} {G:Glo} {mu:Bool} {ops:Array Oper} {d lw:Bool} {l:List Oper} {env:Env} {σ:St} {Q:Env→St→Prop}:vcR P G mu ops d lw l env σ Q=vcR P G mu ops d lw l env σ Q:=rfl
@[congr] theorem vcOp_congr {P:Program} {G:Glo} {mu d:Bool} {op:Op} {env:Env} {σ:St} {Q:AV→St→Prop}:vcOp P G mu d op env σ Q=vcOp P G mu d op env σ Q:=rfl
@[congr] theorem vcCall_congr {P:Program} {G:Glo} {d:Bool} {f:FuncId} {args args':List AV} {σ:St} {Q:AV→St→Prop} (h:args=args'):vcCall P G d f args σ Q=vcCall P G d f args' σ Q:=by rw [h]
/-- A loop, kept as it is. -/
def vcLoop (P:Program) (G:Glo) (o:Opts) (c:Code) (env:Env) (σ:St) (Q:Exit→Env→St→Prop):Prop :=
 ∃ (I:Nat→Env→St→Prop) (n:Nat),I n env σ∧∀ n env σ,I n env σ→vcC P G o c env σ (aThen (fun env' σ'=>∃ n',n' < n∧I n' env' σ') Q)
@[congr] theorem vcLoop_congr {P:Program} {G:Glo} {o:Opts} {c:Code} {env:Env} {σ:St} {Q:Exit→Env→St→Prop}:vcLoop P G o c env σ Q=vcLoop P G o c env σ Q:=rfl
@[congr] theorem ACall_congr {P:Program} {G:Glo} {f:FuncId} {args:List AV} {σ:St} {Q:AV→St→Prop}:ACall P G f args σ Q=ACall P G f args σ Q:=rfl
@[congr] theorem vcIf_congr {c c':Bool} {A B:Prop} (h:c=c'):vcIf c A B=vcIf c' A B:=by rw [h]
@[simp] theorem vcIf_true {A B:Prop}:vcIf true A B=A:=by simp [vcIf]
@[simp] theorem vcIf_false {A B:Prop}:vcIf false A B=B:=by simp [vcIf]
@[simp low] theorem vcIf_both {c:Bool} {A B:Prop}:vcIf c A B=((c=true→A)∧(c=false→B)):=notRfl rfl
@[congr] theorem upd_congr {env:Env} {d:Option Nat} {v:AV}:upd env d v=upd env d v:=rfl
@[simp] theorem upd_some {env:Env} {d i:Nat} {v:AV}:upd env (some d) v i=if i=d then v else env i:=rfl
@[simp] theorem upd_none {env:Env} {v:AV}:upd env none v=env:=rfl
@[congr] theorem aThen_congr {n:Env→St→Prop} {Q:Exit→Env→St→Prop}:aThen n Q=aThen n Q:=rfl
@[congr] theorem aBlock_congr {n:Nat} {Q:Exit→Env→St→Prop}:aBlock n Q=aBlock n Q:=rfl
section
variable {P:Program} {G:Glo} {o:Opts} {env:Env} {σ:St} {Q:Exit→Env→St→Prop}
@[simp] theorem vc_skip:vcC P G o .skip env σ Q=Q .normal env σ:=by simp only [vcC]
@[simp] theorem vc_ret:vcC P G o .ret env σ Q=Q .ret env σ:=by simp only [vcC]
@[simp] theorem vc_exit {id:Nat}:vcC P G o (.exit id) env σ Q=Q (.exit id) env σ:=by simp only [vcC]
@[simp] theorem vc_seq {x y:Code}:vcC P G o (.seq x y) env σ Q=vcC P G o x env σ (aThen (fun env σ=>vcC P G o y env σ Q) Q):=by simp only [vcC]
@[simp] theorem vc_block {id:Nat} {x:Code}:vcC P G o (.block id x) env σ Q=vcC P G o x env σ (aBlock id Q):=by simp only [vcC]
@[simp] theorem vc_loop {x:Code}:vcC P G o (.loop x) env σ Q=vcLoop P G o x env σ Q:=by simp only [vcC]<;>rfl
@[simp] theorem vc_region {id:Nat} {ops:Array Oper}:vcC P G o (.region id ops false) env σ Q=vcR P G o.mu ops false (o.lw.contains id) ops.toList env σ (fun env σ=>Q .normal env σ):=by simp only [vcC]
@[simp] theorem vc_draw0 {id:Nat} {ops:Array Oper}:vcC P G o0 (.region id ops true) env σ Q=vcR P G false ops true false ops.toList env σ (fun env σ=>Q .normal env σ):=by simp [vcC,o0]
theorem vc_draw {id:Nat} {ops:Array Oper} (h:o.fk.lookup id=none):vcC P G o (.region id ops true) env σ Q=vcR P G o.mu ops true (o.lw.contains id) ops.toList env σ (fun env σ=>Q .normal env σ):=by simp only [vcC,h]
theorem vc_plan {id:Nat} {ops:Array Oper} {s:Sch} {ac:List Nat} (h:o.fk.lookup id=some (s,ac)):vcC P G o (.region id ops true) env σ Q=vcS P G o.mu ac ops s env σ (fun env σ=>Q .normal env σ):=by simp only [vcC,h]
@[simp] theorem vc_cond {c:Operand} {x y:Code} {b:Bool} (h:ev G env c=.bool b):vcC P G o (.cond c x y) env σ Q=vcIf b (vcC P G o x env σ Q) (vcC P G o y env σ Q):=by simp only [vcC,h]
@[simp] theorem o0_mu:o0.mu=false:=rfl
@[simp] theorem o0_lw:o0.lw=[]:=rfl
end
end Go.Abs
namespace Go.Abs
section
variable {P:Program} {G:Glo} {mu:Bool} {ops:Array Oper} {d lw:Bool} {env:Env} {σ:St} {Q:Env→St→Prop}
@[simp] theorem vcR_nil:vcR P G mu ops d lw [] env σ Q=Q env σ:=notRfl rfl
@[simp] theorem vcR_run {dst:Option Nat} {op:Op} {type:TypeId} {pos:String} {after:Array Edge} {rest:List Oper} :
 vcR P G mu ops d false ({ dst:=dst,op:=op,type:=type,pos:=pos,after:=after,guard:=none }::rest) env σ Q=vcOp P G mu d op env σ (fun v σ'=>vcR P G mu ops d false rest (upd env dst v) σ' Q):=by
 rw [vcR,vcG]
 simp
theorem vcR_run_lw {dst:Option Nat} {op:Op} {type:TypeId} {pos:String} {after:Array Edge} {rest:List Oper} :
 vcR P G mu ops d lw ({ dst:=dst,op:=op,type:=type,pos:=pos,after:=after,guard:=none }::rest) env σ Q=vcOp P G mu (d&&!(lw&&isNil rest&&isCallV op)) op env σ (fun v σ'=>vcR P G mu ops d lw rest (upd env dst v) σ' Q):=by
 rw [vcR,vcG]
def vcGuard (P:Program) (G:Glo) (mu:Bool) (ops:Array Oper) (d:Bool) (x:Option Nat) (b:Bool) (dst:Option Nat) (op:Op) (rest:List Oper) (env:Env) (σ:St) (Q:Env→St→Prop):Prop :=
 match x with
 | some t=>match env t with
  | .bool c=>vcIf (c==b) (vcOp P G mu d op (upd env (some t) (.bool b)) σ (fun v σ'=>vcR P G mu ops d false rest (upd (upd env (some t) (.bool b)) dst v) σ' Q))
   (vcR P G mu ops d false rest (upd (upd env (some t) (.bool (!b))) dst (.tup [])) σ Q)
  | .tup []=>vcR P G mu ops d false rest (upd env dst (.tup [])) σ Q
  | _=>False
 | none=>vcR P G mu ops d false rest (upd env dst (.tup [])) σ Q
@[congr] theorem vcGuard_congr {x x':Option Nat} {b:Bool} {dst:Option Nat} {op:Op} {rest:List Oper} (h:x=x'):vcGuard P G mu ops d x b dst op rest env σ Q=vcGuard P G mu ops d x' b dst op rest env σ Q:=by rw [h]
@[simp] theorem vcR_guard {dst:Option Nat} {op:Op} {type:TypeId} {pos:String} {after:Array Edge} {rest:List Oper} {j:Nat} {b:Bool} :
 vcR P G mu ops d false ({ dst:=dst,op:=op,type:=type,pos:=pos,after:=after,guard:=some (j,b) }::rest) env σ Q=vcGuard P G mu ops d ((ops[j]?).bind (·.dst)) b dst op rest env σ Q:=by
 rw [vcR,vcG]
 simp only [Bool.false_and,Bool.not_false,Bool.and_true]
 rfl
@[simp] theorem vcGuard_none {b:Bool} {dst:Option Nat} {op:Op} {rest:List Oper}:vcGuard P G mu ops d none b dst op rest env σ Q=vcR P G mu ops d false rest (upd env dst (.tup [])) σ Q:=notRfl rfl
@[simp] theorem vcGuard_bool {t:Nat} {b c:Bool} {dst:Option Nat} {op:Op} {rest:List Oper} (h:env t=.bool c):vcGuard P G mu ops d (some t) b dst op rest env σ Q =
 vcIf (c==b) (vcOp P G mu d op (upd env (some t) (.bool b)) σ (fun v σ'=>vcR P G mu ops d false rest (upd (upd env (some t) (.bool b)) dst v) σ' Q)) (vcR P G mu ops d false rest (upd (upd env (some t) (.bool (!b))) dst (.tup [])) σ Q):=by
 simp only [vcGuard,h]
@[simp] theorem vcGuard_off {t:Nat} {b:Bool} {dst:Option Nat} {op:Op} {rest:List Oper} (h:env t=.tup []):vcGuard P G mu ops d (some t) b dst op rest env σ Q=vcR P G mu ops d false rest (upd env dst (.tup [])) σ Q:=by
 simp only [vcGuard,h]
end
section
variable {P:Program} {G:Glo} {mu d:Bool} {env:Env} {σ:St} {Q:AV→St→Prop}
def vcSem (x:Option (AV×St)) (Q:AV→St→Prop):Prop:=match x with
 | some (v,σ)=>Q v σ
 | none=>False
@[congr] theorem vcSem_congr {x x':Option (AV×St)} (h:x=x'):vcSem x Q=vcSem x' Q:=by rw [h]
@[simp] theorem vcSem_some {v:AV} {σ:St}:vcSem (some (v,σ)) Q=Q v σ:=notRfl rfl
@[simp] theorem vcSem_none:vcSem none Q=False:=notRfl rfl
@[congr] theorem vcX_congr {l l':Option (List (AV×St))} {s s':Option (AV×St)} (h:l=l') (h':s=s'):vcX l s Q=vcX l' s' Q:=by rw [h,h']
@[simp] theorem vcX_none {s:Option (AV×St)}:vcX none s Q=vcSem s Q:=by simp only [vcX,vcSem];rfl
@[simp] theorem vcX_nil {s:Option (AV×St)}:vcX (some []) s Q=True:=by simp [vcX]
@[simp] theorem vcX_one {v:AV} {τ:St} {s:Option (AV×St)}:vcX (some [(v,τ)]) s Q=Q v τ:=by simp [vcX]
@[simp] theorem vcX_two {v v':AV} {τ τ':St} {s:Option (AV×St)}:vcX (some [(v,τ),(v',τ')]) s Q=(Q v τ∧Q v' τ'):=by
 simp only [vcX,eq_iff_iff]
 constructor
 · exact fun h=>⟨h _ _ (by simp),h _ _ (by simp)⟩
 · rintro⟨h1,h2⟩ a b hm
   simp only [List.mem_cons,Prod.mk.injEq,List.not_mem_nil,or_false] at hm
   rcases hm with ⟨rfl,rfl⟩|⟨rfl,rfl⟩
   · exact h1
   · exact h2
def vcFn (P:Program) (G:Glo) (d:Bool) (f:AV) (args:List AV) (σ:St) (Q:AV→St→Prop):Prop:=match f with
 | .fn g first cap=>vcCall P G d g (callArgs first args cap) σ Q
 | _=>False
@[congr] theorem vcFn_congr {f f':AV} {args args':List AV} (h:f=f') (h':args=args'):vcFn P G d f args σ Q=vcFn P G d f' args' σ Q:=by rw [h,h']
@[simp] theorem vcFn_fn {g:FuncId} {first args cap:List AV}:vcFn P G d (.fn g first cap) args σ Q=vcCall P G d g (callArgs first args cap) σ Q:=notRfl rfl
@[simp] theorem vcOp_call {f:Operand} {a:Array Operand} {t:Array TypeId}:vcOp P G mu d (.call { callee:=.value f,args:=a,argTypes:=t }) env σ Q=vcFn P G d (ev G env f) (opds G env a.toList) σ Q:=notRfl rfl
@[simp] theorem vcOp_move {x:Operand}:vcOp P G mu d (.move x) env σ Q=vcSem (sem (Dof P) G env σ (.move x)) Q:=by cases d<;>rfl
@[simp] theorem vcOp_assign {x:Operand}:vcOp P G mu d (.assign x) env σ Q=vcSem (sem (Dof P) G env σ (.assign x)) Q:=by cases d<;>rfl
@[simp] theorem vcOp_pick {a b c:Operand}:vcOp P G mu d (.pick a b c) env σ Q=vcSem (sem (Dof P) G env σ (.pick a b c)) Q:=by cases d<;>rfl
@[simp] theorem vcOp_alloc {t:TypeId}:vcOp P G mu d (.alloc t) env σ Q=vcSem (sem (Dof P) G env σ (.alloc t)) Q:=by cases d<;>rfl
@[simp] theorem vcOp_box {t:TypeId} {x:Operand}:vcOp P G mu d (.box t x) env σ Q=vcSem (sem (Dof P) G env σ (.box t x)) Q:=by cases d<;>rfl
@[simp] theorem vcOp_build {t:TypeId} {p:Array (Nat×Operand)}:vcOp P G mu d (.build t p) env σ Q=vcSem (sem (Dof P) G env σ (.build t p)) Q:=by cases d<;>rfl
@[simp] theorem vcOp_buildSlice {t:TypeId} {n:Nat} {p:Array (Nat×Operand)}:vcOp P G mu d (.buildSlice t n p) env σ Q=vcSem (sem (Dof P) G env σ (.buildSlice t n p)) Q:=by cases d<;>rfl
@[simp] theorem vcOp_load {t:TypeId} {x:Operand}:vcOp P G mu d (.load t x) env σ Q=vcSem (sem (Dof P) G env σ (.load t x)) Q:=by cases d<;>rfl
@[simp] theorem vcOp_store {t:TypeId} {x y:Operand}:vcOp P G mu d (.store t x y) env σ Q=vcSem (sem (Dof P) G env σ (.store t x y)) Q:=by cases d<;>rfl
@[simp] theorem vcOp_nilCheck {x:Operand}:vcOp P G mu d (.nilCheck x) env σ Q=vcSem (sem (Dof P) G env σ (.nilCheck x)) Q:=by cases d<;>rfl
theorem vcX_off {s:Option (AV×St)}:vcX (pickX d none) s Q=vcSem s Q:=by cases d<;>exact vcX_none
@[simp] theorem vcOp_binOp {o:BinOp} {t u:TypeId} {x y:Operand} (h:o≠.eql) (h':o≠.neq):vcOp P G mu d (.binOp o t x y u) env σ Q=vcSem (sem (Dof P) G env σ (.binOp o t x y u)) Q:=by
 have:semX (Dof P) G mu env σ (.binOp o t x y u)=none:=by cases o<;>first | rfl | exact absurd rfl h | exact absurd rfl h'
 simp only [vcOp,this]
 exact vcX_off
def nilOr (d neg:Bool) (D:Nat→Option TI) (t:Nat) (x y:AV) (σ:St):Option (List (AV×St)):=match d with
 | true=>none
 | false=>nilCmp D neg t x y σ
@[simp] theorem vcOp_eql {t u:TypeId} {x y:Operand}:vcOp P G mu d (.binOp .eql t x y u) env σ Q=vcX (nilOr d false (Dof P) t (ev G env x) (ev G env y) σ) (sem (Dof P) G env σ (.binOp .eql t x y u)) Q:=by cases d<;>rfl
@[simp] theorem vcOp_neq {t u:TypeId} {x y:Operand}:vcOp P G mu d (.binOp .neq t x y u) env σ Q=vcX (nilOr d true (Dof P) t (ev G env x) (ev G env y) σ) (sem (Dof P) G env σ (.binOp .neq t x y u)) Q:=by cases d<;>rfl
@[simp] theorem vcOp_unOp {o:UnOp} {t:TypeId} {x:Operand}:vcOp P G mu d (.unOp o t x) env σ Q=vcSem (sem (Dof P) G env σ (.unOp o t x)) Q:=by cases d<;>rfl
@[simp] theorem vcOp_convert {t u:TypeId} {x:Operand}:vcOp P G mu d (.convert t u x) env σ Q=vcSem (sem (Dof P) G env σ (.convert t u x)) Q:=by cases d<;>rfl
@[simp] theorem vcOp_makeFunc {f:Fn} {a b:Array Operand}:vcOp P G mu d (.makeFunc f a b) env σ Q=vcSem (sem (Dof P) G env σ (.makeFunc f a b)) Q:=by cases d<;>rfl
@[simp] theorem vcOp_makeMap {t:TypeId} {r:Option Operand}:vcOp P G mu d (.makeMap t r) env σ Q=vcSem (sem (Dof P) G env σ (.makeMap t r)) Q:=by cases d<;>rfl
@[simp] theorem vcOp_makeSliceD {t:TypeId} {x y:Operand}:vcOp P G mu true (.makeSlice t x y) env σ Q=vcSem (sem (Dof P) G env σ (.makeSlice t x y)) Q:=by rfl
@[simp] theorem vcOp_makeSlice {t:TypeId} {x y:Operand}:vcOp P G mu false (.makeSlice t x y) env σ Q=vcX (mkX (Dof P) mu σ t (ev G env x) (ev G env y)) (sem (Dof P) G env σ (.makeSlice t x y)) Q:=by rfl
@[simp] theorem vcOp_slice {t:TypeId} {x:Operand} {lo hi mx:Option Operand}:vcOp P G mu d (.slice t x lo hi mx) env σ Q=vcSem (sem (Dof P) G env σ (.slice t x lo hi mx)) Q:=by cases d<;>rfl
@[simp] theorem vcOp_fieldAddr {t:TypeId} {x:Operand} {i:Nat}:vcOp P G mu d (.fieldAddr t x i) env σ Q=vcSem (sem (Dof P) G env σ (.fieldAddr t x i)) Q:=by cases d<;>rfl
@[simp] theorem vcOp_field {t:TypeId} {x:Operand} {i:Nat}:vcOp P G mu d (.field t x i) env σ Q=vcSem (sem (Dof P) G env σ (.field t x i)) Q:=by cases d<;>rfl
@[simp] theorem vcOp_indexAddr {t:TypeId} {x y:Operand}:vcOp P G mu d (.indexAddr t x y) env σ Q=vcSem (sem (Dof P) G env σ (.indexAddr t x y)) Q:=by cases d<;>rfl
@[simp] theorem vcOp_index {t:TypeId} {x y:Operand}:vcOp P G mu d (.index t x y) env σ Q=vcSem (sem (Dof P) G env σ (.index t x y)) Q:=by cases d<;>rfl
@[simp] theorem vcOp_lookup {t:TypeId} {x y:Operand} {k:Bool}:vcOp P G mu d (.lookup t x y k) env σ Q=vcSem (sem (Dof P) G env σ (.lookup t x y k)) Q:=by cases d<;>rfl
@[simp] theorem vcOp_mapUpdate {t:TypeId} {x y z:Operand}:vcOp P G mu d (.mapUpdate t x y z) env σ Q=vcSem (sem (Dof P) G env σ (.mapUpdate t x y z)) Q:=by cases d<;>rfl
@[simp] theorem vcOp_range {t:TypeId} {x:Operand}:vcOp P G mu d (.range t x) env σ Q=vcSem (sem (Dof P) G env σ (.range t x)) Q:=by cases d<;>rfl
@[simp] theorem vcOp_next {x:Operand}:vcOp P G mu d (.next x true) env σ Q=vcSem (sem (Dof P) G env σ (.next x true)) Q:=by cases d<;>rfl
@[simp] theorem vcOp_mnext {x:Operand}:vcOp P G mu false (.next x false) env σ Q=vcX (nextsA σ (ev G env x)) none Q:=notRfl rfl
@[simp] theorem vcOp_entry {x:Operand}:vcOp P G mu false (.entry x) env σ Q=vcX ((entryA σ (ev G env x)).map fun v=>[(v,σ)]) none Q:=notRfl rfl
@[simp] theorem vcOp_insert {t:TypeId} {m k v:Operand}:vcOp P G mu false (.insert t m k v) env σ Q=vcX ((mapUpdateA (Dof P) σ t (ev G env m) (ev G env k) (ev G env v)).map fun σ'=>[(.tup [],σ')]) none Q:=notRfl rfl
@[simp] theorem vcOp_extract {x:Operand} {i:Nat}:vcOp P G mu d (.extract x i) env σ Q=vcSem (sem (Dof P) G env σ (.extract x i)) Q:=by cases d<;>rfl
@[simp] theorem vcOp_len {a:Array Operand} {t:Array TypeId}:vcOp P G mu d (.call { callee:=.builtin .len,args:=a,argTypes:=t }) env σ Q=vcSem (sem (Dof P) G env σ (.call { callee:=.builtin .len,args:=a,argTypes:=t })) Q:=by
 have:semX (Dof P) G mu env σ (.call { callee:=.builtin .len,args:=a,argTypes:=t })=none:=by simp only [semX]
 simp only [vcOp,this]
 exact vcX_off
@[simp] theorem vcOp_min {a:Array Operand} {t:Array TypeId}:vcOp P G mu d (.call { callee:=.builtin .min,args:=a,argTypes:=t }) env σ Q=vcSem (sem (Dof P) G env σ (.call { callee:=.builtin .min,args:=a,argTypes:=t })) Q:=by
 have:semX (Dof P) G mu env σ (.call { callee:=.builtin .min,args:=a,argTypes:=t })=none:=by simp only [semX]
 simp only [vcOp,this]
 exact vcX_off
@[simp] theorem vcOp_max {a:Array Operand} {t:Array TypeId}:vcOp P G mu d (.call { callee:=.builtin .max,args:=a,argTypes:=t }) env σ Q=vcSem (sem (Dof P) G env σ (.call { callee:=.builtin .max,args:=a,argTypes:=t })) Q:=by
 have:semX (Dof P) G mu env σ (.call { callee:=.builtin .max,args:=a,argTypes:=t })=none:=by simp only [semX]
 simp only [vcOp,this]
 exact vcX_off
@[simp] theorem vcOp_append {a:Array Operand} {t:Array TypeId}:vcOp P G false d (.call { callee:=.builtin .append,args:=a,argTypes:=t }) env σ Q=vcSem (sem (Dof P) G env σ (.call { callee:=.builtin .append,args:=a,argTypes:=t })) Q:=by
 have:semX (Dof P) G false env σ (.call { callee:=.builtin .append,args:=a,argTypes:=t })=none:=by
  simp only [semX]
  split<;>first | rfl | (rename_i h _ _;cases h;done) | (simp_all;done)
 simp only [vcOp,this]
 exact vcX_off
@[simp] theorem vcOp_appendM {s x:Operand} {t u:TypeId}:vcOp P G true false (.call { callee:=.builtin .append,args:=#[s,x],argTypes:=#[t,u] }) env σ Q=vcX ((appendX (Dof P) σ t u (ev G env s) (ev G env x)).map fun p=>[p]) (sem (Dof P) G env σ (.call { callee:=.builtin .append,args:=#[s,x],argTypes:=#[t,u] })) Q:=notRfl rfl
@[simp] theorem vcOp_clear {x:Operand} {t:TypeId}:vcOp P G mu false (.call { callee:=.builtin .clear,args:=#[x],argTypes:=#[t] }) env σ Q=vcX ((clearA (Dof P) σ t (ev G env x)).map fun σ'=>[(.tup [],σ')]) none Q:=notRfl rfl
@[simp] theorem vcOp_copy {x y:Operand} {t u:TypeId}:vcOp P G mu false (.call { callee:=.builtin .copy,args:=#[x,y],argTypes:=#[t,u] }) env σ Q=vcX ((copyA (Dof P) σ t (ev G env x) (ev G env y)).map fun p=>[p]) none Q:=notRfl rfl
@[simp] theorem vcOp_cap {x:Operand} {t:TypeId}:vcOp P G mu false (.call { callee:=.builtin .cap,args:=#[x],argTypes:=#[t] }) env σ Q=vcX ((capA (Dof P) t (ev G env x)).map fun v=>[(v,σ)]) none Q:=notRfl rfl
end
attribute [simp] nilOr nilCmp nilIs sem ev opds acells loadA lenA builtinA binA intOp strOp indexAddrA indexA fieldAddrA fieldA asIntA cut asVal TD.agg ofV ofAtom envOf resA tupA fin fin2 fin1 pl1 noRef plain pl2 fnPost fnEnd callArgs extractA unA St.push storeA putAt AV.atom noRefs noRefss
section
variable {next:Env→St→Prop} {Q:Exit→Env→St→Prop} {env:Env} {σ:St}
@[simp] theorem aThen_normal:aThen next Q .normal env σ=next env σ:=notRfl rfl
@[simp] theorem aThen_ret:aThen next Q .ret env σ=Q .ret env σ:=notRfl rfl
@[simp] theorem aThen_exit {i:Nat}:aThen next Q (.exit i) env σ=Q (.exit i) env σ:=notRfl rfl
@[simp] theorem aBlock_normal {n:Nat}:aBlock n Q .normal env σ=Q .normal env σ:=notRfl rfl
@[simp] theorem aBlock_ret {n:Nat}:aBlock n Q .ret env σ=Q .ret env σ:=notRfl rfl
@[simp] theorem aBlock_exit {n i:Nat}:aBlock n Q (.exit i) env σ=if i=n then Q .normal env σ else Q (.exit i) env σ:=notRfl rfl
theorem vcLoop.intro {P:Program} {G:Glo} {o:Opts} {c:Code} (I:Nat→Env→St→Prop) (n:Nat) (h:I n env σ) (hr:∀ n env σ,I n env σ→vcC P G o c env σ (aThen (fun env' σ'=>∃ n',n' < n∧I n' env' σ') Q)):vcLoop P G o c env σ Q:=⟨I,n,h,hr⟩
end
attribute [simp] Leq LeqL Leq.refl LeqL.refl LeqC.refl LeqR.refl
end Go.Abs
end
section
namespace Go.Abs
open Go Go.RowKit
section
theorem wr {n:Int} (h : -9223372036854775808≤n) (h':n<9223372036854775808):IntKind.i64.wrap n=n:=by
 simp [IntKind.wrap,IntKind.bits,IntKind.signed];omega
theorem drop_cons {α:Type} {l:List α} {i:Nat} {v:α} (h:l[i]?=some v):l.drop i=v::l.drop (i+1):=by
 obtain⟨h1,h2⟩:=List.getElem?_eq_some_iff.1 h
 rw [List.drop_eq_getElem_cons h1,h2]
theorem pl1_noRef {a:AV} (h:noRef a=true):pl1 a=a:=by
 unfold pl1
 split
 · simp [noRef] at h
 · rfl
theorem pl1s_noRef:∀ {l:List AV},noRefs l=true→l.map pl1=l
 | [],_=>rfl
 | a::r,h=>by
  simp only [noRefs,Bool.and_eq_true] at h
  rw [List.map_cons,pl1_noRef h.1,pl1s_noRef h.2]
theorem pl2_noRef {a:AV} (h:noRef a=true):pl2 a=a:=by
 unfold pl2
 split
 · simp only [noRef] at h;simp [pl1s_noRef h]
 · exact pl1_noRef h
theorem pl2s_noRef:∀ {l:List AV},noRefs l=true→l.map pl2=l
 | [],_=>rfl
 | a::r,h=>by
  simp only [noRefs,Bool.and_eq_true] at h
  rw [List.map_cons,pl2_noRef h.1,pl2s_noRef h.2]
theorem plain_noRef {a:AV} (h:noRef a=true):plain a=a:=by
 unfold plain
 split
 · simp only [noRef] at h;simp [pl2s_noRef h]
 · exact pl2_noRef h
theorem plains_noRef:∀ {l:List AV},noRefs l=true→l.map plain=l
 | [],_=>rfl
 | a::r,h=>by
  simp only [noRefs,Bool.and_eq_true] at h
  rw [List.map_cons,plain_noRef h.1,plains_noRef h.2]
theorem frz_noRef {H:List Blk} {n:Nat} {a:AV} (h:noRef a=true):frz H n a=a:=by
 cases n<;>simp [frz,h]
theorem fin1_noRef {H:List Blk} {a:AV} (h:noRef a=true):fin1 H a=a:=by
 unfold fin1
 split
 · simp [noRef] at h
 · exact pl1_noRef h
theorem fin1s_noRef {H:List Blk}:∀ {l:List AV},noRefs l=true→l.map (fin1 H)=l
 | [],_=>rfl
 | a::r,h=>by
  simp only [noRefs,Bool.and_eq_true] at h
  rw [List.map_cons,fin1_noRef h.1,fin1s_noRef h.2]
theorem fin2_noRef {H:List Blk} {a:AV} (h:noRef a=true):fin2 H a=a:=by
 unfold fin2
 split
 · simp only [noRef] at h;simp [fin1s_noRef h]
 · exact fin1_noRef h
theorem noRefs_append:∀ {l m:List AV},noRefs (l++m)=(noRefs l&&noRefs m)
 | [],m=>by simp [noRefs]
 | a::r,m=>by simp [noRefs,noRefs_append (l:=r),Bool.and_assoc]
theorem noRefss_map {α:Type} {f:α→List AV} (h:∀ x,noRefs (f x)=true):∀ (l:List α),noRefss (l.map f)=true
 | []=>rfl
 | a::r=>by simp [noRefss,h,noRefss_map h r]
theorem noRefss_append {l m:List (List AV)}:noRefss (l++m)=(noRefss l&&noRefss m):=by
 simp [noRefss_eq]
theorem LeqR.of_eq {l m:List (List AV)} (h:l=m):LeqR l m:=h▸LeqR.refl l
theorem Leq.sl {sz:Nat} {l m:List (List AV)} {tok:Tok} (h:l=m):Leq (.sl sz l tok) (.sl sz m .none):=by
 subst h;simp [Leq,LeqR.refl]
theorem Leq.slnil {sz sz':Nat} {tok:Tok}:Leq (.sl sz [] tok) (.sl sz' [] .none):=by simp [Leq]
section
variable {P:Program} {G:Glo} {σ:St} {f:FuncId} {args args':List AV} {r r':AV} {Q:AV→St→Prop}
/-- A call of a function whose contract is known, with values that hold no reference. -/
theorem ACall.call (h:Pure P G f args r) (hno:noRefs args=true) (hq:Q r σ):ACall P G f args σ Q :=
 ACall.pure h (by rw [plains_noRef hno];exact hno) (by rw [plains_noRef hno];exact LeqL.refl _) hq
theorem vcCall.call {d:Bool} (h:Pure P G f args r) (hno:noRefs args=true) (hq:Q r σ):vcCall P G d f args σ Q :=
 vcCall.pure h (by rw [plains_noRef hno];exact hno) (by rw [plains_noRef hno];exact LeqL.refl _) hq
theorem vcCall.less {d:Bool} (h:Pure P G f args' r) (hno:noRefs args=true) (ha:LeqL args args') (hq:Q r σ):vcCall P G d f args σ Q :=
 vcCall.pure h (by rw [plains_noRef hno];exact hno) (by rw [plains_noRef hno];exact ha) hq
theorem ACall.less (h:Pure P G f args' r) (hno:noRefs args=true) (ha:LeqL args args') (hq:Q r σ):ACall P G f args σ Q :=
 ACall.pure h (by rw [plains_noRef hno];exact hno) (by rw [plains_noRef hno];exact ha) hq
end
end
end Go.Abs
end
