/- A part of the proof: AbsSimp AbsLib AbsData AbsSpec AbsShelf. -/
import Derived.Test.YtpgcmnabljandaaGreatDoorGa11
import Derived.Test.YtpgcmnabljandaaGreatDoorGa09
import Derived.Shelf.Lay
import Derived.Shelf.Strings.Search1
import Derived.WalkKit
set_option linter.unusedVariables false
set_option linter.unusedSimpArgs false
set_option maxRecDepth 100000
section
namespace Go.Abs
open Go Go.RowKit
theorem notRfl {p q:Prop} (h:p=q):p=q:=by rw [h]
@[congr] theorem vcCall_congr {P:Program} {G:Nat→AV} {d:Bool} {f:FuncId} {args args':List AV} {σ:St} {Q:AV→St→Prop} (h:args=args'):vcCall P G d f args σ Q=vcCall P G d f args' σ Q:=by rw [h]
def vcLoop (P:Program) (G:Nat→AV) (o:Opts) (c:Code) (env:Env) (σ:St) (Q:Exit→Env→St→Prop):Prop :=
 ∃ (I:Nat→Env→St→Prop) (n:Nat),I n env σ∧∀ n env σ,I n env σ→vcC P G o c env σ (aThen (fun env' σ'=>∃ n',n' < n∧I n' env' σ') Q)
@[congr] theorem vcIf_congr {c c':Bool} {A B:Prop} (h:c=c'):vcIf c A B=vcIf c' A B:=by rw [h]
@[simp] theorem vcIf_true {A B:Prop}:vcIf true A B=A:=by simp [vcIf]
@[simp] theorem vcIf_false {A B:Prop}:vcIf false A B=B:=by simp [vcIf]
@[simp low] theorem vcIf_both {c:Bool} {A B:Prop}:vcIf c A B=((c=true→A)∧(c=false→B)):=notRfl rfl
@[simp] theorem upd_some {env:Env} {d i:Nat} {v:AV}:upd env (some d) v i=if i=d then v else env i:=rfl
@[simp] theorem upd_none {env:Env} {v:AV}:upd env none v=env:=rfl
section
variable {P:Program} {G:Nat→AV} {o:Opts} {env:Env} {σ:St} {Q:Exit→Env→St→Prop}
@[simp] theorem vc_skip:vcC P G o .skip env σ Q=Q .normal env σ:=by simp only [vcC]
@[simp] theorem vc_ret:vcC P G o .ret env σ Q=Q .ret env σ:=by simp only [vcC]
@[simp] theorem vc_exit {id:Nat}:vcC P G o (.exit id) env σ Q=Q (.exit id) env σ:=by simp only [vcC]
@[simp] theorem vc_seq {x y:Code}:vcC P G o (.seq x y) env σ Q=vcC P G o x env σ (aThen (fun env σ=>vcC P G o y env σ Q) Q):=by simp only [vcC]
@[simp] theorem vc_block {id:Nat} {x:Code}:vcC P G o (.block id x) env σ Q=vcC P G o x env σ (aBlock id Q):=by simp only [vcC]
@[simp] theorem vc_loop {x:Code}:vcC P G o (.loop x) env σ Q=vcLoop P G o x env σ Q:=by simp only [vcC]<;>rfl
@[simp] theorem vc_region {id:Nat} {ops:Array Oper}:vcC P G o (.region id ops false) env σ Q=vcR P G o.mu ops false (o.lw.contains id) ops.toList env σ (fun env σ=>Q .normal env σ):=by simp only [vcC]
@[simp] theorem vc_draw0 {id:Nat} {ops:Array Oper}:vcC P G o0 (.region id ops true) env σ Q=vcR P G false ops true false ops.toList env σ (fun env σ=>Q .normal env σ):=by simp [vcC,o0]
theorem vc_draw {id:Nat} {ops:Array Oper} (h:o.fk.lookup id=none):vcC P G o (.region id ops true) env σ Q=vcR P G o.mu ops true (o.lw.contains id) ops.toList env σ (fun env σ=>Q .normal env σ):=by simp only [vcC,h]
@[simp] theorem vc_cond {c:Operand} {x y:Code} {b:Bool} (h:ev G env c=.bool b):vcC P G o (.cond c x y) env σ Q=vcIf b (vcC P G o x env σ Q) (vcC P G o y env σ Q):=by simp only [vcC,h]
@[simp] theorem o0_mu:o0.mu=false:=rfl
@[simp] theorem o0_lw:o0.lw=[]:=rfl
end
end Go.Abs
namespace Go.Abs
section
variable {P:Program} {G:Nat→AV} {mu:Bool} {ops:Array Oper} {d lw:Bool} {env:Env} {σ:St} {Q:Env→St→Prop}
@[simp] theorem vcR_nil:vcR P G mu ops d lw [] env σ Q=Q env σ:=notRfl rfl
@[simp] theorem vcR_run {dst:Option Nat} {op:Op} {type:TypeId} {pos:String} {after:Array Edge} {rest:List Oper} :
 vcR P G mu ops d false ({ dst:=dst,op:=op,type:=type,pos:=pos,after:=after,guard:=none }::rest) env σ Q=vcOp P G mu d op env σ (fun v σ'=>vcR P G mu ops d false rest (upd env dst v) σ' Q):=by
 rw [vcR,vcG]
 simp
def vcGuard (P:Program) (G:Nat→AV) (mu:Bool) (ops:Array Oper) (d:Bool) (x:Option Nat) (b:Bool) (dst:Option Nat) (op:Op) (rest:List Oper) (env:Env) (σ:St) (Q:Env→St→Prop):Prop :=
 match x with
 | some t=>match env t with
  | .bool c=>vcIf (c==b) (vcOp P G mu d op (upd env (some t) (.bool b)) σ (fun v σ'=>vcR P G mu ops d false rest (upd (upd env (some t) (.bool b)) dst v) σ' Q))
   (vcR P G mu ops d false rest (upd (upd env (some t) (.bool (!b))) dst (.tup [])) σ Q)
  | .tup []=>vcR P G mu ops d false rest (upd env dst (.tup [])) σ Q
  | _=>False
 | none=>vcR P G mu ops d false rest (upd env dst (.tup [])) σ Q
@[congr] theorem vcGuard_congr {x x':Option Nat} {b:Bool} {dst:Option Nat} {op:Op} {rest:List Oper} (h:x=x'):vcGuard P G mu ops d x b dst op rest env σ Q=vcGuard P G mu ops d x' b dst op rest env σ Q:=by rw [h]
@[simp] theorem vcR_guard {dst:Option Nat} {op:Op} {type:TypeId} {pos:String} {after:Array Edge} {rest:List Oper} {j:Nat} {b:Bool} :
 vcR P G mu ops d false ({ dst:=dst,op:=op,type:=type,pos:=pos,after:=after,guard:=some (j,b) }::rest) env σ Q=vcGuard P G mu ops d ((ops[j]?).bind (·.dst)) b dst op rest env σ Q:=by
 rw [vcR,vcG]
 simp only [Bool.false_and,Bool.not_false,Bool.and_true]
 rfl
@[simp] theorem vcGuard_none {b:Bool} {dst:Option Nat} {op:Op} {rest:List Oper}:vcGuard P G mu ops d none b dst op rest env σ Q=vcR P G mu ops d false rest (upd env dst (.tup [])) σ Q:=notRfl rfl
@[simp] theorem vcGuard_bool {t:Nat} {b c:Bool} {dst:Option Nat} {op:Op} {rest:List Oper} (h:env t=.bool c):vcGuard P G mu ops d (some t) b dst op rest env σ Q =
 vcIf (c==b) (vcOp P G mu d op (upd env (some t) (.bool b)) σ (fun v σ'=>vcR P G mu ops d false rest (upd (upd env (some t) (.bool b)) dst v) σ' Q)) (vcR P G mu ops d false rest (upd (upd env (some t) (.bool (!b))) dst (.tup [])) σ Q):=by
 simp only [vcGuard,h]
@[simp] theorem vcGuard_off {t:Nat} {b:Bool} {dst:Option Nat} {op:Op} {rest:List Oper} (h:env t=.tup []):vcGuard P G mu ops d (some t) b dst op rest env σ Q=vcR P G mu ops d false rest (upd env dst (.tup [])) σ Q:=by
 simp only [vcGuard,h]
end
section
variable {P:Program} {G:Nat→AV} {mu d:Bool} {env:Env} {σ:St} {Q:AV→St→Prop}
def vcSem (x:Option (AV×St)) (Q:AV→St→Prop):Prop:=match x with
 | some (v,σ)=>Q v σ
 | none=>False
@[congr] theorem vcSem_congr {x x':Option (AV×St)} (h:x=x'):vcSem x Q=vcSem x' Q:=by rw [h]
@[simp] theorem vcSem_some {v:AV} {σ:St}:vcSem (some (v,σ)) Q=Q v σ:=notRfl rfl
@[simp] theorem vcSem_none:vcSem none Q=False:=notRfl rfl
@[congr] theorem vcX_congr {l l':Option (List (AV×St))} {s s':Option (AV×St)} (h:l=l') (h':s=s'):vcX l s Q=vcX l' s' Q:=by rw [h,h']
@[simp] theorem vcX_none {s:Option (AV×St)}:vcX none s Q=vcSem s Q:=by simp only [vcX,vcSem];rfl
@[simp] theorem vcX_nil {s:Option (AV×St)}:vcX (some []) s Q=True:=by simp [vcX]
@[simp] theorem vcX_one {v:AV} {τ:St} {s:Option (AV×St)}:vcX (some [(v,τ)]) s Q=Q v τ:=by simp [vcX]
@[simp] theorem vcX_two {v v':AV} {τ τ':St} {s:Option (AV×St)}:vcX (some [(v,τ),(v',τ')]) s Q=(Q v τ∧Q v' τ'):=by
 simp only [vcX,eq_iff_iff]
 constructor
 · exact fun h=>⟨h _ _ (by simp),h _ _ (by simp)⟩
 · rintro⟨h1,h2⟩ a b hm
   simp only [List.mem_cons,Prod.mk.injEq,List.not_mem_nil,or_false] at hm
   rcases hm with ⟨rfl,rfl⟩|⟨rfl,rfl⟩
   · exact h1
   · exact h2
def vcFn (P:Program) (G:Nat→AV) (d:Bool) (f:AV) (args:List AV) (σ:St) (Q:AV→St→Prop):Prop:=match f with
 | .fn g first cap=>vcCall P G d g (callArgs first args cap) σ Q
 | _=>False
@[congr] theorem vcFn_congr {f f':AV} {args args':List AV} (h:f=f') (h':args=args'):vcFn P G d f args σ Q=vcFn P G d f' args' σ Q:=by rw [h,h']
@[simp] theorem vcFn_fn {g:FuncId} {first args cap:List AV}:vcFn P G d (.fn g first cap) args σ Q=vcCall P G d g (callArgs first args cap) σ Q:=notRfl rfl
@[simp] theorem vcOp_call {f:Operand} {a:Array Operand} {t:Array TypeId}:vcOp P G mu d (.call { callee:=.value f,args:=a,argTypes:=t }) env σ Q=vcFn P G d (ev G env f) (opds G env a.toList) σ Q:=notRfl rfl
@[simp] theorem vcOp_move {x:Operand}:vcOp P G mu d (.move x) env σ Q=vcSem (sem (Dof P) G env σ (.move x)) Q:=by cases d<;>rfl
@[simp] theorem vcOp_assign {x:Operand}:vcOp P G mu d (.assign x) env σ Q=vcSem (sem (Dof P) G env σ (.assign x)) Q:=by cases d<;>rfl
@[simp] theorem vcOp_pick {a b c:Operand}:vcOp P G mu d (.pick a b c) env σ Q=vcSem (sem (Dof P) G env σ (.pick a b c)) Q:=by cases d<;>rfl
@[simp] theorem vcOp_alloc {t:TypeId}:vcOp P G mu d (.alloc t) env σ Q=vcSem (sem (Dof P) G env σ (.alloc t)) Q:=by cases d<;>rfl
@[simp] theorem vcOp_box {t:TypeId} {x:Operand}:vcOp P G mu d (.box t x) env σ Q=vcSem (sem (Dof P) G env σ (.box t x)) Q:=by cases d<;>rfl
@[simp] theorem vcOp_build {t:TypeId} {p:Array (Nat×Operand)}:vcOp P G mu d (.build t p) env σ Q=vcSem (sem (Dof P) G env σ (.build t p)) Q:=by cases d<;>rfl
@[simp] theorem vcOp_buildSlice {t:TypeId} {n:Nat} {p:Array (Nat×Operand)}:vcOp P G mu d (.buildSlice t n p) env σ Q=vcSem (sem (Dof P) G env σ (.buildSlice t n p)) Q:=by cases d<;>rfl
@[simp] theorem vcOp_load {t:TypeId} {x:Operand}:vcOp P G mu d (.load t x) env σ Q=vcSem (sem (Dof P) G env σ (.load t x)) Q:=by cases d<;>rfl
@[simp] theorem vcOp_store {t:TypeId} {x y:Operand}:vcOp P G mu d (.store t x y) env σ Q=vcSem (sem (Dof P) G env σ (.store t x y)) Q:=by cases d<;>rfl
@[simp] theorem vcOp_nilCheck {x:Operand}:vcOp P G mu d (.nilCheck x) env σ Q=vcSem (sem (Dof P) G env σ (.nilCheck x)) Q:=by cases d<;>rfl
theorem vcX_off {s:Option (AV×St)}:vcX (pickX d none) s Q=vcSem s Q:=by cases d<;>exact vcX_none
@[simp] theorem vcOp_binOp {o:BinOp} {t u:TypeId} {x y:Operand} (h:o≠.eql) (h':o≠.neq):vcOp P G mu d (.binOp o t x y u) env σ Q=vcSem (sem (Dof P) G env σ (.binOp o t x y u)) Q:=by
 have:semX (Dof P) G mu env σ (.binOp o t x y u)=none:=by cases o<;>first | rfl | exact absurd rfl h | exact absurd rfl h'
 simp only [vcOp,this]
 exact vcX_off
def nilOr (d neg:Bool) (D:Nat→Option TI) (t:Nat) (x y:AV) (σ:St):Option (List (AV×St)):=match d with
 | true=>none
 | false=>nilCmp D neg t x y σ
@[simp] theorem vcOp_eql {t u:TypeId} {x y:Operand}:vcOp P G mu d (.binOp .eql t x y u) env σ Q=vcX (nilOr d false (Dof P) t (ev G env x) (ev G env y) σ) (sem (Dof P) G env σ (.binOp .eql t x y u)) Q:=by cases d<;>rfl
@[simp] theorem vcOp_neq {t u:TypeId} {x y:Operand}:vcOp P G mu d (.binOp .neq t x y u) env σ Q=vcX (nilOr d true (Dof P) t (ev G env x) (ev G env y) σ) (sem (Dof P) G env σ (.binOp .neq t x y u)) Q:=by cases d<;>rfl
@[simp] theorem vcOp_unOp {o:UnOp} {t:TypeId} {x:Operand}:vcOp P G mu d (.unOp o t x) env σ Q=vcSem (sem (Dof P) G env σ (.unOp o t x)) Q:=by cases d<;>rfl
@[simp] theorem vcOp_convert {t u:TypeId} {x:Operand}:vcOp P G mu d (.convert t u x) env σ Q=vcSem (sem (Dof P) G env σ (.convert t u x)) Q:=by cases d<;>rfl
@[simp] theorem vcOp_makeFunc {f:Fn} {a b:Array Operand}:vcOp P G mu d (.makeFunc f a b) env σ Q=vcSem (sem (Dof P) G env σ (.makeFunc f a b)) Q:=by cases d<;>rfl
@[simp] theorem vcOp_makeMap {t:TypeId} {r:Option Operand}:vcOp P G mu d (.makeMap t r) env σ Q=vcSem (sem (Dof P) G env σ (.makeMap t r)) Q:=by cases d<;>rfl
@[simp] theorem vcOp_makeSlice {t:TypeId} {x y:Operand}:vcOp P G mu d (.makeSlice t x y) env σ Q=vcSem (sem (Dof P) G env σ (.makeSlice t x y)) Q:=by cases d<;>rfl
@[simp] theorem vcOp_slice {t:TypeId} {x:Operand} {lo hi mx:Option Operand}:vcOp P G mu d (.slice t x lo hi mx) env σ Q=vcSem (sem (Dof P) G env σ (.slice t x lo hi mx)) Q:=by cases d<;>rfl
@[simp] theorem vcOp_fieldAddr {t:TypeId} {x:Operand} {i:Nat}:vcOp P G mu d (.fieldAddr t x i) env σ Q=vcSem (sem (Dof P) G env σ (.fieldAddr t x i)) Q:=by cases d<;>rfl
@[simp] theorem vcOp_field {t:TypeId} {x:Operand} {i:Nat}:vcOp P G mu d (.field t x i) env σ Q=vcSem (sem (Dof P) G env σ (.field t x i)) Q:=by cases d<;>rfl
@[simp] theorem vcOp_indexAddr {t:TypeId} {x y:Operand}:vcOp P G mu d (.indexAddr t x y) env σ Q=vcSem (sem (Dof P) G env σ (.indexAddr t x y)) Q:=by cases d<;>rfl
@[simp] theorem vcOp_index {t:TypeId} {x y:Operand}:vcOp P G mu d (.index t x y) env σ Q=vcSem (sem (Dof P) G env σ (.index t x y)) Q:=by cases d<;>rfl
@[simp] theorem vcOp_lookup {t:TypeId} {x y:Operand} {k:Bool}:vcOp P G mu d (.lookup t x y k) env σ Q=vcSem (sem (Dof P) G env σ (.lookup t x y k)) Q:=by cases d<;>rfl
@[simp] theorem vcOp_mapUpdate {t:TypeId} {x y z:Operand}:vcOp P G mu d (.mapUpdate t x y z) env σ Q=vcSem (sem (Dof P) G env σ (.mapUpdate t x y z)) Q:=by cases d<;>rfl
@[simp] theorem vcOp_range {t:TypeId} {x:Operand}:vcOp P G mu d (.range t x) env σ Q=vcSem (sem (Dof P) G env σ (.range t x)) Q:=by cases d<;>rfl
@[simp] theorem vcOp_next {x:Operand}:vcOp P G mu d (.next x true) env σ Q=vcSem (sem (Dof P) G env σ (.next x true)) Q:=by cases d<;>rfl
@[simp] theorem vcOp_mnext {x:Operand}:vcOp P G mu false (.next x false) env σ Q=vcX (nextsA σ (ev G env x)) none Q:=notRfl rfl
@[simp] theorem vcOp_entry {x:Operand}:vcOp P G mu false (.entry x) env σ Q=vcX ((entryA σ (ev G env x)).map fun v=>[(v,σ)]) none Q:=notRfl rfl
@[simp] theorem vcOp_insert {t:TypeId} {m k v:Operand}:vcOp P G mu false (.insert t m k v) env σ Q=vcX ((mapUpdateA (Dof P) σ t (ev G env m) (ev G env k) (ev G env v)).map fun σ'=>[(.tup [],σ')]) none Q:=notRfl rfl
@[simp] theorem vcOp_extract {x:Operand} {i:Nat}:vcOp P G mu d (.extract x i) env σ Q=vcSem (sem (Dof P) G env σ (.extract x i)) Q:=by cases d<;>rfl
@[simp] theorem vcOp_len {a:Array Operand} {t:Array TypeId}:vcOp P G mu d (.call { callee:=.builtin .len,args:=a,argTypes:=t }) env σ Q=vcSem (sem (Dof P) G env σ (.call { callee:=.builtin .len,args:=a,argTypes:=t })) Q:=by
 have:semX (Dof P) G mu env σ (.call { callee:=.builtin .len,args:=a,argTypes:=t })=none:=by simp only [semX]
 simp only [vcOp,this]
 exact vcX_off
@[simp] theorem vcOp_min {a:Array Operand} {t:Array TypeId}:vcOp P G mu d (.call { callee:=.builtin .min,args:=a,argTypes:=t }) env σ Q=vcSem (sem (Dof P) G env σ (.call { callee:=.builtin .min,args:=a,argTypes:=t })) Q:=by
 have:semX (Dof P) G mu env σ (.call { callee:=.builtin .min,args:=a,argTypes:=t })=none:=by simp only [semX]
 simp only [vcOp,this]
 exact vcX_off
@[simp] theorem vcOp_max {a:Array Operand} {t:Array TypeId}:vcOp P G mu d (.call { callee:=.builtin .max,args:=a,argTypes:=t }) env σ Q=vcSem (sem (Dof P) G env σ (.call { callee:=.builtin .max,args:=a,argTypes:=t })) Q:=by
 have:semX (Dof P) G mu env σ (.call { callee:=.builtin .max,args:=a,argTypes:=t })=none:=by simp only [semX]
 simp only [vcOp,this]
 exact vcX_off
@[simp] theorem vcOp_append {a:Array Operand} {t:Array TypeId}:vcOp P G false d (.call { callee:=.builtin .append,args:=a,argTypes:=t }) env σ Q=vcSem (sem (Dof P) G env σ (.call { callee:=.builtin .append,args:=a,argTypes:=t })) Q:=by
 have:semX (Dof P) G false env σ (.call { callee:=.builtin .append,args:=a,argTypes:=t })=none:=by
  simp only [semX]
  split<;>first | rfl | (rename_i h _ _;cases h;done) | (simp_all;done)
 simp only [vcOp,this]
 exact vcX_off
@[simp] theorem vcOp_appendM {s x:Operand} {t u:TypeId}:vcOp P G true false (.call { callee:=.builtin .append,args:=#[s,x],argTypes:=#[t,u] }) env σ Q=vcX ((appendX (Dof P) σ t u (ev G env s) (ev G env x)).map fun p=>[p]) (sem (Dof P) G env σ (.call { callee:=.builtin .append,args:=#[s,x],argTypes:=#[t,u] })) Q:=notRfl rfl
@[simp] theorem vcOp_clear {x:Operand} {t:TypeId}:vcOp P G mu false (.call { callee:=.builtin .clear,args:=#[x],argTypes:=#[t] }) env σ Q=vcX ((clearA (Dof P) σ t (ev G env x)).map fun σ'=>[(.tup [],σ')]) none Q:=notRfl rfl
@[simp] theorem vcOp_cap {x:Operand} {t:TypeId}:vcOp P G mu false (.call { callee:=.builtin .cap,args:=#[x],argTypes:=#[t] }) env σ Q=vcX ((capA (Dof P) t (ev G env x)).map fun v=>[(v,σ)]) none Q:=notRfl rfl
end
attribute [simp] nilOr nilCmp nilIs sem ev opds acells loadA lenA builtinA binA intOp strOp indexAddrA indexA fieldAddrA fieldA asIntA cut asVal TD.agg ofV ofAtom envOf resA tupA fin fin2 fin1 pl1 noRef plain pl2 fnPost fnEnd callArgs extractA unA St.push storeA putAt AV.atom noRefs noRefss
section
variable {next:Env→St→Prop} {Q:Exit→Env→St→Prop} {env:Env} {σ:St}
@[simp] theorem aThen_normal:aThen next Q .normal env σ=next env σ:=notRfl rfl
@[simp] theorem aThen_ret:aThen next Q .ret env σ=Q .ret env σ:=notRfl rfl
@[simp] theorem aThen_exit {i:Nat}:aThen next Q (.exit i) env σ=Q (.exit i) env σ:=notRfl rfl
@[simp] theorem aBlock_normal {n:Nat}:aBlock n Q .normal env σ=Q .normal env σ:=notRfl rfl
@[simp] theorem aBlock_ret {n:Nat}:aBlock n Q .ret env σ=Q .ret env σ:=notRfl rfl
@[simp] theorem aBlock_exit {n i:Nat}:aBlock n Q (.exit i) env σ=if i=n then Q .normal env σ else Q (.exit i) env σ:=notRfl rfl
theorem vcLoop.intro {P:Program} {G:Nat→AV} {o:Opts} {c:Code} (I:Nat→Env→St→Prop) (n:Nat) (h:I n env σ) (hr:∀ n env σ,I n env σ→vcC P G o c env σ (aThen (fun env' σ'=>∃ n',n' < n∧I n' env' σ') Q)):vcLoop P G o c env σ Q:=⟨I,n,h,hr⟩
end
attribute [simp] Leq LeqL Leq.refl LeqL.refl LeqC.refl LeqR.refl
end Go.Abs
end
section
namespace Go.Abs
open Go Go.RowKit
section
theorem wr {n:Int} (h : -9223372036854775808≤n) (h':n<9223372036854775808):IntKind.i64.wrap n=n:=by
 simp [IntKind.wrap,IntKind.bits,IntKind.signed];omega
theorem drop_cons {α:Type} {l:List α} {i:Nat} {v:α} (h:l[i]?=some v):l.drop i=v::l.drop (i+1):=by
 obtain⟨h1,h2⟩:=List.getElem?_eq_some_iff.1 h
 rw [List.drop_eq_getElem_cons h1,h2]
theorem pl1_noRef {a:AV} (h:noRef a=true):pl1 a=a:=by
 unfold pl1
 split
 · simp [noRef] at h
 · rfl
theorem pl1s_noRef:∀ {l:List AV},noRefs l=true→l.map pl1=l
 | [],_=>rfl
 | a::r,h=>by
  simp only [noRefs,Bool.and_eq_true] at h
  rw [List.map_cons,pl1_noRef h.1,pl1s_noRef h.2]
theorem pl2_noRef {a:AV} (h:noRef a=true):pl2 a=a:=by
 unfold pl2
 split
 · simp only [noRef] at h;simp [pl1s_noRef h]
 · exact pl1_noRef h
theorem pl2s_noRef:∀ {l:List AV},noRefs l=true→l.map pl2=l
 | [],_=>rfl
 | a::r,h=>by
  simp only [noRefs,Bool.and_eq_true] at h
  rw [List.map_cons,pl2_noRef h.1,pl2s_noRef h.2]
theorem plain_noRef {a:AV} (h:noRef a=true):plain a=a:=by
 unfold plain
 split
 · simp only [noRef] at h;simp [pl2s_noRef h]
 · exact pl2_noRef h
theorem plains_noRef:∀ {l:List AV},noRefs l=true→l.map plain=l
 | [],_=>rfl
 | a::r,h=>by
  simp only [noRefs,Bool.and_eq_true] at h
  rw [List.map_cons,plain_noRef h.1,plains_noRef h.2]
theorem frz_noRef {H:List Blk} {n:Nat} {a:AV} (h:noRef a=true):frz H n a=a:=by
 cases n<;>simp [frz,h]
theorem noRefs_append:∀ {l m:List AV},noRefs (l++m)=(noRefs l&&noRefs m)
 | [],m=>by simp [noRefs]
 | a::r,m=>by simp [noRefs,noRefs_append (l:=r),Bool.and_assoc]
theorem noRefss_map {α:Type} {f:α→List AV} (h:∀ x,noRefs (f x)=true):∀ (l:List α),noRefss (l.map f)=true
 | []=>rfl
 | a::r=>by simp [noRefss,h,noRefss_map h r]
theorem noRefss_append {l m:List (List AV)}:noRefss (l++m)=(noRefss l&&noRefss m):=by
 simp [noRefss_eq]
theorem Leq.sl {sz:Nat} {l m:List (List AV)} {tok:Tok} (h:l=m):Leq (.sl sz l tok) (.sl sz m .none):=by
 subst h;simp [Leq,LeqR.refl]
theorem Leq.slnil {sz sz':Nat} {tok:Tok}:Leq (.sl sz [] tok) (.sl sz' [] .none):=by simp [Leq]
section
variable {P:Program} {G:Nat→AV} {σ:St} {f:FuncId} {args args':List AV} {r r':AV} {Q:AV→St→Prop}
theorem ACall.call (h:Pure P G f args r) (hno:noRefs args=true) (hq:Q r σ):ACall P G f args σ Q :=
 ACall.pure h (by rw [plains_noRef hno];exact hno) (by rw [plains_noRef hno];exact LeqL.refl _) hq
theorem vcCall.call {d:Bool} (h:Pure P G f args r) (hno:noRefs args=true) (hq:Q r σ):vcCall P G d f args σ Q :=
 vcCall.pure h (by rw [plains_noRef hno];exact hno) (by rw [plains_noRef hno];exact LeqL.refl _) hq
theorem vcCall.less {d:Bool} (h:Pure P G f args' r) (hno:noRefs args=true) (ha:LeqL args args') (hq:Q r σ):vcCall P G d f args σ Q :=
 vcCall.pure h (by rw [plains_noRef hno];exact hno) (by rw [plains_noRef hno];exact ha) hq
end
end
end Go.Abs
end
section
namespace Go.Proofs.YtpgcmnabljandaaGreatDoor
open Go Go.Abs
abbrev Str:=List UInt8
structure Var where
 name:Str
 width:Int
 mode:Int
 value:Int
structure Weight where
 lo:Int
 hi:Int
 weight:Int
 each:Bool
structure Dist where
 var:Int
 weights:List Weight
inductive Ex where
 | mk (op n:Int) (name:Str) (args:List Ex)
structure Problem where
 vars:List Var
 hard:List Ex
 soft:List Ex
 dists:List Dist
 groups:List (List Int)
structure Signal where
 name:Str
 value:Int
def Ex.op:Ex→Int | .mk o _ _ _=>o
def Ex.n:Ex→Int | .mk _ n _ _=>n
def Ex.name:Ex→Str | .mk _ _ s _=>s
def Ex.args:Ex→List Ex | .mk _ _ _ a=>a
@[simp] theorem Ex.op_mk {o n:Int} {s:Str} {a:List Ex}:(Ex.mk o n s a).op=o:=rfl
@[simp] theorem Ex.n_mk {o n:Int} {s:Str} {a:List Ex}:(Ex.mk o n s a).n=n:=rfl
@[simp] theorem Ex.name_mk {o n:Int} {s:Str} {a:List Ex}:(Ex.mk o n s a).name=s:=rfl
@[simp] theorem Ex.args_mk {o n:Int} {s:Str} {a:List Ex}:(Ex.mk o n s a).args=a:=rfl
@[simp] def encVar (v:Var):List AV:=[.str v.name,.int .i64 v.width,.int .i64 v.mode,.int .i64 v.value]
@[simp] def encWeight (w:Weight):List AV:=[.int .i64 w.lo,.int .i64 w.hi,.int .i64 w.weight,.bool w.each]
@[simp] def encDist (d:Dist):List AV:=[.int .i64 d.var,.sl 4 (d.weights.map encWeight) .none]
@[simp] def encInt (n:Int):List AV:=[.int .i64 n]
@[simp] def encStr (s:Str):List AV:=[.str s]
@[simp] def encSignal (s:Signal):List AV:=[.str s.name,.int .i64 s.value]
mutual
def encE:Ex→List AV
 | .mk o n s a=>[.int .i64 o,.int .i64 n,.str s,.sl 4 (encEs a) .none]
def encEs:List Ex→List (List AV)
 | []=>[]
 | a::r=>encE a::encEs r
end
@[simp] theorem encEs_eq:∀ l,encEs l=l.map encE
 | []=>rfl
 | a::r=>by simp [encEs,encEs_eq r]
theorem encE_eq (e:Ex):encE e=[.int .i64 e.op,.int .i64 e.n,.str e.name,.sl 4 (e.args.map encE) .none]:=by cases e;simp [encE]
@[simp] def encInts (l:List Int):List AV:=[.sl 1 (l.map encInt) .none]
@[simp] def encP (p:Problem):List AV:=[.sl 4 (p.vars.map encVar) .none,.sl 4 (p.hard.map encE) .none,.sl 4 (p.soft.map encE) .none,.sl 2 (p.dists.map encDist) .none,.sl 1 (p.groups.map encInts) .none]
@[simp] theorem nrVar (l:List Var):noRefss (l.map encVar)=true:=noRefss_map (fun x=>by simp) l
@[simp] theorem nrWeight (l:List Weight):noRefss (l.map encWeight)=true:=noRefss_map (fun x=>by simp) l
@[simp] theorem nrDist (l:List Dist):noRefss (l.map encDist)=true:=noRefss_map (fun x=>by simp) l
@[simp] theorem nrInt (l:List Int):noRefss (l.map encInt)=true:=noRefss_map (fun x=>by simp) l
@[simp] theorem nrStr (l:List Str):noRefss (l.map encStr)=true:=noRefss_map (fun x=>by simp) l
@[simp] theorem nrSignal (l:List Signal):noRefss (l.map encSignal)=true:=noRefss_map (fun x=>by simp) l
@[simp] theorem nrInts (l:List (List Int)):noRefss (l.map encInts)=true:=noRefss_map (fun x=>by simp) l
mutual
theorem nrE':∀ e,noRefs (encE e)=true
 | .mk o n s a=>by
  have:=nrEs' a
  simp [encE,this]
  simpa using this
theorem nrEs':∀ l,noRefss (encEs l)=true
 | []=>rfl
 | a::r=>by simp only [encEs,noRefss,nrE' a,nrEs' r,Bool.and_self]
end
@[simp] theorem nrE (e:Ex):noRefs (encE e)=true:=nrE' e
@[simp] theorem nrEs (l:List Ex):noRefss (l.map encE)=true:=noRefss_map (fun x=>nrE x) l
theorem mixed:Tryz.prog.follows .mixedOrders=true:=by kernel_rfl
abbrev Fits {α:Type} (l:List α):Prop:=l.length<9223372036854775808
def findI {α:Type} (p:α→Bool):List α→Int→Int
 | [],_=>-1
 | v::r,i=>if p v then i else findI p r (i+1)
theorem findI_ge {α:Type} {p:α→Bool}:∀ {l:List α} {i:Int},0≤i→(0≤findI p l i↔l.any p=true)
 | [],i,_=>by simp [findI]
 | v::r,i,h=>by
  simp only [findI,List.any_cons]
  split
  · rename_i hp;simp [hp,h]
  · rename_i hp;simp [hp,findI_ge (l:=r) (i:=i+1) (by omega)]
@[simp] theorem findI_dec {α:Type} (p:α→Bool) (l:List α):decide (0≤findI p l 0)=l.any p:=by
 rw [Bool.eq_iff_iff,decide_eq_true_iff]
 exact findI_ge (by omega)
end Go.Proofs.YtpgcmnabljandaaGreatDoor
end
section
namespace Go.Proofs.YtpgcmnabljandaaGreatDoor
open Go Go.Abs
def keyw:List Str:=[[99,108,97,115,115],[101,120,116,101,110,100,115],[114,97,110,100],[114,97,110,100,99],[115,116,97,116,101],[99,111,110,115,116,114,97,105,110,116],[115,111,102,116],[100,105,115,116],[105,102],[101,108,115,101],[101,97,99,104],[105,110],[115,111,108,118,101],[98,101,102,111,114,101],[105,110,115,105,100,101],[112,114,111,112,101,114,116,121],[115,101,113],[97,110,100],[111,114],[110,111,116],[115,101,116],[104,111,108,100],[112,108,97,105,110],[114,101,112,101,97,116]]
def lowerI (n:Int):Bool:=decide (97≤n)&&decide (n≤122)
def digitI (n:Int):Bool:=decide (48≤n)&&decide (n≤57)
def innerI (n:Int):Bool:=lowerI n||digitI n||(decide (65≤n)&&decide (n≤90))||decide (n=95)
def innerB (c:UInt8):Bool:=innerI c.toNat
def wordS:Str→Bool
 | []=>false
 | c::r=>lowerI c.toNat&&(c::r).all innerB
def nameS (s:Str):Bool:=wordS s&&decide (s.length≤16)&&!keyw.contains s
theorem nameS_inner {s:Str} (h:nameS s=true):∀ c∈s,innerB c=true:=by
 simp only [nameS,Bool.and_eq_true] at h
 obtain⟨⟨h,_⟩,_⟩:=h
 cases s with
 | nil=>simp
 | cons c r=>
  simp only [wordS,Bool.and_eq_true] at h
  exact fun x hx=>List.all_eq_true.1 h.2 x hx
theorem nameS_no91 {s:Str} (h:nameS s=true):∀ c∈s,c≠91:=by
 intro c hc e
 have:=nameS_inner h c hc
 subst e
 revert this
 decide
def elemS (a:Str) (i:Nat):Str:=a++[91,UInt8.ofNat (48+i),93]
@[simp] theorem elemS_length {a:Str} {i:Nat}:(elemS a i).length=a.length+3:=by simp [elemS]
theorem elemS_inj {a b:Str} {i j:Nat} (hi:i<8) (hj:j<8) (h:elemS a i=elemS b j):a=b∧i=j:=by
 obtain⟨h1,h2⟩:=List.append_inj' h rfl
 refine⟨h1,?_⟩
 simp only [List.cons.injEq,true_and,and_true] at h2
 have:=congrArg UInt8.toNat h2
 simp only [UInt8.toNat_ofNat'] at this
 omega
def IsElem (s a:Str) (i:Nat):Prop:=i<8∧nameS a=true∧s=elemS a i
theorem IsElem.unique {s a b:Str} {i j:Nat} (h:IsElem s a i) (h':IsElem s b j):a=b∧i=j:=elemS_inj h.1 h'.1 (h.2.2.symm.trans h'.2.2)
open Classical in
noncomputable def elemO (s:Str):Option (Str×Nat):=if h:∃ p:Str×Nat,IsElem s p.1 p.2 then some h.choose else none
theorem elemO_eq {s a:Str} {i:Nat} (h:IsElem s a i):elemO s=some (a,i):=by
 have hex:∃ p:Str×Nat,IsElem s p.1 p.2:=⟨(a,i),h⟩
 unfold elemO
 rw [dif_pos hex]
 obtain⟨h1,h2⟩:=hex.choose_spec.unique h
 rw [← h1,← h2]
theorem elemO_some {s a:Str} {i:Nat}:elemO s=some (a,i)↔IsElem s a i:=by
 constructor
 · intro h
   unfold elemO at h
   split at h
   · rename_i hex
     have:=hex.choose_spec
     rw [Option.some.inj h] at this
     exact this
   · cases h
 · exact elemO_eq
theorem elemO_none {s:Str}:elemO s=none↔∀ a i,¬ IsElem s a i:=by
 constructor
 · intro h a i hi
   rw [elemO_eq hi] at h;cases h
 · intro h
   cases e:elemO s with
   | none=>rfl
   | some p=>exact absurd (elemO_some.1 (show elemO s=some (p.1,p.2) from e)) (h _ _)
noncomputable def varS (s:Str):Bool:=nameS s||(elemO s).isSome
def headS (s:Str):Str:=s.takeWhile (· != 91)
def tailS (s:Str):Str:=(s.dropWhile (· != 91)).tail
theorem cut_eq {s:Str} (h:s.contains 91=true):s=headS s++91::tailS s:=by
 unfold headS tailS
 induction s with
 | nil=>simp at h
 | cons c r ih=>
  by_cases hc:c=91
  · subst hc;simp
  · have:r.contains 91=true:=by
     simp only [List.contains_cons,Bool.or_eq_true,beq_iff_eq] at h
     rcases h with h|h
     · exact absurd h.symm hc
     · exact h
    have hb:(c != 91)=true:=by simpa using hc
    rw [List.takeWhile_cons,List.dropWhile_cons,if_pos hb,if_pos hb,List.cons_append,← ih this]
theorem headS_elem {a:Str} {t:Str} (h:∀ c∈a,c≠91):headS (a++91::t)=a:=by
 unfold headS
 induction a with
 | nil=>simp
 | cons c r ih=>
  have hb:(c != 91)=true:=by simpa using h c (by simp)
  rw [List.cons_append,List.takeWhile_cons,if_pos hb,ih fun x hx=>h x (by simp [hx])]
theorem tailS_elem {a:Str} {t:Str} (h:∀ c∈a,c≠91):tailS (a++91::t)=t:=by
 unfold tailS
 induction a with
 | nil=>simp
 | cons c r ih=>
  have hb:(c != 91)=true:=by simpa using h c (by simp)
  rw [List.cons_append,List.dropWhile_cons,if_pos hb,ih fun x hx=>h x (by simp [hx])]
theorem elem_has {a:Str} {i:Nat}:(elemS a i).contains 91=true:=by simp [elemS]
theorem IsElem.has {s a:Str} {i:Nat} (h:IsElem s a i):s.contains 91=true∧headS s=a∧tailS s=[UInt8.ofNat (48+i),93]:=by
 obtain⟨h1,h2,rfl⟩:=h
 exact⟨elem_has,headS_elem (nameS_no91 h2),tailS_elem (nameS_no91 h2)⟩
theorem no_elem {s:Str} (h:s.contains 91=false):elemO s=none:=by
 rw [elemO_none]
 intro a i hi
 rw [hi.has.1] at h;cases h
def firstE {α:Type} (f:α→Int):List α→Int
 | []=>0
 | a::r=>if f a=0 then firstE f r else f a
theorem firstE_append {α:Type} {f:α→Int}:∀ {l m:List α},firstE f (l++m)=if firstE f l=0 then firstE f m else firstE f l
 | [],m=>by simp [firstE]
 | a::r,m=>by
  simp only [List.cons_append,firstE]
  split
  · exact firstE_append
  · rename_i h;simp [h]
theorem firstE_zero {α:Type} {f:α→Int}:∀ {l:List α},firstE f l=0↔∀ a∈l,f a=0
 | []=>by simp [firstE]
 | a::r=>by
  simp only [firstE,List.mem_cons,forall_eq_or_imp]
  split
  · rename_i h;simp [h,firstE_zero]
  · rename_i h;simp [h]
noncomputable def varE (v:Var):Int :=
 if varS v.name=false then 7
 else if v.width<1∨8<v.width∨v.mode<0∨2<v.mode∨v.value<0∨(2:Int) ^ v.width.toNat≤v.value∨(v.mode≠0∧v.value≠0) then 1
 else 0
def hasV (l:List Var) (name:Str):Bool:=l.any fun v=>v.name==name
def dupAt (l:List Var) (i:Nat):Bool:=match l[i]? with
 | some v=>hasV (l.take i) v.name
 | none=>false
def dupS (l:List Var):Bool:=(List.range l.length).any (dupAt l)
open Classical in
noncomputable def gapS (l:List Var) (name:Str):Bool:=match elemO name with
 | some (a,i+1)=>!hasV l (elemS a i)
 | _=>false
def bitsV:List Var→Int
 | []=>0
 | v::r=>(if v.mode≠0 then v.width else 0)+bitsV r
noncomputable def varsS (l:List Var):Int :=
 if 16<l.length then 2
 else if firstE varE l≠0 then firstE varE l
 else if dupS l=true then 8
 else if l.any (fun v=>gapS l v.name)=true then 10
 else if 20<bitsV l then 2
 else 0
mutual
theorem Ex.ind {p:Ex→Prop} (h:∀ e,(∀ a∈e.args,p a)→p e):∀ e,p e
 | .mk o n s a=>h _ (by simpa using Ex.indL h a)
theorem Ex.indL {p:Ex→Prop} (h:∀ e,(∀ a∈e.args,p a)→p e):∀ (l:List Ex),∀ a∈l,p a
 | [],_,hm=>by cases hm
 | e::r,a,hm=>by
  rcases List.mem_cons.1 hm with hm|hm
  · rw [hm];exact Ex.ind h e
  · exact Ex.indL h r a hm
end
mutual
def pre:Ex→List Ex
 | .mk o n s a=>.mk o n s a::preL a
def preL:List Ex→List Ex
 | []=>[]
 | e::r=>pre e++preL r
end
theorem pre_eq (e:Ex):pre e=e::preL e.args:=by cases e;simp [pre]
@[simp] theorem preL_nil:preL []=[]:=by simp [preL]
@[simp] theorem preL_cons {e:Ex} {r:List Ex}:preL (e::r)=pre e++preL r:=by simp [preL]
theorem preL_append:∀ {l m:List Ex},preL (l++m)=preL l++preL m
 | [],m=>by simp
 | e::r,m=>by simp [preL_append (l:=r),List.append_assoc]
mutual
def hgt:Ex→Nat
 | .mk _ _ _ a=>hgtL a+1
def hgtL:List Ex→Nat
 | []=>0
 | e::r=>max (hgt e) (hgtL r)
end
theorem hgt_eq (e:Ex):hgt e=hgtL e.args+1:=by cases e;simp [hgt]
@[simp] theorem hgtL_nil:hgtL []=0:=by simp [hgtL]
@[simp] theorem hgtL_cons {e:Ex} {r:List Ex}:hgtL (e::r)=max (hgt e) (hgtL r):=by simp [hgtL]
theorem hgtL_mem {l:List Ex} {e:Ex} (h:e∈l):hgt e≤hgtL l:=by
 induction l with
 | nil=>cases h
 | cons a r ih=>
  rcases List.mem_cons.1 h with rfl|h
  · simp;omega
  · have:=ih h;simp;omega
theorem hgt_arg {e a:Ex} (h:a∈e.args):hgt a<hgt e:=by
 have:=hgtL_mem h
 rw [hgt_eq e];omega
def Wee (e:Ex):Prop:=∀ x∈pre e,Fits x.args
theorem Wee.fits {e:Ex} (h:Wee e):Fits e.args:=h e (by rw [pre_eq];simp)
theorem mem_preL {l:List Ex} {x:Ex}:x∈preL l↔∃ a∈l,x∈pre a:=by
 induction l with
 | nil=>simp
 | cons e r ih=>simp [ih]
theorem Wee.arg {e a:Ex} (h:Wee e) (ha:a∈e.args):Wee a:=fun x hx=>h x (by rw [pre_eq];exact List.mem_cons_of_mem _ (mem_preL.2 ⟨a,ha,hx⟩))
def arityS (op:Int):Int :=
 if op=1∨op=2∨op=24 then 0
 else if op=3∨op=4∨op=5∨op=6∨op=25 then 1
 else if op=22 then 3
 else if op=23 then -1
 else if op<1∨25<op then -1
 else 2
def operandsS (e:Ex):Bool :=
 if e.op=23 then decide (e.args.length % 2=1∧3≤e.args.length∧e.args.length≤33)
 else decide ((e.args.length:Int)=arityS e.op)
noncomputable def nodeE (e:Ex):Int :=
 if e.op<1∨25<e.op then 1
 else if (e.op=1∧(e.n<0∨65535<e.n))∨(e.op≠1∧e.n≠0) then 1
 else if (¬ (e.op=2∨e.op=3∨e.op=24)∧e.name≠[])∨operandsS e=false then 1
 else if (e.op=2∧varS e.name=false)∨((e.op=3∨e.op=24)∧nameS e.name=false) then 7
 else 0
def sizeS (e:Ex):Int:=IntKind.i64.wrap (pre e).length
noncomputable def validE (e:Ex):Int :=
 if firstE nodeE (pre e)=0∧(24<hgt e∨400<sizeS e) then 2 else firstE nodeE (pre e)
def addN (ops:List Int) (out:List Str) (e:Ex):List Str:=if ops.contains e.op&&!out.contains e.name then out++[e.name] else out
def namesS (ops:List Int) (e:Ex):List Str:=(pre e).foldl (addN ops) []
theorem addN_mem {ops:List Int} {out:List Str} {e:Ex} {s:Str}:s∈addN ops out e↔s∈out∨(ops.contains e.op=true∧s=e.name):=by
 unfold addN
 by_cases h1:e.op∈ops
 · by_cases h2:e.name∈out
   · simp only [List.contains_iff_mem.2 h1,List.contains_iff_mem.2 h2,Bool.not_true,Bool.and_false,Bool.false_eq_true,if_false,true_and]
     constructor
     · exact .inl
     · rintro (h|rfl)
       · exact h
       · exact h2
   · simp [h1,h2]
 · simp [h1]
theorem foldN_mem {ops:List Int} {s:Str}:∀ {l:List Ex} {out:List Str},s∈l.foldl (addN ops) out↔s∈out∨∃ e∈l,ops.contains e.op=true∧s=e.name
 | [],out=>by simp
 | e::r,out=>by
  rw [List.foldl_cons,foldN_mem,addN_mem]
  simp only [List.mem_cons,exists_eq_or_imp]
  constructor
  · rintro ((h|h)|h)
    · exact .inl h
    · exact .inr (.inl h)
    · exact .inr (.inr h)
  · rintro (h|h|h)
    · exact .inl (.inl h)
    · exact .inl (.inr h)
    · exact .inr h
theorem namesS_mem {ops:List Int} {e:Ex} {s:Str}:s∈namesS ops e↔∃ x∈pre e,ops.contains x.op=true∧s=x.name:=by
 unfold namesS;rw [foldN_mem];simp
def arrB (e:Ex):Bool:=(pre e).any fun x=>decide (x.op=3∨x.op=24)
def forB (l:List Var) (e:Ex):Bool:=(pre e).any fun x=>decide (x.op=2)&&!hasV l x.name
theorem arrB_names {e:Ex}:decide (0<(namesS [3,24] e).length)=arrB e:=by
 rw [Bool.eq_iff_iff,decide_eq_true_iff,List.length_pos_iff_exists_mem,arrB,List.any_eq_true]
 constructor
 · rintro⟨s,hs⟩
   obtain⟨x,h1,h2,_⟩:=namesS_mem.1 hs
   exact⟨x,h1,by simpa using h2⟩
 · rintro⟨x,h1,h2⟩
   exact⟨x.name,namesS_mem.2 ⟨x,h1,by simpa using h2,rfl⟩⟩
theorem forB_names {l:List Var} {e:Ex}:(namesS [2] e).any (fun s=>!hasV l s)=forB l e:=by
 rw [Bool.eq_iff_iff,forB,List.any_eq_true,List.any_eq_true]
 constructor
 · rintro⟨s,hs,h⟩
   obtain⟨x,h1,h2,rfl⟩:=namesS_mem.1 hs
   exact⟨x,h1,by simp only [Bool.and_eq_true,decide_eq_true_eq];exact⟨by simpa using h2,h⟩⟩
 · rintro⟨x,h1,h2⟩
   simp only [Bool.and_eq_true,decide_eq_true_eq] at h2
   exact⟨x.name,namesS_mem.2 ⟨x,h1,by simpa using h2.1,rfl⟩,h2.2⟩
noncomputable def exprE (l:List Var) (e:Ex):Int :=
 if validE e≠0 then validE e else if arrB e=true then 9 else if forB l e=true then 7 else 0
def rndS (l:List Var) (i:Int):Bool:=decide (0≤i)&&(l[i.toNat]?).any fun v=>v.mode != 0
def weightB (w:Weight):Bool:=decide (w.lo<0)||decide (w.hi<w.lo)||decide (65535<w.hi)||decide (w.weight<0)||decide (1000<w.weight)
def distE (l:List Var) (d:List Dist) (i:Nat):Int:=match d[i]? with
 | some x=>if rndS l x.var=false then 1 else if (d.take i).any (fun y=>y.var==x.var)=true then 8 else if 16<x.weights.length then 2 else if x.weights.any weightB=true then 1 else 0
 | none=>0
def distsS (l:List Var) (d:List Dist):Int:=firstE (distE l d) (List.range d.length)
def GroupsOk (l:List Var) (g:List (List Int)):Prop:=(∀ x∈g,x≠[])∧(∀ i∈g.flatten,rndS l i=true)∧g.flatten.Nodup∧∀ i:Nat,i<l.length→rndS l i=true→(i:Int)∈g.flatten
open Classical in
noncomputable def groupsS (l:List Var) (g:List (List Int)):Int:=if GroupsOk l g then 0 else 1
noncomputable def validP (p:Problem):Int :=
 if varsS p.vars≠0 then varsS p.vars
 else if firstE (exprE p.vars) (p.hard++p.soft)≠0 then firstE (exprE p.vars) (p.hard++p.soft)
 else if distsS p.vars p.dists≠0 then distsS p.vars p.dists
 else groupsS p.vars p.groups
end Go.Proofs.YtpgcmnabljandaaGreatDoor
end
section
namespace Go.Proofs.YtpgcmnabljandaaGreatDoor
open Go Go.Abs Go.RowKit
theorem calls368 (s:ByteArray) (c:Int) (w:World) :
 Calls Tryz.prog 368 #[.string s,.int .u8 c] w fun e w'=>e=.returned (.int .i64 (Lib.indexByte s.data.toList c.toNat.toUInt8))∧w'=w:=by
 have t3:=Tryz.underlying3;have t5:=Tryz.underlying5;have t9:=Tryz.underlying9
 have a3:∀ w,(isAgg 3).run Tryz.prog w=.ok false w:=run_isAgg_plain t3 rfl;have a5:∀ w,(isAgg 5).run Tryz.prog w=.ok false w:=run_isAgg_plain t5 rfl;have a9:∀ w,(isAgg 9).run Tryz.prog w=.ok false w:=run_isAgg_plain t9 rfl
 go_enter Tryz.func368,Tryz.ntmps368
 go_wp2
 rw [run_callFunc_extern Tryz.func382 (by kernel_rfl) (by kernel_rfl) (by kernel_rfl) (e:=Extern.BytealgIndexByte.indexByte) (by kernel_rfl),Lib.run_indexByteString]
 simp only [Result.andThen]
 rw [Oper.upon_value]
 go_wp2
 go_ret
 exact⟨rfl,rfl⟩
theorem indexByte368 (G:Nat→AV) (s:Str) (c:Int):Pure Tryz.prog G 368 [.str s,.int .u8 c] (.int .i64 (Lib.indexByte s c.toNat.toUInt8)):=by
 refine⟨by kernel_rfl,fun w0 ro vs hg hro hvs=>?_⟩
 simp only [VRels,VRel] at hvs
 obtain⟨v,vr,e1,rfl,v2,vr2,rfl,rfl,rfl⟩:=hvs
 have:vs = #[.string ⟨s.toArray⟩,.int .u8 c]:=by rw [← Array.toArray_toList (xs:=vs),e1]
 subst this
 refine (calls368 _ _ _).mono ?_
 rintro e w' ⟨rfl,rfl⟩
 exact⟨_,ro,rfl,.refl _ _,fun _ _ _ h=>h,hro,fun _ _ _ h _=>h,by simp [VRel]⟩
end Go.Proofs.YtpgcmnabljandaaGreatDoor
end
