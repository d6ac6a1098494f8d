/- A part of the proof. -/
import Derived.Test.YtpgcmnabljandaaGreatDoorPa05
set_option linter.unusedVariables false
set_option linter.unusedSimpArgs false
set_option linter.defProp false
attribute [local simp] Go.Abs.acells Go.Abs.fin Go.Abs.zh Go.Abs.ze Go.Abs.pl1 Go.Abs.plain Go.Abs.pl2 Go.Abs.AV.atom
section
namespace Go.Abs
open Go Go.RowKit
theorem z7 {p q:Prop}(h:p=q):p=q:=by rw[h]
@[congr]theorem qod {P:Program}{G:Nat->AV}{d:Bool}{f:FuncId}{args args':List AV}{O:St}{Q:AV->St->Prop}(h:args=args'):qe P G d f args O Q=qe P G d f args' O Q:=by rw[h]
def qC (P:Program)(G:Nat->AV)(o:Opts)(c:Code)(env:Env)(O:St)(Q:Exit->Env->St->Prop):Prop :=
 ∃ (I:Nat->Env->St->Prop) (n:Nat),I n env O/\∀ n env O,I n env O->vcC P G o c env O (vW (fun env' O'=>∃ n',n' < n/\I n' env' O') Q)
@[congr]theorem vcIf_congr {c c':Bool}{A B:Prop}(h:c=c'):qhj c A B=qhj c' A B:=by rw[h]
@[simp]theorem vcIf_true {A B:Prop}:qhj true A B=A:=by simp[qhj]
@[simp]theorem vcIf_false {A B:Prop}:qhj false A B=B:=by simp[qhj]
@[simp low]theorem vcIf_both {c:Bool}{A B:Prop}:qhj c A B=((c=true->A)/\(c=false->B)):=z7 rfl
@[simp]theorem upd_some {env:Env}{d i:Nat}{v:AV}:upd env (some d) v i=if i=d then v else env i:=rfl
@[simp]theorem upd_none {env:Env}{v:AV}:upd env none v=env:=rfl
section
variable {P:Program}{G:Nat->AV}{o:Opts}{env:Env}{O:St}{Q:Exit->Env->St->Prop}
@[simp]theorem vc_skip:vcC P G o .skip env O Q=Q .normal env O:=by simp only[vcC]
@[simp]theorem vc_ret:vcC P G o .ret env O Q=Q .ret env O:=by simp only[vcC]
@[simp]theorem vc_exit {id:Nat}:vcC P G o (.exit id) env O Q=Q (.exit id) env O:=by simp only[vcC]
@[simp]theorem vc_seq {x y:Code}:vcC P G o (.seq x y) env O Q=vcC P G o x env O (vW (fun env O=>vcC P G o y env O Q) Q):=by simp only[vcC]
@[simp]theorem vc_block {id:Nat}{x:Code}:vcC P G o (.block id x) env O Q=vcC P G o x env O (vX id Q):=by simp only[vcC]
@[simp]theorem vc_loop {x:Code}:vcC P G o (.loop x) env O Q=qC P G o x env O Q:=by simp only[vcC]<;>rfl
@[simp]theorem vc_region {id:Nat}{ops:Array Oper}:vcC P G o (.region id ops false) env O Q=vcR P G o.mu ops false (o.lw.contains id) ops.toList env O (fun env O=>Q .normal env O):=by simp only[vcC]
@[simp]theorem vc_draw0 {id:Nat}{ops:Array Oper}:vcC P G o0 (.region id ops true) env O Q=vcR P G false ops true false ops.toList env O (fun env O=>Q .normal env O):=by simp[vcC,o0]
@[simp]theorem vc_cond {c:Operand}{x y:Code}{b:Bool}(h:ev G env c=.bool b):vcC P G o (.cond c x y) env O Q=qhj b (vcC P G o x env O Q) (vcC P G o y env O Q):=by simp only[vcC,h]
@[simp]theorem o0_mu:o0.mu=false:=rfl
@[simp]theorem o0_lw:o0.lw=[]:=rfl
end
end Go.Abs
namespace Go.Abs
section
variable {P:Program}{G:Nat->AV}{mu:Bool}{ops:Array Oper}{d lw:Bool}{env:Env}{O:St}{Q:Env->St->Prop}
@[simp]theorem vcR_nil:vcR P G mu ops d lw [] env O Q=Q env O:=z7 rfl
@[simp]theorem qpb {dst:Option Nat}{op:Op}{type:TypeId}{pos:String}{after:Array Edge}{rest:List Oper} :
 vcR P G mu ops d false ({ dst:=dst,op:=op,type:=type,pos:=pos,after:=after,guard:=none }::rest) env O Q=jY P G mu d op env O (fun v O'=>vcR P G mu ops d false rest (upd env dst v) O' Q):=by
 rw[vcR,vcG];simp
def Qy (P:Program)(G:Nat->AV)(mu:Bool)(ops:Array Oper)(d:Bool)(x:Option Nat)(b:Bool)(dst:Option Nat)(op:Op)(rest:List Oper)(env:Env)(O:St)(Q:Env->St->Prop):Prop :=
 match x with
 | some t=>match env t with
  | .bool c=>qhj (c==b) (jY P G mu d op (upd env (some t) (.bool b)) O (fun v O'=>vcR P G mu ops d false rest (upd (upd env (some t) (.bool b)) dst v) O' Q))
   (vcR P G mu ops d false rest (upd (upd env (some t) (.bool (!b))) dst (.tup [])) O Q)
  | .tup []=>vcR P G mu ops d false rest (upd env dst (.tup [])) O Q
  | _=>False
 | none=>vcR P G mu ops d false rest (upd env dst (.tup [])) O Q
@[congr]theorem ql2 {x x':Option Nat}{b:Bool}{dst:Option Nat}{op:Op}{rest:List Oper}(h:x=x'):Qy P G mu ops d x b dst op rest env O Q=Qy P G mu ops d x' b dst op rest env O Q:=by rw[h]
@[simp]theorem qiV {dst:Option Nat}{op:Op}{type:TypeId}{pos:String}{after:Array Edge}{rest:List Oper}{j:Nat}{b:Bool} :
 vcR P G mu ops d false ({ dst:=dst,op:=op,type:=type,pos:=pos,after:=after,guard:=some (j,b) }::rest) env O Q=Qy P G mu ops d ((ops[j]?).bind (·.dst)) b dst op rest env O Q:=by
 rw[vcR,vcG];simp only[qsN,Bool.not_false,qsp];rfl
@[simp]theorem qoc {t:Nat}{b c:Bool}{dst:Option Nat}{op:Op}{rest:List Oper}(h:env t=.bool c):Qy P G mu ops d (some t) b dst op rest env O Q =
 qhj (c==b) (jY P G mu d op (upd env (some t) (.bool b)) O (fun v O'=>vcR P G mu ops d false rest (upd (upd env (some t) (.bool b)) dst v) O' Q)) (vcR P G mu ops d false rest (upd (upd env (some t) (.bool (!b))) dst (.tup [])) O Q):=by
 simp only[Qy,h]
@[simp]theorem qpc {t:Nat}{b:Bool}{dst:Option Nat}{op:Op}{rest:List Oper}(h:env t=.tup []):Qy P G mu ops d (some t) b dst op rest env O Q=vcR P G mu ops d false rest (upd env dst (.tup [])) O Q:=by
 simp only[Qy,h]
end
section
variable {P:Program}{G:Nat->AV}{mu d:Bool}{env:Env}{O:St}{Q:AV->St->Prop}
def jZ (x:Option (AV×St))(Q:AV->St->Prop):Prop:=match x with
 | some (v,O)=>Q v O
 | none=>False
@[congr]theorem qpa {x x':Option (AV×St)}(h:x=x'):jZ x Q=jZ x' Q:=by rw[h]
@[simp]theorem vcSem_some {v:AV}{O:St}:jZ (some (v,O)) Q=Q v O:=z7 rfl
@[simp]theorem vcSem_none:jZ none Q=False:=z7 rfl
@[congr]theorem vcX_congr {l l':Option (List (AV×St))}{s s':Option (AV×St)}(h:l=l')(h':s=s'):vcX l s Q=vcX l' s' Q:=by rw[h,h']
@[simp]theorem qfN {s:Option (AV×St)}:vcX none s Q=jZ s Q:=by simp only[vcX,jZ];rfl
@[simp]theorem qo9 {v:AV}{τ:St}{s:Option (AV×St)}:vcX (some [(v,τ)]) s Q=Q v τ:=by simp[vcX]
@[simp]theorem qo8 {v v':AV}{τ τ':St}{s:Option (AV×St)}:vcX (some [(v,τ),(v',τ')]) s Q=(Q v τ/\Q v' τ'):=by
 simp only[vcX,eq_iff_iff];constructor
 . exact fun h=>⟨h _ _ (by simp),h _ _ (by simp)⟩
 . rintro⟨h1,h2⟩ a b hm;simp only[qra,Prod.mk.injEq,qru,or_false]at hm;rcases hm with ⟨rfl,rfl⟩|⟨rfl,rfl⟩
   . exact h1
   . exact h2
def vcFn (P:Program)(G:Nat->AV)(d:Bool)(f:AV)(args:List AV)(O:St)(Q:AV->St->Prop):Prop:=match f with
 | .fn g first cap=>qe P G d g (kR first args cap) O Q
 | _=>False
@[simp]theorem vcFn_fn {g:FuncId}{first args cap:List AV}:vcFn P G d (.fn g first cap) args O Q=qe P G d g (kR first args cap) O Q:=z7 rfl
@[simp]theorem vcOp_call {f:Operand}{a:Array Operand}{t:Array TypeId}:jY P G mu d (.call { callee:=.value f,args:=a,argTypes:=t }) env O Q=vcFn P G d (ev G env f) (VS G env a.toList) O Q:=z7 rfl
@[simp]theorem qiY {x:Operand}:jY P G mu d (.move x) env O Q=jZ (sem (Dof P) G env O (.move x)) Q:=by cases d<;>rfl
@[simp]theorem qee {x:Operand}:jY P G mu d (.assign x) env O Q=jZ (sem (Dof P) G env O (.assign x)) Q:=by cases d<;>rfl
@[simp]theorem qiX {a b c:Operand}:jY P G mu d (.pick a b c) env O Q=jZ (sem (Dof P) G env O (.pick a b c)) Q:=by cases d<;>rfl
@[simp]theorem qhi {t:TypeId}:jY P G mu d (.alloc t) env O Q=jZ (sem (Dof P) G env O (.alloc t)) Q:=by cases d<;>rfl
@[simp]theorem ql1 {t:TypeId}{x:Operand}:jY P G mu d (.box t x) env O Q=jZ (sem (Dof P) G env O (.box t x)) Q:=by cases d<;>rfl
@[simp]theorem qhg {t:TypeId}{p:Array (Nat×Operand)}:jY P G mu d (.build t p) env O Q=jZ (sem (Dof P) G env O (.build t p)) Q:=by cases d<;>rfl
@[simp]theorem Kj {t:TypeId}{n:Nat}{p:Array (Nat×Operand)}:jY P G mu d (.buildSlice t n p) env O Q=jZ (sem (Dof P) G env O (.buildSlice t n p)) Q:=by cases d<;>rfl
@[simp]theorem qiZ {t:TypeId}{x:Operand}:jY P G mu d (.load t x) env O Q=jZ (sem (Dof P) G env O (.load t x)) Q:=by cases d<;>rfl
@[simp]theorem qg9 {t:TypeId}{x y:Operand}:jY P G mu d (.store t x y) env O Q=jZ (sem (Dof P) G env O (.store t x y)) Q:=by cases d<;>rfl
@[simp]theorem qax {x:Operand}:jY P G mu d (.nilCheck x) env O Q=jZ (sem (Dof P) G env O (.nilCheck x)) Q:=by cases d<;>rfl
theorem Kh {s:Option (AV×St)}:vcX (qeK d none) s Q=jZ s Q:=by cases d<;>exact qfN
@[simp]theorem qhh {o:BinOp}{t u:TypeId}{x y:Operand}(h:o≠.eql)(h':o≠.neq):jY P G mu d (.binOp o t x y u) env O Q=jZ (sem (Dof P) G env O (.binOp o t x y u)) Q:=by
 have:qck (Dof P) G mu env O (.binOp o t x y u)=none:=by cases o<;>first | rfl | exact absurd rfl h | exact absurd rfl h'
 simp only[jY,this];exact Kh
def qj7 (d neg:Bool)(D:Nat->Option TI)(t:Nat)(x y:AV)(O:St):Option (List (AV×St)):=match d with
 | true=>none
 | false=>VX D neg t x y O
@[simp]theorem qlZ {t u:TypeId}{x y:Operand}:jY P G mu d (.binOp .eql t x y u) env O Q=vcX (qj7 d false (Dof P) t (ev G env x) (ev G env y) O) (sem (Dof P) G env O (.binOp .eql t x y u)) Q:=by cases d<;>rfl
@[simp]theorem qlV {t u:TypeId}{x y:Operand}:jY P G mu d (.binOp .neq t x y u) env O Q=vcX (qj7 d true (Dof P) t (ev G env x) (ev G env y) O) (sem (Dof P) G env O (.binOp .neq t x y u)) Q:=by cases d<;>rfl
@[simp]theorem qiW {o:UnOp}{t:TypeId}{x:Operand}:jY P G mu d (.unOp o t x) env O Q=jZ (sem (Dof P) G env O (.unOp o t x)) Q:=by cases d<;>rfl
@[simp]theorem qb2 {t u:TypeId}{x:Operand}:jY P G mu d (.convert t u x) env O Q=jZ (sem (Dof P) G env O (.convert t u x)) Q:=by cases d<;>rfl
@[simp]theorem qay {f:Fn}{a b:Array Operand}:jY P G mu d (.makeFunc f a b) env O Q=jZ (sem (Dof P) G env O (.makeFunc f a b)) Q:=by cases d<;>rfl
@[simp]theorem qb0 {t:TypeId}{r:Option Operand}:jY P G mu d (.makeMap t r) env O Q=jZ (sem (Dof P) G env O (.makeMap t r)) Q:=by cases d<;>rfl
@[simp]theorem Ve {t:TypeId}{x y:Operand}:jY P G mu d (.makeSlice t x y) env O Q=jZ (sem (Dof P) G env O (.makeSlice t x y)) Q:=by cases d<;>rfl
@[simp]theorem qha {t:TypeId}{x:Operand}{lo hi mx:Option Operand}:jY P G mu d (.slice t x lo hi mx) env O Q=jZ (sem (Dof P) G env O (.slice t x lo hi mx)) Q:=by cases d<;>rfl
@[simp]theorem Vg {t:TypeId}{x:Operand}{i:Nat}:jY P G mu d (.fieldAddr t x i) env O Q=jZ (sem (Dof P) G env O (.fieldAddr t x i)) Q:=by cases d<;>rfl
@[simp]theorem Vf {t:TypeId}{x y:Operand}:jY P G mu d (.indexAddr t x y) env O Q=jZ (sem (Dof P) G env O (.indexAddr t x y)) Q:=by cases d<;>rfl
@[simp]theorem qhd {t:TypeId}{x y:Operand}:jY P G mu d (.index t x y) env O Q=jZ (sem (Dof P) G env O (.index t x y)) Q:=by cases d<;>rfl
@[simp]theorem qec {t:TypeId}{x y:Operand}{k:Bool}:jY P G mu d (.lookup t x y k) env O Q=jZ (sem (Dof P) G env O (.lookup t x y k)) Q:=by cases d<;>rfl
@[simp]theorem Vd {t:TypeId}{x y z:Operand}:jY P G mu d (.mapUpdate t x y z) env O Q=jZ (sem (Dof P) G env O (.mapUpdate t x y z)) Q:=by cases d<;>rfl
@[simp]theorem qhb {t:TypeId}{x:Operand}:jY P G mu d (.range t x) env O Q=jZ (sem (Dof P) G env O (.range t x)) Q:=by cases d<;>rfl
@[simp]theorem vcOp_next {x:Operand}:jY P G mu d (.next x true) env O Q=jZ (sem (Dof P) G env O (.next x true)) Q:=by cases d<;>rfl
@[simp]theorem qhc {x:Operand}:jY P G mu false (.next x false) env O Q=vcX (KY O (ev G env x)) none Q:=z7 rfl
@[simp]theorem qhe {x:Operand}:jY P G mu false (.entry x) env O Q=vcX ((WJ O (ev G env x)).map fun v=>[(v,O)]) none Q:=z7 rfl
@[simp]theorem qed {t:TypeId}{m k v:Operand}:jY P G mu false (.insert t m k v) env O Q=vcX ((zQ (Dof P) O t (ev G env m) (ev G env k) (ev G env v)).map fun O'=>[(.tup [],O')]) none Q:=z7 rfl
@[simp]theorem qb1 {x:Operand}{i:Nat}:jY P G mu d (.extract x i) env O Q=jZ (sem (Dof P) G env O (.extract x i)) Q:=by cases d<;>rfl
@[simp]theorem qlY {a:Array Operand}{t:Array TypeId}:jY P G mu d (.call { callee:=.builtin .len,args:=a,argTypes:=t }) env O Q=jZ (sem (Dof P) G env O (.call { callee:=.builtin .len,args:=a,argTypes:=t })) Q:=by
 have:qck (Dof P) G mu env O (.call { callee:=.builtin .len,args:=a,argTypes:=t })=none:=by simp only[qck]
 simp only[jY,this];exact Kh
@[simp]theorem qlW {a:Array Operand}{t:Array TypeId}:jY P G mu d (.call { callee:=.builtin .min,args:=a,argTypes:=t }) env O Q=jZ (sem (Dof P) G env O (.call { callee:=.builtin .min,args:=a,argTypes:=t })) Q:=by
 have:qck (Dof P) G mu env O (.call { callee:=.builtin .min,args:=a,argTypes:=t })=none:=by simp only[qck]
 simp only[jY,this];exact Kh
@[simp]theorem qlX {a:Array Operand}{t:Array TypeId}:jY P G mu d (.call { callee:=.builtin .max,args:=a,argTypes:=t }) env O Q=jZ (sem (Dof P) G env O (.call { callee:=.builtin .max,args:=a,argTypes:=t })) Q:=by
 have:qck (Dof P) G mu env O (.call { callee:=.builtin .max,args:=a,argTypes:=t })=none:=by simp only[qck]
 simp only[jY,this];exact Kh
@[simp]theorem qef {a:Array Operand}{t:Array TypeId}:jY P G false d (.call { callee:=.builtin .append,args:=a,argTypes:=t }) env O Q=jZ (sem (Dof P) G env O (.call { callee:=.builtin .append,args:=a,argTypes:=t })) Q:=by
 have:qck (Dof P) G false env O (.call { callee:=.builtin .append,args:=a,argTypes:=t })=none:=by
  simp only[qck];split<;>first | rfl | (rename_i h _ _;cases h;done) | (simp_all;done)
 simp only[jY,this];exact Kh
@[simp]theorem qb3 {s x:Operand}{t u:TypeId}:jY P G true false (.call { callee:=.builtin .append,args:=#[s,x],argTypes:=#[t,u] }) env O Q=vcX ((z6 (Dof P) O t u (ev G env s) (ev G env x)).map fun p=>[p]) (sem (Dof P) G env O (.call { callee:=.builtin .append,args:=#[s,x],argTypes:=#[t,u] })) Q:=z7 rfl
@[simp]theorem qhf {x:Operand}{t:TypeId}:jY P G mu false (.call { callee:=.builtin .clear,args:=#[x],argTypes:=#[t] }) env O Q=vcX ((qak (Dof P) O t (ev G env x)).map fun O'=>[(.tup [],O')]) none Q:=z7 rfl
@[simp]theorem vcOp_cap {x:Operand}{t:TypeId}:jY P G mu false (.call { callee:=.builtin .cap,args:=#[x],argTypes:=#[t] }) env O Q=vcX ((qoG (Dof P) t (ev G env x)).map fun v=>[(v,O)]) none Q:=z7 rfl
end
attribute [simp] qj7 VX qm1 sem ev VS Vk kw zM qiw QQ qpi Ze qgv Zg qgL wx cut Qp TD.agg ofV ofAtom JI qf7 Vx zg qdh qkN kR Y9 unA St.push qfT ju qu zp
section
variable {next:Env->St->Prop}{Q:Exit->Env->St->Prop}{env:Env}{O:St}
@[simp]theorem qoT:vW next Q .normal env O=next env O:=z7 rfl
@[simp]theorem aThen_ret:vW next Q .ret env O=Q .ret env O:=z7 rfl
@[simp]theorem aThen_exit {i:Nat}:vW next Q (.exit i) env O=Q (.exit i) env O:=z7 rfl
@[simp]theorem qoa {n:Nat}:vX n Q .normal env O=Q .normal env O:=z7 rfl
@[simp]theorem aBlock_ret {n:Nat}:vX n Q .ret env O=Q .ret env O:=z7 rfl
@[simp]theorem qfH {n i:Nat}:vX n Q (.exit i) env O=if i=n then Q .normal env O else Q (.exit i) env O:=z7 rfl
theorem qC.intro {P:Program}{G:Nat->AV}{o:Opts}{c:Code}(I:Nat->Env->St->Prop)(n:Nat)(h:I n env O)(hr:∀ n env O,I n env O->vcC P G o c env O (vW (fun env' O'=>∃ n',n' < n/\I n' env' O') Q)):qC P G o c env O Q:=⟨I,n,h,hr⟩
end
attribute [simp] Leq zt Leq.refl zt.refl Kg.refl yL.refl
end Go.Abs
end
section
namespace Go.Abs
open Go Go.RowKit
section
section
variable {P:Program}{G:Nat->AV}
end
end
end Go.Abs
end
