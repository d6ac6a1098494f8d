import Derived.Test.YtfmdnopgncbmoaaGreatDoorPs06
set_option linter.all false
set_option linter.defProp false
namespace Go.Abs
open Go Go.RowKit
def zN{p q:Prop}(h:p=q):p=q:=by rw[h]
@[congr]def qni{P G d f args args' U Q}(h:args=args'):qb P G d f args U Q=qb P G d f args' U Q:=by rw[h]
def qy(P:Program)(G:Glo)(o:Opts)(c:Code)(env:Env)(U:St)(Q:Exit->Env->St->Prop):Prop :=
 ∃(I:Nat->Env->St->Prop) (n:Nat),I n env U/\∀n env U,I n env U->vcC P G o c env U (wE (fun env' U'=>∃n',n'<n/\I n' env' U') Q)
@[congr]def qq7{c c'}{A B:Prop}(h:c=c'):qfg c A B=qfg c' A B:=by rw[h]
@[simp]def qrM{A B:Prop}:qfg true A B=A:=by simp[qfg]
@[simp]def qq6{A B:Prop}:qfg false A B=B:=by simp[qfg]
@[simp low]def qrN{c}{A B:Prop}:qfg c A B=((c=true->A)/\(c=false->B)):=zN rfl
@[simp]def qtT{env d i v}:upd env (some d) v i=if i=d then v else env i:=rfl
@[simp]def qtU{env v}:upd env none v=env:=rfl
section
variable {P:Program}{G:Glo}{o:Opts}{env:Env}{U:St}{Q:Exit->Env->St->Prop}
@[simp]def qvd:vcC P G o .skip env U Q=Q .normal env U:=by simp only[vcC]
@[simp]def qwW:vcC P G o .ret env U Q=Q .ret env U:=by simp only[vcC]
@[simp]def qvf{id}:vcC P G o (.exit id) env U Q=Q (.exit id) env U:=by simp only[vcC]
@[simp]def qwV{x y}:vcC P G o (.seq x y) env U Q=vcC P G o x env U (wE (fun env U=>vcC P G o y env U Q) Q):=by simp only[vcC]
@[simp]def qtQ{id x}:vcC P G o (.block id x) env U Q=vcC P G o x env U (wF id Q):=by simp only[vcC]
@[simp]def qve{x}:vcC P G o (.loop x) env U Q=qy P G o x env U Q:=by simp only[vcC]<;>rfl
@[simp]def qrI{id ops}:vcC P G o (.region id ops false) env U Q=vcR P G o.mu ops false (o.lw.contains id) ops.toList env U (fun env U=>Q .normal env U):=by simp only[vcC]
@[simp]def qtP{id ops}:vcC P G o0 (.region id ops true) env U Q=vcR P G false ops true false ops.toList env U (fun env U=>Q .normal env U):=by simp[vcC,o0]
@[simp]def qvg{c x y b}(h:ev G env c=.bool b):vcC P G o (.cond c x y) env U Q=qfg b (vcC P G o x env U Q) (vcC P G o y env U Q):=by simp only[vcC,h]
@[simp]def qxH:o0.mu=false:=rfl
@[simp]def qxI:o0.lw=[]:=rfl
end
section
variable {P:Program}{G:Glo}{mu:Bool}{ops:Array Oper}{d lw:Bool}{env:Env}{U:St}{Q:Env->St->Prop}
@[simp]def qvh:vcR P G mu ops d lw [] env U Q=Q env U:=zN rfl
@[simp]def qoH{dst:Option Nat}{op:Op}{type:TypeId}{pos:String}{after:Array Edge}{rest:List Oper}:
 vcR P G mu ops d false ({dst:=dst,op:=op,type:=type,pos:=pos,after:=after,guard:=none}::rest) env U Q=jy P G mu d op env U (fun v U'=>vcR P G mu ops d false rest (upd env dst v) U' Q):=by
 rw[vcR,vcG];simp
def vk(P:Program)(G:Glo)(mu:Bool)(ops:Array Oper)(d:Bool)(x:Option Nat)(b:Bool)(dst:Option Nat)(op:Op)(rest:List Oper)(env:Env)(U:St)(Q:Env->St->Prop):Prop :=
 match x with
 | some t=>match env t with
  | .bool c=>qfg (c==b) (jy P G mu d op (upd env (some t) (.bool b)) U (fun v U'=>vcR P G mu ops d false rest (upd (upd env (some t) (.bool b)) dst v) U' Q))
   (vcR P G mu ops d false rest (upd (upd env (some t) (.bool (!b))) dst (.tup [])) U Q)
  |.tup []=>vcR P G mu ops d false rest (upd env dst (.tup [])) U Q
  |_=>False
 |none=>vcR P G mu ops d false rest (upd env dst (.tup [])) U Q
@[congr]def qkx{x x' b dst op rest}(h:x=x'):vk P G mu ops d x b dst op rest env U Q=vk P G mu ops d x' b dst op rest env U Q:=by rw[h]
@[simp]def qgQ{dst:Option Nat}{op:Op}{type:TypeId}{pos:String}{after:Array Edge}{rest:List Oper}{j:Nat}{b:Bool}:
 vcR P G mu ops d false ({dst:=dst,op:=op,type:=type,pos:=pos,after:=after,guard:=some (j,b)}::rest) env U Q=vk P G mu ops d ((ops[j]?).bind (·.dst)) b dst op rest env U Q:=by
 rw[vcR,vcG];simp only[qAD,qBW,qAG];rfl
@[simp]def qnh{t b c dst op rest}(h:env t=.bool c):vk P G mu ops d (some t) b dst op rest env U Q =
 qfg (c==b) (jy P G mu d op (upd env (some t) (.bool b)) U (fun v U'=>vcR P G mu ops d false rest (upd (upd env (some t) (.bool b)) dst v) U' Q)) (vcR P G mu ops d false rest (upd (upd env (some t) (.bool (!b))) dst (.tup [])) U Q):=by
 simp only[vk,h]
@[simp]def qoI{t b dst op rest}(h:env t=.tup []):vk P G mu ops d (some t) b dst op rest env U Q=vcR P G mu ops d false rest (upd env dst (.tup [])) U Q:=by
 simp only[vk,h]
end
section
variable {P:Program}{G:Glo}{mu d:Bool}{env:Env}{U:St}{Q:AV->St->Prop}
def jt(x:Option (AV×St))(Q:AV->St->Prop):Prop:=match x with
 |some (v,U)=>Q v U
 |none=>False
@[congr]def qoG{x x'}(h:x=x'):jt x Q=jt x' Q:=by rw[h]
@[simp]def qq3{v U}:jt (some (v,U)) Q=Q v U:=zN rfl
@[simp]def qq4:jt none Q=False:=zN rfl
@[congr]def qrJ{l l' s s'}(h:l=l')(h':s=s'):vcX l s Q=vcX l' s' Q:=by rw[h,h']
@[simp]def WM{s}:vcX none s Q=jt s Q:=by simp only[vcX,jt];try rfl
@[simp]def qoF{v τ s}:vcX (some [(v,τ)]) s Q=Q v τ:=by simp[vcX]
@[simp]def qoE{v v' τ τ' s}:vcX (some [(v,τ),(v',τ')]) s Q=(Q v τ/\Q v' τ'):=by
 simp only[vcX,eq_iff_iff];constructor
 . exact fun h=>⟨h _ _ (by simp),h _ _ (by simp)⟩
 rintro⟨h1,h2⟩ a b hm;simp only[qy9,qyW,qAd,or_false]at hm;rcases hm with⟨rfl,rfl⟩|⟨rfl,rfl⟩
 . exact h1
 exact h2
def qvj(P:Program)(G:Glo)(d:Bool)(f:AV)(args:List AV)(U:St)(Q:AV->St->Prop):Prop:=match f with
 |.fn g first cap=>qb P G d g (yB first args cap) U Q
 |_=>False
@[simp]def qvi{g first args cap}:qvj P G d (.fn g first cap) args U Q=qb P G d g (yB first args cap) U Q:=zN rfl
@[simp]def qrL{f a t}:jy P G mu d (.call {callee:=.value f,args:=a,argTypes:=t}) env U Q=qvj P G d (ev G env f) (V8 G env a.toList) U Q:=zN rfl
@[simp]def qgT{x}:jy P G mu d (.move x) env U Q=jt (sem (Dof P) G env U (.move x)) Q:=by cases d<;>rfl
@[simp]def qcl{x}:jy P G mu d (.assign x) env U Q=jt (sem (Dof P) G env U (.assign x)) Q:=by cases d<;>rfl
@[simp]def qgS{a b c}:jy P G mu d (.pick a b c) env U Q=jt (sem (Dof P) G env U (.pick a b c)) Q:=by cases d<;>rfl
@[simp]def qff{t}:jy P G mu d (.alloc t) env U Q=jt (sem (Dof P) G env U (.alloc t)) Q:=by cases d<;>rfl
@[simp]def qkw{t x}:jy P G mu d (.box t x) env U Q=jt (sem (Dof P) G env U (.box t x)) Q:=by cases d<;>rfl
@[simp]def qfd{t p}:jy P G mu d (.build t p) env U Q=jt (sem (Dof P) G env U (.build t p)) Q:=by cases d<;>rfl
@[simp]def J8{t n p}:jy P G mu d (.buildSlice t n p) env U Q=jt (sem (Dof P) G env U (.buildSlice t n p)) Q:=by cases d<;>rfl
@[simp]def qgU{t x}:jy P G mu d (.load t x) env U Q=jt (sem (Dof P) G env U (.load t x)) Q:=by cases d<;>rfl
@[simp]def qe9{t x y}:jy P G mu d (.store t x y) env U Q=jt (sem (Dof P) G env U (.store t x y)) Q:=by cases d<;>rfl
@[simp]def WN{x}:jy P G mu d (.nilCheck x) env U Q=jt (sem (Dof P) G env U (.nilCheck x)) Q:=by cases d<;>rfl
def J4{s}:vcX (qcJ d none) s Q=jt s Q:=by cases d<;>exact WM
@[simp]def qfe{o t u x y}(h:o≠.eql)(h':o≠.neq):jy P G mu d (.binOp o t x y u) env U Q=jt (sem (Dof P) G env U (.binOp o t x y u)) Q:=by
 have:qaM (Dof P) G mu env U (.binOp o t x y u)=none:=by cases o<;>first|rfl|exact absurd rfl h|exact absurd rfl h'
 simp only[jy,this];exact J4
def qh5(d neg:Bool)(D:Nat->Option TI)(t:Nat)(x y:AV)(U:St):Option (List (AV×St)):=match d with
 |true=>none
 |false=>Wn D neg t x y U
@[simp]def qku{t u x y}:jy P G mu d (.binOp .eql t x y u) env U Q=vcX (qh5 d false (Dof P) t (ev G env x) (ev G env y) U) (sem (Dof P) G env U (.binOp .eql t x y u)) Q:=by cases d<;>rfl
@[simp]def qkr{t u x y}:jy P G mu d (.binOp .neq t x y u) env U Q=vcX (qh5 d true (Dof P) t (ev G env x) (ev G env y) U) (sem (Dof P) G env U (.binOp .neq t x y u)) Q:=by cases d<;>rfl
@[simp]def qgR{o t x}:jy P G mu d (.unOp o t x) env U Q=jt (sem (Dof P) G env U (.unOp o t x)) Q:=by cases d<;>rfl
@[simp]def qal{t u x}:jy P G mu d (.convert t u x) env U Q=jt (sem (Dof P) G env U (.convert t u x)) Q:=by cases d<;>rfl
@[simp]def WO{f:Fn}{a b}:jy P G mu d (.makeFunc f a b) env U Q=jt (sem (Dof P) G env U (.makeFunc f a b)) Q:=by cases d<;>rfl
@[simp]def qaj{t r}:jy P G mu d (.makeMap t r) env U Q=jt (sem (Dof P) G env U (.makeMap t r)) Q:=by cases d<;>rfl
@[simp]def J7{t x y}:jy P G mu true (.makeSlice t x y) env U Q=jt (sem (Dof P) G env U (.makeSlice t x y)) Q:=by rfl
@[simp]def Ql{t x y}:jy P G mu false (.makeSlice t x y) env U Q=vcX (mkX (Dof P) mu U t (ev G env x) (ev G env y)) (sem (Dof P) G env U (.makeSlice t x y)) Q:=by rfl
@[simp]def qfa{t x lo hi mx}:jy P G mu d (.slice t x lo hi mx) env U Q=jt (sem (Dof P) G env U (.slice t x lo hi mx)) Q:=by cases d<;>rfl
@[simp]def Kz{t x i}:jy P G mu d (.fieldAddr t x i) env U Q=jt (sem (Dof P) G env U (.fieldAddr t x i)) Q:=by cases d<;>rfl
@[simp]def qfc{t x i}:jy P G mu d (.field t x i) env U Q=jt (sem (Dof P) G env U (.field t x i)) Q:=by cases d<;>rfl
@[simp]def Ky{t x y}:jy P G mu d (.indexAddr t x y) env U Q=jt (sem (Dof P) G env U (.indexAddr t x y)) Q:=by cases d<;>rfl
@[simp]def qfb{t x y}:jy P G mu d (.index t x y) env U Q=jt (sem (Dof P) G env U (.index t x y)) Q:=by cases d<;>rfl
@[simp]def qck{t x y k}:jy P G mu d (.lookup t x y k) env U Q=jt (sem (Dof P) G env U (.lookup t x y k)) Q:=by cases d<;>rfl
@[simp]def Kx{t x y z}:jy P G mu d (.mapUpdate t x y z) env U Q=jt (sem (Dof P) G env U (.mapUpdate t x y z)) Q:=by cases d<;>rfl
@[simp]def qq5{t x}:jy P G mu d (.range t x) env U Q=jt (sem (Dof P) G env U (.range t x)) Q:=by cases d<;>rfl
@[simp]def qrK{x}:jy P G mu d (.next x true) env U Q=jt (sem (Dof P) G env U (.next x true)) Q:=by cases d<;>rfl
@[simp]def qak{x i}:jy P G mu d (.extract x i) env U Q=jt (sem (Dof P) G env U (.extract x i)) Q:=by cases d<;>rfl
@[simp]def qkt{a t}:jy P G mu d (.call {callee:=.builtin .len,args:=a,argTypes:=t}) env U Q=jt (sem (Dof P) G env U (.call {callee:=.builtin .len,args:=a,argTypes:=t})) Q:=by
 have:qaM (Dof P) G mu env U (.call {callee:=.builtin .len,args:=a,argTypes:=t})=none:=by simp only[qaM]
 simp only[jy,this];exact J4
@[simp]def qks{a t}:jy P G mu d (.call {callee:=.builtin .min,args:=a,argTypes:=t}) env U Q=jt (sem (Dof P) G env U (.call {callee:=.builtin .min,args:=a,argTypes:=t})) Q:=by
 have:qaM (Dof P) G mu env U (.call {callee:=.builtin .min,args:=a,argTypes:=t})=none:=by simp only[qaM]
 simp only[jy,this];exact J4
@[simp]def qtR{a t}:jy P G mu d (.call {callee:=.builtin .max,args:=a,argTypes:=t}) env U Q=jt (sem (Dof P) G env U (.call {callee:=.builtin .max,args:=a,argTypes:=t})) Q:=by
 have:qaM (Dof P) G mu env U (.call {callee:=.builtin .max,args:=a,argTypes:=t})=none:=by simp only[qaM]
 simp only[jy,this];exact J4
@[simp]def qcm{a t}:jy P G false d (.call {callee:=.builtin .append,args:=a,argTypes:=t}) env U Q=jt (sem (Dof P) G env U (.call {callee:=.builtin .append,args:=a,argTypes:=t})) Q:=by
 have:qaM (Dof P) G false env U (.call {callee:=.builtin .append,args:=a,argTypes:=t})=none:=by
  simp only[qaM];split<;>first|rfl|(rename_i h _ _;cases h;done)|(simp_all;done)
 simp only[jy,this];exact J4
@[simp]def qam{s x t u}:jy P G true false (.call {callee:=.builtin .append,args:=#[s,x],argTypes:=#[t,u]}) env U Q=vcX ((zn (Dof P) U t u (ev G env s) (ev G env x)).map fun p=>[p]) (sem (Dof P) G env U (.call {callee:=.builtin .append,args:=#[s,x],argTypes:=#[t,u]})) Q:=zN rfl
@[simp]def qgV{x y t u}:jy P G mu false (.call {callee:=.builtin .copy,args:=#[x,y],argTypes:=#[t,u]}) env U Q=vcX ((yJ (Dof P) U t (ev G env x) (ev G env y)).map fun p=>[p]) none Q:=zN rfl
@[simp]def qtS{x t}:jy P G mu false (.call {callee:=.builtin .cap,args:=#[x],argTypes:=#[t]}) env U Q=vcX ((qrr (Dof P) t (ev G env x)).map fun v=>[(v,U)]) none Q:=zN rfl
end
attribute [simp] qh5 Wn qlC sem ev V8 qW yQ JO zB qmS qu qoZ zr qeu Qa qeL w7 cut QJ TD.agg ofV ofAtom ZQ qdX KT fin Zs kZ pl1 zb plain pl2 qbE qiS yB JT unA St.push KZ zj AV.atom qx zk
section
variable {next:Env->St->Prop}{Q:Exit->Env->St->Prop}{env:Env}{U:St}
@[simp]def qoo:wE next Q .normal env U=next env U:=zN rfl
@[simp]def qtG:wE next Q .ret env U=Q .ret env U:=zN rfl
@[simp]def qrz{i}:wE next Q (.exit i) env U=Q (.exit i) env U:=zN rfl
@[simp]def qna{n}:wF n Q .normal env U=Q .normal env U:=zN rfl
@[simp]def qrA{n}:wF n Q .ret env U=Q .ret env U:=zN rfl
@[simp]def qdq{n i}:wF n Q (.exit i) env U=if i=n then Q .normal env U else Q (.exit i) env U:=zN rfl
def qy.intro{P G o c}(I:Nat->Env->St->Prop)(n)(h:I n env U)(hr:∀n env U,I n env U->vcC P G o c env U (wE (fun env' U'=>∃n',n'<n/\I n' env' U') Q)):qy P G o c env U Q:=⟨I,n,h,hr⟩
def qC9:=@qy.intro
end
attribute [simp] Leq zq Leq.refl zq.refl Kw.refl yj.refl
def wr{n}(h:-9223372036854775808<=n)(h':n<9223372036854775808):IntKind.i64.wrap n=n:=by
 simp[IntKind.wrap,IntKind.bits,IntKind.signed];omega
def zA{α:Type}{l:List α}{i:Nat}{v:α}(h:l[i]?=some v):l.drop i=v::l.drop (i+1):=by
 obtain⟨h1,h2⟩:=qyF.1 h;rw[qy1 h1,h2]
def Yu{a}(h:zb a=true):pl1 a=a:=by
 unfold pl1;split
 . simp[zb]at h
 rfl
def Wf:∀{l:List AV},qx l=true->l.map pl1=l
 |[],_=>rfl
 | a::r,h=>by
  simp only[qx,qyJ]at h;rw[qyR,Yu h.1,Wf h.2]
def qa0{a}(h:zb a=true):pl2 a=a:=by
 unfold pl2;split
 . simp only[zb]at h;simp[Wf h]
 exact Yu h
def We:∀{l:List AV},qx l=true->l.map pl2=l
 |[],_=>rfl
 | a::r,h=>by
  simp only[qx,qyJ]at h;rw[qyR,qa0 h.1,We h.2]
def Qz{a}(h:zb a=true):plain a=a:=by
 unfold plain;split
 . simp only[zb]at h;simp[We h]
 exact qa0 h
def jH:∀{l:List AV},qx l=true->l.map plain=l
 |[],_=>rfl
 | a::r,h=>by
  simp only[qx,qyJ]at h;rw[qyR,Qz h.1,jH h.2]
def qS{H n a}(h:zb a=true):frz H n a=a:=by
 cases n<;>simp[frz,h]
def v9{H a}(h:zb a=true):kZ H a=a:=by
 unfold kZ;split
 . simp[zb]at h
 exact Yu h
def yb:∀{l m:List AV},qx (l++m)=(qx l&&qx m)
 |[],m=>by simp[qx]
 |a::r,m=>by simp[qx,yb (l:=r),Bool.and_assoc]
def zx{α:Type}{f:α->List AV}(h:∀x,qx (f x)=true):∀(l:List α),zk (l.map f)=true
 |[]=>rfl
 |a::r=>by simp[zk,h,zx h r]
def KF{l m}:zk (l++m)=(zk l&&zk m):=by
 simp[Wm]
def Leq.sl{sz l m tok}(h:l=m):Leq (.sl sz l tok) (.sl sz m .none):=by
 subst h;simp[Leq,qCV]
section
variable {P:Program}{G:Glo}{U:St}{f:FuncId}{args args':List AV}{r r':AV}{Q:AV->St->Prop}
def qf.call(h:Pure P G f args r)(hno:qx args=true)(hq:Q r U):qf P G f args U Q :=
 qf.pure h (by rwa[jH hno]) (by rw[jH hno];exact qCU _) hq
def qb.call{d}(h:Pure P G f args r)(hno:qx args=true)(hq:Q r U):qb P G d f args U Q :=
 qb.pure h (by rwa[jH hno]) (by rw[jH hno];exact qCU _) hq
def qCW:=@qb.call
def qb.less{d}(h:Pure P G f args' r)(hno:qx args=true)(ha:zq args args')(hq:Q r U):qb P G d f args U Q :=
 qb.pure h (by rwa[jH hno]) (by rwa[jH hno]) hq
def qCX:=@qb.less
end
section
variable {P:Program}{G:Glo}{mu d lw:Bool}{ops:Array Oper}
def qcj{Q Q'}(hq:∀env U,Q env U->Q' env U):∀(l){env:Env}{U:St},vcR P G mu ops d lw l env U Q->vcR P G mu ops d lw l env U Q'
 |[],env,U,h=>hq _ _ h
 | o::r,env,U,h=>by
  simp only[vcR]at h⊢;exact vcG.imp h fun env v U h=>qcj hq r h
mutual
def qch{ac Q Q'}(hq:∀env U,Q env U->Q' env U):∀(s){env:Env}{U:St},vcS P G mu ac ops s env U Q->vcS P G mu ac ops s env U Q'
 |.done,env,U,h=>by simp only[vcS]at h⊢;exact hq _ _ h
 | .step k dp s,env,U,h=>by
  simp only[vcS]at h⊢;split at h
  . rename_i o ho;exact vcG.imp h fun env v U h=>qch hq s h
  exact h.elim
 | .fork a,env,U,h=>by
  simp only[vcS]at h⊢;exact KO hq a h
def KO{ac Q Q'}(hq:∀env U,Q env U->Q' env U):∀(a){env:Env}{U:St},vl P G mu ac ops a env U Q->vl P G mu ac ops a env U Q'
 |.nil,env,U,h=>by simp only[vl]
 | .cons k s r,env,U,h=>by
  simp only[vl]at h⊢;refine⟨?_,KO hq r h.2⟩;have h1:=h.1;split at h1
  . rename_i o ho;exact vcG.imp h1 fun env v U h=>qch hq s h
  exact h1.elim
end
def yf{n n' Q Q'}(hn:∀env U,n env U->n' env U)(hq:∀e env U,Q e env U->Q' e env U):∀e env U,wE n Q e env U->wE n' Q' e env U:=by
 intro e env U h;cases e<;>first|exact hn _ _ h|exact hq _ _ _ h
def WI{id Q Q'}(hq:∀e env U,Q e env U->Q' e env U):∀e env U,wF id Q e env U->wF id Q' e env U:=by
 intro e env U h
 cases e with
 | exit i=>
  simp only[qdq]at h⊢;split at h
  . rename_i hi;rw[if_pos hi];exact hq _ _ _ h
  rename_i hi;rw[if_neg hi];exact hq _ _ _ h
 |_=>exact hq _ _ _ h
def jS:Code->Bool
 |.seq x y=>jS x&&jS y
 |.cond _ x y=>jS x&&jS y
 |.block _ c=>jS c
 |.loop c=>jS c
 |.scope c=>jS c
 |.rangeFunc .. =>false
 |_=>true
def yl{o}:∀(c){env:Env}{U:St}{Q Q':Exit->Env->St->Prop},jS c=true->(∀e env U,Q e env U->Q' e env U)->vcC P G o c env U Q->vcC P G o c env U Q'
 |.skip,_,_,_,_,_,hq,h=>hq _ _ _ h
 |.ret,_,_,_,_,_,hq,h=>hq _ _ _ h
 |.exit _,_,_,_,_,_,hq,h=>hq _ _ _ h
 | .seq x y,env,U,Q,Q',hp,hq,h=>by
  simp only[jS,qyJ]at hp;simp only[vcC]at h⊢;exact yl x hp.1 (yf (fun env U h=>yl y hp.2 hq h) hq) h
 | .cond c x y,env,U,Q,Q',hp,hq,h=>by
  simp only[jS,qyJ]at hp;simp only[vcC]at h⊢;split at h
  . exact⟨fun e=>yl x hp.1 hq (h.1 e),fun e=>yl y hp.2 hq (h.2 e)⟩
  exact h.elim
 | .block id c,env,U,Q,Q',hp,hq,h=>by
  simp only[jS]at hp;simp only[vcC]at h⊢;exact yl c hp (WI hq) h
 | .region id ops false,env,U,Q,Q',hp,hq,h=>by
  simp only[vcC]at h⊢;exact qcj (fun env U h=>hq _ _ _ h) _ h
 | .region id ops true,env,U,Q,Q',hp,hq,h=>by
  simp only[vcC]at h⊢;split at h
  . exact qch (fun env U h=>hq _ _ _ h) _ h
  exact qcj (fun env U h=>hq _ _ _ h) _ h
 | .loop c,env,U,Q,Q',hp,hq,h=>by
  simp only[jS]at hp;simp only[vcC]at h⊢;obtain⟨I,n,h0,hr⟩:=h;exact⟨I,n,h0,fun n env U hI=>yl c hp (yf (fun _ _ h=>h) hq) (hr n env U hI)⟩
 |.rangeFunc ..,_,_,_,_,hp,_,_=>by simp[jS]at hp
 | .scope c,_,_,_,_,hp,hq,h=>by
  simp only[jS]at hp;simp only[vcC]at h⊢;refine yl c hp (fun e env U h=>?_) h
  cases e with
  |goto l=>exact h
  |_=>exact hq _ _ _ h
 | .label l,_,_,_,_,_,hq,h=>by
  simp only[vcC]at h⊢;exact hq _ _ _ h
 |.goto l,_,_,_,_,_,_,h=>by simp only[vcC]at h
 |.refuse w,_,_,_,_,_,_,h=>by simp only[vcC]at h
def KN{o x y env U Q}(I)(hp:jS x=true)(h1:vcC P G o x env U (wE I Q))(h2:∀env U,I env U->vcC P G o y env U Q):vcC P G o (.seq x y) env U Q:=by
 simp only[vcC];exact yl x hp (yf h2 fun _ _ _ h=>h) h1
end
section
variable {P:Program}{G:Glo}{o:Opts}{c:Code}{env:Env}{U:St}{Q:Exit->Env->St->Prop}{α:Type}
def qy.list(l)(J:List α->Env->St->Prop)(h0:J [] env U)
 (hs:∀d v r env U,l=d++v::r->l[d.length]?=some v->d.length<l.length->J d env U->vcC P G o c env U (wE (J (d++[v])) Q))
 (he:∀env U,J l env U->vcC P G o c env U (wE (fun _ _=>False) Q)) (hp:jS c=true:=by rfl):qy P G o c env U Q:=by
 refine qC9 (fun n ev U=>∃d r,l=d++r/\n=r.length/\J d ev U) l.length ⟨[],l,rfl,rfl,h0⟩ ?_;rintro n ev U ⟨d,r,hl,rfl,hJ⟩
 cases r with
 | nil=>
  rw[qzp]at hl;subst hl;exact yl c hp (fun e env U h=>yf (fun _ _ h=>h.elim) (fun _ _ _ h=>h) e env U h) (he ev U hJ)
 | cons v r=>
  refine yl c hp (fun e env U h=>yf (fun env U h=>?_) (fun _ _ _ h=>h) e env U h) (hs d v r ev U hl (by rw[hl];simp) (by rw[hl];simp) hJ);exact⟨r.length,by simp,d++[v],r,by rw[hl];simp,rfl,h⟩
def qy.count(n)(J:Nat->Env->St->Prop)(h0:J 0 env U)
 (hs:∀i env U,i<n->J i env U->vcC P G o c env U (wE (J (i+1)) Q))
 (he:∀env U,J n env U->vcC P G o c env U (wE (fun _ _=>False) Q)) (hp:jS c=true:=by rfl):qy P G o c env U Q:=by
 refine qC9 (fun m ev U=>∃i,i<=n/\m=n-i/\J i ev U) n ⟨0,by omega,by omega,h0⟩ ?_;rintro m ev U ⟨i,hi,rfl,hJ⟩;by_cases hn:i=n
 . subst hn;exact yl c hp (fun e env U h=>yf (fun _ _ h=>h.elim) (fun _ _ _ h=>h) e env U h) (he ev U hJ)
 refine yl c hp (fun e env U h=>yf (fun env U h=>?_) (fun _ _ _ h=>h) e env U h) (hs i ev U (by omega) hJ);exact⟨n-(i+1),by omega,i+1,by omega,rfl,h⟩
end
def qcK{α:Type}(sz:Nat)(en:α->List AV)(t:Nat)(s:List α):AV:=match s with
 |[]=>.sl 0 [] .nil
 |a::r=>.sl sz ((a::r).map en) (.chain t (r.length+1))
def ZA{α:Type}(T:List (Option Nat))(s:List α):List (Option Nat):=match s with
 |[]=>T
 |_::r=>T++[some (r.length+1)]
section
variable {α:Type}{sz t:Nat}{en:α->List AV}{T:List (Option Nat)}{s m:List α}
@[simp]def qua:qcK sz en t ([]:List α)=.sl 0 [] .nil:=rfl
@[simp]def qsq:ZA T ([]:List α)=T:=rfl
def qpt(h:s≠[]):qcK sz en t s=.sl sz (s.map en) (.chain t s.length):=by
 cases s with
 |nil=>exact absurd rfl h
 |cons a r=>rfl
def qlx(h:s≠[]):ZA T s=T++[some s.length]:=by
 cases s with
 |nil=>exact absurd rfl h
 |cons a r=>rfl
def Km{D H ty e i j tok}(hi:D ty=some i)(hd:i.d=.sl e)(hj:D e=some j)(hsz:j.size=sz)(h0:0<sz)(hz:j.zero.length=sz)(hb:j.bytes<=256)(hlen:s.length+m.length<=549755813888)(sz2)(h2:sz2=sz\/m=[]):
 qL D ⟨H,ZA T s⟩ ty (qcK sz en T.length s) (.sl sz2 (m.map en) tok)=some (qcK sz en T.length (s++m),⟨H,ZA T (s++m)⟩):=by
 subst hsz;by_cases hm:m=[]
 . subst hm;rw[qzp]
   cases s with
   |nil=>simp[qL,hi,hd,hj,h0,hz,hb,zK]
   | cons a r=>
    have:r.length+1<=549755813888:=by simpa using hlen
    simp[qL,hi,hd,hj,h0,hz,hb,zK,qcK,ZA,this]
 have h2:=h2.resolve_right hm;subst h2
 cases s with
 | nil=>
  have:m.length<=549755813888:=by simpa using hlen
  simp[qL,hi,hd,hj,h0,hz,hb,zK,qlx hm,qpt hm,this,hm]
 | cons a r=>
  have:r.length+1+m.length<=549755813888:=by simpa using hlen
  simp only[qy3,qcK,ZA];simp[qL,hi,hd,hj,h0,hz,hb,zK,this,hm];omega
def qps{α:Type}(sz:Nat)(en:α->List AV)(s:List α):AV:=match s with
 |[]=>.sl 0 [] .nil
 |a::r=>.sl sz ((a::r).map en) .none
@[simp high]def Wc:plain (qcK sz en t s)=qps sz en s:=by cases s<;>rfl
@[simp high]def quz{H}:fin H (qcK sz en t s)=qps sz en s:=by cases s<;>rfl
@[simp high]def qfR(hn:∀x,qx (en x)=true):zb (qps sz en s)=true:=by
 cases s with
 |nil=>rfl
 |cons a r=>simpa[qps] using zx hn (a::r)
def qem:Leq (qps sz en s) (.sl sz (s.map en) .none):=by
 cases s with
 |nil=>simp[qps,Leq]
 |cons a r=>exact Leq.sl rfl
@[simp high]def qsE:Leq (qps sz en s) (.sl sz (s.map en) .none)=True:=eq_true qem
end
