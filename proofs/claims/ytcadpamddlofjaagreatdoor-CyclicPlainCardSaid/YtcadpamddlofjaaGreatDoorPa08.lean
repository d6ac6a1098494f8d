/- A part of the proof. -/
import Derived.Test.YtcadpamddlofjaaGreatDoorPa07
import Derived.ChangeArms
import Derived.DataReads
set_option linter.unusedVariables false
set_option linter.unusedSimpArgs false
set_option maxRecDepth 100000
set_option linter.defProp false
section
namespace Go.Proofs.YtcadpamddlofjaaGreatDoor
open Go Go.Abs
section
theorem Yh {α:Type}{R:Nat->α->Prop}:∀ (n:Nat),(∀ i,i<n->∃ y,R i y)->∃ l:List α,l.length=n/\∀ i y,l[i]?=some y->R i y
 | 0,_=>⟨[],rfl,by simp⟩
 | n+1,h=>by
  obtain⟨l,h1,h2⟩:=Yh n fun i hi=>h i (by omega)
  obtain⟨y,hy⟩:=h n (by omega);refine⟨l++[y],by simp[h1],fun i z hz=>?_⟩;rw[qpJ]at hz;split at hz
  . exact h2 i z hz
  . rename_i hi;have:i-l.length=0:=by
     rcases qqe (i-l.length) with h0|h0
     . exact h0
     . rw[qpt (by simp;omega)]at hz;cases hz
    rw[this]at hz;cases hz;have:i=n:=by omega
    subst this;exact hy
section
variable {H:Type}{enc:TypeId×Value->H}{w:World}{base:Nat}{held:Bool}
abbrev KMw (w:World):Kn:=Go.Abs.K0 (qbP w)
theorem qh.get {K:Kn}:∀ {l:List AV} {vs:List Value},qh K l vs->vs.length=l.length/\∀ (j:Nat) (a:AV),l[j]?=some a->∃ v,vs[j]?=some v/\qf K a v
 | [],_,h=>by simp only[qh]at h;subst h;simp
 | a::r,_,h=>by
  simp only[qh]at h;obtain⟨v,vr,rfl,h1,h2⟩:=h;obtain⟨k1,k2⟩:=qh.get h2;refine⟨by simp[k1],fun j b hj=>?_⟩
  cases j with
  | zero=>simp at hj;subst hj;exact⟨v,rfl,h1⟩
  | succ j=>simp at hj;exact k2 j b hj
theorem J2 {α:Type}{t e sz:Nat}{en:α->List AV}{good:α->Prop}{X:DataW H->Prop}{n:Nat}(ht:Tryz.prog.underlying t=some (.slice e))(hsz:Tryz.prog.cellsOf e=sz)(hpos:0<sz)
 (hat:∀ y,(en y).all AV.atom=true/\(en y).length=sz)
 (hel:∀ cs x,DataW.trod enc Tryz.prog w base (fun _=>true) held n e cs=some x->X x.1->∃ y,qh (KMw w) (en y) cs/\good y)
 {cs:List Value} {x:DataW H×List MemPlace} (h:DataW.trod enc Tryz.prog w base (fun _=>true) held (n+1) t cs=some x) (hX:∀ E S,x.1=.slice E S->∀ d∈E,X d) :
 ∃ (l:List α) (v:Value),cs=[v]/\qf (KMw w) (.sl sz (l.map en) .none) v/\Fits l/\(∀ y∈l,good y)/\∀ N,(∀ E S,x.1=.slice E S->E.length<=N)->l.length<=N:=by
 rcases DataW.trod_slice ht h with ⟨rfl,rfl⟩|⟨a,len,cap,elems,rest,m,hm,rfl,rfl,hb,hl,hc,hlen,hel',hsp,_⟩
 . exact⟨[],_,rfl,by simp only[qf];exact .inl ⟨⟨none,rfl,.inl rfl⟩,rfl,trivial⟩,by simp,by simp,by simp⟩
 . have hnm:n=m:=(by omega);subst hnm;rw[hsz]at hel' hsp;have one:∀ i,i<len->∃ y,∃ cs',w.cells? base (a.add (i*sz)) sz=some cs'/\qh (KMw w) (en y) cs'/\good y:=by
    intro i hi;have:=hel' i hi;rw[qo1 (by omega)]at this;obtain⟨cs',h1,h2⟩:=qqc.1 this;obtain⟨y,h3,h4⟩:=hel cs' _ h2 (hX _ _ rfl _ (List.mem_map_of_mem (qqY _)));exact⟨y,cs',h1,h3,h4⟩
   by_cases h0:cap=0
   . have hl0:len=0:=(by omega);subst h0 hl0;exact⟨[],_,rfl,by simp only[qf];exact .inl ⟨⟨some a,rfl,.inr trivial⟩,rfl,trivial⟩,by simp,by simp,by simp⟩
   . have spot:a.spot=none:=by
      have rd:∃ cs',w.cells? base (a.add 0) sz=some cs':=by
       by_cases hl0:0<len
       . obtain⟨_,cs',h1,_⟩:=one 0 hl0;rw[qqA]at h1;exact⟨cs',h1⟩
       . obtain⟨hr1,hr2⟩:=hsp rfl;have:=hr2 0 (by omega);rw[qo1 (by omega),show len+0=0 by omega,qqA]at this;obtain⟨cs',h1,_⟩:=qqc.1 this;exact⟨cs',h1⟩
      obtain⟨cs',h1⟩:=rd;obtain⟨_,hlen',hc'⟩:=World.cells?_some h1;have:=hc' 0 hpos;rw[qo1 (by omega)]at this
      cases hs:a.spot with
      | none=>rfl
      | some s=>
       simp only[Addr.add,if_true]at this;unfold World.cell? at this;rw[hs]at this;split at this<;>simp at this
     obtain⟨b,o,s⟩:=a;simp only at spot;subst spot;obtain⟨l,hl1,hl2⟩:=Yh len one;refine⟨l,_,rfl,?_,by rw[Fits,hl1];simp only[maxLen]at hc;omega,fun y hy=>?_,fun N hN=>?_⟩
     . simp only[qf];refine .inr ⟨b,o,cap,by simp[hl1],by simpa[hl1] using hl,qH.intro b sz _ o fun i r e=>?_,trivial⟩;rw[qpj,qo4]at e;obtain⟨y,hy,rfl⟩:=e;obtain⟨cs',h1,h2,_⟩:=hl2 i y hy;obtain⟨h3,h4⟩:=hat y;obtain⟨_,hlen',hc'⟩:=World.cells?_some h1;obtain⟨g1,g2⟩:=qh.get h2;refine⟨h4,h3,ql.intro b _ _ fun j z hz=>?_⟩;obtain⟨v,hv1,hv2⟩:=g2 j z hz;have hjl:j<sz:=(by rw[<- hlen'];exact (qoX.1 hv1).1);refine⟨v,?_,hv2⟩;have:=hc' j hjl;rw[hv1]at this;show w.cell? ⟨b,o+i*sz+j,none⟩=some v;rw[<- this];congr 1;simp only[Addr.add];by_cases hi0:i*sz=0
       . rw[if_pos hi0];by_cases hj0:j=0
         . rw[if_pos hj0,hi0,hj0];simp
         . rw[if_neg hj0,hi0];simp
       . rw[if_neg hi0];by_cases hj0:j=0
         . rw[if_pos hj0,hj0];simp
         . rw[if_neg hj0]
     . obtain⟨i,hi⟩:=qpD hy;obtain⟨_,_,_,hg⟩:=hl2 i y hi;exact hg
     . have:=hN _ _ rfl;simp only[qpK]at this;omega
theorem vD {α:Type}{t e sz:Nat}{en:α->List AV}{good:α->Prop}{n:Nat}(ht:Tryz.prog.underlying t=some (.slice e))(hsz:Tryz.prog.cellsOf e=sz)(hpos:0<sz)
 (hat:∀ y,(en y).all AV.atom=true/\(en y).length=sz)
 (hel:∀ cs x,DataW.trod enc Tryz.prog w base (fun _=>true) held n e cs=some x->∃ y,qh (KMw w) (en y) cs/\good y)
 {cs:List Value} {x:DataW H×List MemPlace} (h:DataW.trod enc Tryz.prog w base (fun _=>true) held (n+1) t cs=some x) :
 ∃ (l:List α) (v:Value),cs=[v]/\qf (KMw w) (.sl sz (l.map en) .none) v/\Fits l/\∀ y∈l,good y:=by
 obtain⟨l,v,h1,h2,h3,h4,_⟩:=J2 (X:=fun _=>True) ht hsz hpos hat (fun cs x h _=>hel cs x h) h (fun _ _ _ _ _=>trivial);exact⟨l,v,h1,h2,h3,h4⟩
end
end
end Go.Proofs.YtcadpamddlofjaaGreatDoor
end
section
namespace Go.Abs
open Go Go.RowKit
section
inductive Fr where
 | seq (y:Code)
 | block (id:Nat)
 | loop (n:Env->St->Prop)
 | scope
inductive Ct where
 | run (d lw:Bool) (rest:List Oper)
 | plan (ac:List Nat) (s:Sch)
section
variable (P:Program)(G:Glo)(o:Opts)
def itp:List Fr->(Exit->Env->St->Prop)->Exit->Env->St->Prop
 | [],Q=>Q
 | .seq y::ks,Q=>k0 (fun env U=>vcC P G o y env U (itp ks Q)) (itp ks Q)
 | .block id::ks,Q=>kq id (itp ks Q)
 | .loop n::ks,Q=>k0 n (itp ks Q)
 | .scope::ks,Q=>qmN (itp ks Q)
def kC (c:Code)(env:Env)(U:St)(ks:List Fr)(Q:Exit->Env->St->Prop):Prop:=vcC P G o c env U (itp P G o ks Q)
def kX (e:Exit)(env:Env)(U:St)(ks:List Fr)(Q:Exit->Env->St->Prop):Prop:=itp P G o ks Q e env U
def kT (ops:Array Oper)(ct:Ct)(env:Env)(U:St)(ks:List Fr)(Q:Exit->Env->St->Prop):Prop:=match ct with
 | .run d lw rest=>vcR P G o.mu ops d lw rest env U (fun env U=>itp P G o ks Q .normal env U)
 | .plan ac s=>vcS P G o.mu ac ops s env U (fun env U=>itp P G o ks Q .normal env U)
def kO (ops:Array Oper)(d:Bool)(op:Op)(dst:Option Nat)(ct:Ct)(env:Env)(U:St)(ks:List Fr)(Q:Exit->Env->St->Prop):Prop :=
 jp P G o.mu d op env U (fun v U'=>kT P G o ops ct (upd env dst v) U' ks Q)
def kS (ops:Array Oper)(x:Option (AV×St))(dst:Option Nat)(ct:Ct)(env:Env)(ks:List Fr)(Q:Exit->Env->St->Prop):Prop :=
 jq x (fun v U'=>kT P G o ops ct (upd env dst v) U' ks Q)
def kY (ops:Array Oper)(l:Option (List (AV×St)))(x:Option (AV×St))(dst:Option Nat)(ct:Ct)(env:Env)(ks:List Fr)(Q:Exit->Env->St->Prop):Prop :=
 vcX l x (fun v U'=>kT P G o ops ct (upd env dst v) U' ks Q)
def kFn (ops:Array Oper)(d:Bool)(f:AV)(args:List AV)(U:St)(dst:Option Nat)(ct:Ct)(env:Env)(ks:List Fr)(Q:Exit->Env->St->Prop):Prop :=
 vcFn P G d f args U (fun v U'=>kT P G o ops ct (upd env dst v) U' ks Q)
def qc (ops:Array Oper)(d:Bool)(g:FuncId)(args:List AV)(U:St)(dst:Option Nat)(ct:Ct)(env:Env)(ks:List Fr)(Q:Exit->Env->St->Prop):Prop :=
 qb P G d g args U (fun v U'=>kT P G o ops ct (upd env dst v) U' ks Q)
def kCd (v:AV)(x y:Code)(env:Env)(U:St)(ks:List Fr)(Q:Exit->Env->St->Prop):Prop:=match v with
 | .bool b=>(b=true->kC P G o x env U ks Q)/\(b=false->kC P G o y env U ks Q)
 | _=>False
def kGv (ops:Array Oper)(d:Bool)(t:Nat)(v:AV)(b:Bool)(op:Op)(dst:Option Nat)(ct:Ct)(env:Env)(U:St)(ks:List Fr)(Q:Exit->Env->St->Prop):Prop:=match v with
 | .bool c=>((c==b)=true->kO P G o ops d op dst ct (upd env (some t) (.bool b)) U ks Q)/\((c==b)=false->kT P G o ops ct (upd (upd env (some t) (.bool (!b))) dst (.tup [])) U ks Q)
 | .tup []=>kT P G o ops ct (upd env dst (.tup [])) U ks Q
 | _=>False
def kG (ops:Array Oper)(d:Bool)(x:Option Nat)(b:Bool)(op:Op)(dst:Option Nat)(ct:Ct)(env:Env)(U:St)(ks:List Fr)(Q:Exit->Env->St->Prop):Prop:=match x with
 | some t=>kGv P G o ops d t (env t) b op dst ct env U ks Q
 | none=>kT P G o ops ct (upd env dst (.tup [])) U ks Q
def qJ (c:Code)(env:Env)(U:St)(ks:List Fr)(Q:Exit->Env->St->Prop):Prop:=qF P G o c env U (itp P G o ks Q)
def kP (ops:Array Oper)(x:Option Oper)(d:Bool)(ct:Ct)(env:Env)(U:St)(ks:List Fr)(Q:Exit->Env->St->Prop):Prop:=match x with
 | some u=>vcG P G o.mu d ops u env U (fun env v U'=>kT P G o ops ct (upd env u.dst v) U' ks Q)
 | none=>False
end
section
variable {P:Program}{G:Glo}{o:Opts}{env:Env}{U:St}{ks:List Fr}{Q:Exit->Env->St->Prop}
@[simp ↓]theorem kC_skip:kC P G o .skip env U ks Q=kX P G o .normal env U ks Q:=by simp only[kC,kX,vcC]
@[simp ↓]theorem kC_ret:kC P G o .ret env U ks Q=kX P G o .ret env U ks Q:=by simp only[kC,kX,vcC]
@[simp ↓]theorem kC_exit {id:Nat}:kC P G o (.exit id) env U ks Q=kX P G o (.exit id) env U ks Q:=by simp only[kC,kX,vcC]
@[simp ↓]theorem kC_seq {x y:Code}:kC P G o (.seq x y) env U ks Q=kC P G o x env U (.seq y::ks) Q:=by simp only[kC,vcC,itp]
@[simp ↓]theorem kC_block {id:Nat}{x:Code}:kC P G o (.block id x) env U ks Q=kC P G o x env U (.block id::ks) Q:=by simp only[kC,vcC,itp]
@[simp ↓]theorem kC_scope {x:Code}:kC P G o (.scope x) env U ks Q=kC P G o x env U (.scope::ks) Q:=by simp only[kC,vcC,itp]
@[simp ↓]theorem kC_label {l:Nat}:kC P G o (.label l) env U ks Q=kX P G o .normal env U ks Q:=by simp only[kC,kX,vcC]
@[simp ↓]theorem qmf:kX P G o .ret env U (.scope::ks) Q=kX P G o .ret env U ks Q:=zT rfl
@[simp ↓]theorem kC_cond {c:Operand}{x y:Code}:kC P G o (.cond c x y) env U ks Q=kCd P G o (ev G env c) x y env U ks Q:=by
 simp only[kC,vcC,kCd,qeq];split<;>simp_all[]
@[simp ↓]theorem kC_loop {x:Code}:kC P G o (.loop x) env U ks Q=qJ P G o x env U ks Q:=by simp only[kC,qJ,vcC]<;>rfl
@[simp ↓ high]theorem kC_region0 {id:Nat}{l:List Oper}:kC P G o0 (.region id l.toArray false) env U ks Q=kT P G o0 l.toArray (.run false false l) env U ks Q:=by simp only[kC,kT,vcC];rfl
@[simp ↓ high]theorem kC_regionL {m:Bool}{x:List (Nat×Sch×List Nat)}{y:List (Nat×Nat)}{id:Nat}{l:List Oper}:kC P G ⟨m,x,[],y⟩ (.region id l.toArray false) env U ks Q=kT P G ⟨m,x,[],y⟩ l.toArray (.run false false l) env U ks Q:=by simp only[kC,kT,vcC];rfl
@[simp ↓]theorem kC_draw0 {id:Nat}{l:List Oper}:kC P G o0 (.region id l.toArray true) env U ks Q=kT P G o0 l.toArray (.run true false l) env U ks Q:=by simp[kC,kT,vcC,o0]
theorem Zk {id:Nat}{l:List Oper}(h:o.fk.lookup id=none):kC P G o (.region id l.toArray true) env U ks Q=kT P G o l.toArray (.run true (o.lw.contains id) l) env U ks Q:=by simp only[kC,kT,vcC,h]
theorem qI {id:Nat}{l:List Oper}{s:Sch}{ac:List Nat}(h:o.fk.lookup id=some (s,ac)):kC P G o (.region id l.toArray true) env U ks Q=kT P G o l.toArray (.plan ac s) env U ks Q:=by simp only[kC,kT,vcC,h]
@[simp]theorem kCd_true {x y:Code}:kCd P G o (.bool true) x y env U ks Q=kC P G o x env U ks Q:=by simp[kCd]
@[simp]theorem kCd_false {x y:Code}:kCd P G o (.bool false) x y env U ks Q=kC P G o y env U ks Q:=by simp[kCd]
@[simp low]theorem kCd_bool {b:Bool}{x y:Code}:kCd P G o (.bool b) x y env U ks Q=((b=true->kC P G o x env U ks Q)/\(b=false->kC P G o y env U ks Q)):=zT rfl
@[simp ↓]theorem kX_nil {e:Exit}:kX P G o e env U [] Q=Q e env U:=zT rfl
@[simp ↓]theorem kX_seq {y:Code}:kX P G o .normal env U (.seq y::ks) Q=kC P G o y env U ks Q:=zT rfl
@[simp ↓]theorem kX_seq_ret {y:Code}:kX P G o .ret env U (.seq y::ks) Q=kX P G o .ret env U ks Q:=zT rfl
@[simp ↓]theorem qn4 {y:Code}{i:Nat}:kX P G o (.exit i) env U (.seq y::ks) Q=kX P G o (.exit i) env U ks Q:=zT rfl
@[simp ↓]theorem kX_block {id:Nat}:kX P G o .normal env U (.block id::ks) Q=kX P G o .normal env U ks Q:=zT rfl
@[simp ↓]theorem qmh {id:Nat}:kX P G o .ret env U (.block id::ks) Q=kX P G o .ret env U ks Q:=zT rfl
@[simp ↓]theorem qkw {id i:Nat}:kX P G o (.exit i) env U (.block id::ks) Q=if i=id then kX P G o .normal env U ks Q else kX P G o (.exit i) env U ks Q:=by
 simp only[kX,itp,kq]
@[simp ↓]theorem kX_loop {n:Env->St->Prop}:kX P G o .normal env U (.loop n::ks) Q=n env U:=zT rfl
@[simp ↓]theorem qn5 {n:Env->St->Prop}:kX P G o .ret env U (.loop n::ks) Q=kX P G o .ret env U ks Q:=zT rfl
@[simp ↓]theorem qmg {n:Env->St->Prop}{i:Nat}:kX P G o (.exit i) env U (.loop n::ks) Q=kX P G o (.exit i) env U ks Q:=zT rfl
end
section
variable {P:Program}{G:Glo}{o:Opts}{ops:Array Oper}{d lw:Bool}{env:Env}{U:St}{ks:List Fr}{Q:Exit->Env->St->Prop}{dst:Option Nat}{op:Op}{ct:Ct}
@[simp ↓]theorem kT_nil:kT P G o ops (.run d lw []) env U ks Q=kX P G o .normal env U ks Q:=zT rfl
@[simp ↓]theorem kT_run {type:TypeId}{pos:String}{after:Array Edge}{rest:List Oper} :
 kT P G o ops (.run d false ({ dst:=dst,op:=op,type:=type,pos:=pos,after:=after,guard:=none }::rest)) env U ks Q=kO P G o ops d op dst (.run d false rest) env U ks Q:=by
 simp only[kT,kO];rw[qm3]
@[simp ↓]theorem kT_guard {type:TypeId}{pos:String}{after:Array Edge}{rest:List Oper}{j:Nat}{b:Bool} :
 kT P G o ops (.run d false ({ dst:=dst,op:=op,type:=type,pos:=pos,after:=after,guard:=some (j,b) }::rest)) env U ks Q=kG P G o ops d ((ops[j]?).bind (·.dst)) b op dst (.run d false rest) env U ks Q:=by
 simp only[kT];rw[qfP];unfold wN kG;generalize (ops[j]?).bind (·.dst)=x
 cases x with
 | none=>rfl
 | some t=>
  simp only[kGv];generalize env t=v
  cases v with
  | tup vs=>cases vs<;>rfl
  | _=>rfl
@[simp ↓]theorem kT_done {ac:List Nat}:kT P G o ops (.plan ac .done) env U ks Q=kX P G o .normal env U ks Q:=by simp only[kT,vcS,kX]
@[simp ↓]theorem kT_step {ac dp:List Nat}{k:Nat}{s:Sch}:kT P G o ops (.plan ac (.step k dp s)) env U ks Q=kP P G o ops (ops[k]?) (match ops[k]? with | some u=>qP o.mu ac k u.op != 9 | none=>false) (.plan ac s) env U ks Q:=by
 simp only[kT,vcS,kP];split<;>rename_i h<;>simp[h]
@[simp]theorem kP_run {type:TypeId}{pos:String}{after:Array Edge}:kP P G o ops (some { dst:=dst,op:=op,type:=type,pos:=pos,after:=after,guard:=none }) d ct env U ks Q=kO P G o ops d op dst ct env U ks Q:=by
 simp only[kP,vcG,kO]
@[simp]theorem kG_some {t:Nat}{b:Bool}:kG P G o ops d (some t) b op dst ct env U ks Q=kGv P G o ops d t (env t) b op dst ct env U ks Q:=zT rfl
@[simp]theorem kGv_off {t:Nat}{b:Bool}:kGv P G o ops d t (.tup []) b op dst ct env U ks Q=kT P G o ops ct (upd env dst (.tup [])) U ks Q:=zT rfl
@[simp]theorem kGv_tt {t:Nat}:kGv P G o ops d t (.bool true) true op dst ct env U ks Q=kO P G o ops d op dst ct (upd env (some t) (.bool true)) U ks Q:=by simp[kGv]
@[simp]theorem kGv_ff {t:Nat}:kGv P G o ops d t (.bool false) false op dst ct env U ks Q=kO P G o ops d op dst ct (upd env (some t) (.bool false)) U ks Q:=by simp[kGv]
@[simp]theorem kGv_tf {t:Nat}:kGv P G o ops d t (.bool true) false op dst ct env U ks Q=kT P G o ops ct (upd (upd env (some t) (.bool true)) dst (.tup [])) U ks Q:=by simp[kGv]
@[simp]theorem kGv_ft {t:Nat}:kGv P G o ops d t (.bool false) true op dst ct env U ks Q=kT P G o ops ct (upd (upd env (some t) (.bool false)) dst (.tup [])) U ks Q:=by simp[kGv]
@[simp low]theorem kGv_true {t:Nat}{c:Bool}:kGv P G o ops d t (.bool c) true op dst ct env U ks Q=((c=true->kO P G o ops d op dst ct (upd env (some t) (.bool true)) U ks Q)/\(c=false->kT P G o ops ct (upd (upd env (some t) (.bool false)) dst (.tup [])) U ks Q)):=by simp[kGv]
@[simp low]theorem kGv_false {t:Nat}{c:Bool}:kGv P G o ops d t (.bool c) false op dst ct env U ks Q=((c=false->kO P G o ops d op dst ct (upd env (some t) (.bool false)) U ks Q)/\(c=true->kT P G o ops ct (upd (upd env (some t) (.bool true)) dst (.tup [])) U ks Q)):=by simp[kGv]
@[simp]theorem kS_some {v:AV}{U:St}:kS P G o ops (some (v,U)) dst ct env ks Q=kT P G o ops ct (upd env dst v) U ks Q:=zT rfl
@[simp]theorem kY_none {x:Option (AV×St)}:kY P G o ops none x dst ct env ks Q=kS P G o ops x dst ct env ks Q:=by simp only[kY,kS];rw[Wm]
@[simp]theorem kY_one {v:AV}{τ:St}{x:Option (AV×St)}:kY P G o ops (some [(v,τ)]) x dst ct env ks Q=kT P G o ops ct (upd env dst v) τ ks Q:=by simp only[kY];rw[qm1]
@[simp]theorem kY_two {v v':AV}{τ τ':St}{x:Option (AV×St)}:kY P G o ops (some [(v,τ),(v',τ')]) x dst ct env ks Q=(kT P G o ops ct (upd env dst v) τ ks Q/\kT P G o ops ct (upd env dst v') τ' ks Q):=by simp only[kY];rw[qm0]
@[simp]theorem kFn_fn {g:FuncId}{first args cap:List AV}:kFn P G o ops d (.fn g first cap) args U dst ct env ks Q=qc P G o ops d g (jI first args cap) U dst ct env ks Q:=zT rfl
@[simp ↓]theorem kO_call {f:Operand}{a:Array Operand}{t:Array TypeId}:kO P G o ops d (.call { callee:=.value f,args:=a,argTypes:=t }) dst ct env U ks Q=kFn P G o ops d (ev G env f) (Kh G env a.toList) U dst ct env ks Q:=zT rfl
@[simp ↓]theorem kO_move {x:Operand}:kO P G o ops d (.move x) dst ct env U ks Q=kS P G o ops (sem (Dof P) G env U (.move x)) dst ct env ks Q:=by simp only[kO,kS];rw[qfS]
@[simp ↓]theorem kO_assign {x:Operand}:kO P G o ops d (.assign x) dst ct env U ks Q=kS P G o ops (sem (Dof P) G env U (.assign x)) dst ct env ks Q:=by simp only[kO,kS];rw[qbw]
@[simp ↓]theorem kO_pick {a b c:Operand}:kO P G o ops d (.pick a b c) dst ct env U ks Q=kS P G o ops (sem (Dof P) G env U (.pick a b c)) dst ct env ks Q:=by simp only[kO,kS];rw[qfR]
@[simp ↓]theorem kO_alloc {t:TypeId}:kO P G o ops d (.alloc t) dst ct env U ks Q=kS P G o ops (sem (Dof P) G env U (.alloc t)) dst ct env ks Q:=by simp only[kO,kS];rw[qep]
@[simp ↓]theorem kO_box {t:TypeId}{x:Operand}:kO P G o ops d (.box t x) dst ct env U ks Q=kS P G o ops (sem (Dof P) G env U (.box t x)) dst ct env ks Q:=by simp only[kO,kS];rw[qji]
@[simp ↓]theorem kO_build {t:TypeId}{p:Array (Nat×Operand)}:kO P G o ops d (.build t p) dst ct env U ks Q=kS P G o ops (sem (Dof P) G env U (.build t p)) dst ct env ks Q:=by simp only[kO,kS];rw[qen]
@[simp ↓]theorem qkA {t:TypeId}{n:Nat}{p:Array (Nat×Operand)}:kO P G o ops d (.buildSlice t n p) dst ct env U ks Q=kS P G o ops (sem (Dof P) G env U (.buildSlice t n p)) dst ct env ks Q:=by simp only[kO,kS];rw[JI]
@[simp ↓]theorem kO_load {t:TypeId}{x:Operand}:kO P G o ops d (.load t x) dst ct env U ks Q=kS P G o ops (sem (Dof P) G env U (.load t x)) dst ct env ks Q:=by simp only[kO,kS];rw[qfT]
@[simp ↓]theorem kO_store {t:TypeId}{x y:Operand}:kO P G o ops d (.store t x y) dst ct env U ks Q=kS P G o ops (sem (Dof P) G env U (.store t x y)) dst ct env ks Q:=by simp only[kO,kS];rw[qej]
@[simp ↓]theorem qn6 {x:Operand}:kO P G o ops d (.nilCheck x) dst ct env U ks Q=kS P G o ops (sem (Dof P) G env U (.nilCheck x)) dst ct env ks Q:=by simp only[kO,kS];rw[Wn]
@[simp ↓]theorem kO_binOp {b:BinOp}{t u:TypeId}{x y:Operand}(h:b≠.eql)(h':b≠.neq):kO P G o ops d (.binOp b t x y u) dst ct env U ks Q=kS P G o ops (sem (Dof P) G env U (.binOp b t x y u)) dst ct env ks Q:=by simp only[kO,kS];rw[qeo h h']
@[simp ↓]theorem kO_eql {t u:TypeId}{x y:Operand}:kO P G o ops d (.binOp .eql t x y u) dst ct env U ks Q=kY P G o ops (qg2 d false (Dof P) t (ev G env x) (ev G env y) U) (sem (Dof P) G env U (.binOp .eql t x y u)) dst ct env ks Q:=by simp only[kO,kY];rw[qjg]
@[simp ↓]theorem kO_neq {t u:TypeId}{x y:Operand}:kO P G o ops d (.binOp .neq t x y u) dst ct env U ks Q=kY P G o ops (qg2 d true (Dof P) t (ev G env x) (ev G env y) U) (sem (Dof P) G env U (.binOp .neq t x y u)) dst ct env ks Q:=by simp only[kO,kY];rw[qjd]
@[simp ↓]theorem kO_unOp {u:UnOp}{t:TypeId}{x:Operand}:kO P G o ops d (.unOp u t x) dst ct env U ks Q=kS P G o ops (sem (Dof P) G env U (.unOp u t x)) dst ct env ks Q:=by simp only[kO,kS];rw[qfQ]
@[simp ↓]theorem kO_convert {t u:TypeId}{x:Operand}:kO P G o ops d (.convert t u x) dst ct env U ks Q=kS P G o ops (sem (Dof P) G env U (.convert t u x)) dst ct env ks Q:=by simp only[kO,kS];rw[VB]
@[simp ↓]theorem qn7 {f:Fn}{a b:Array Operand}:kO P G o ops d (.makeFunc f a b) dst ct env U ks Q=kS P G o ops (sem (Dof P) G env U (.makeFunc f a b)) dst ct env ks Q:=by simp only[kO,kS];rw[Wo]
@[simp ↓]theorem kO_makeMap {t:TypeId}{r:Option Operand}:kO P G o ops d (.makeMap t r) dst ct env U ks Q=kS P G o ops (sem (Dof P) G env U (.makeMap t r)) dst ct env ks Q:=by simp only[kO,kS];rw[Vz]
theorem QO {t:TypeId}{x y:Operand}(hmu:o.mu=false):kO P G o ops d (.makeSlice t x y) dst ct env U ks Q=kS P G o ops (sem (Dof P) G env U (.makeSlice t x y)) dst ct env ks Q:=by
 simp only[kO,kS];cases d
 . rw[vX,hmu,qg6,Wm]
 . rw[JH]
@[simp ↓]theorem qky {u:List (Nat×Sch×List Nat)}{lw:List Nat}{v:List (Nat×Nat)}{t:TypeId}{x y:Operand}:kO P G ⟨false,u,lw,v⟩ ops d (.makeSlice t x y) dst ct env U ks Q=kS P G ⟨false,u,lw,v⟩ ops (sem (Dof P) G env U (.makeSlice t x y)) dst ct env ks Q:=QO rfl
@[simp ↓]theorem qkz {t:TypeId}{x y:Operand}:kO P G o0 ops d (.makeSlice t x y) dst ct env U ks Q=kS P G o0 ops (sem (Dof P) G env U (.makeSlice t x y)) dst ct env ks Q:=QO rfl
@[simp ↓]theorem qkx {u:List (Nat×Sch×List Nat)}{lw:List Nat}{v:List (Nat×Nat)}{t:TypeId}{x y:Operand}:kO P G ⟨true,u,lw,v⟩ ops false (.makeSlice t x y) dst ct env U ks Q=kY P G ⟨true,u,lw,v⟩ ops (mkX (Dof P) true U t (ev G env x) (ev G env y)) (sem (Dof P) G env U (.makeSlice t x y)) dst ct env ks Q:=by simp only[kO,kY];rw[vX]
@[simp ↓]theorem kO_slice {t:TypeId}{x:Operand}{lo hi mx:Option Operand}:kO P G o ops d (.slice t x lo hi mx) dst ct env U ks Q=kS P G o ops (sem (Dof P) G env U (.slice t x lo hi mx)) dst ct env ks Q:=by simp only[kO,kS];rw[qek]
@[simp ↓]theorem qmk {t:TypeId}{x:Operand}{i:Nat}:kO P G o ops d (.fieldAddr t x i) dst ct env U ks Q=kS P G o ops (sem (Dof P) G env U (.fieldAddr t x i)) dst ct env ks Q:=by simp only[kO,kS];rw[Ke]
@[simp ↓]theorem kO_field {t:TypeId}{x:Operand}{i:Nat}:kO P G o ops d (.field t x i) dst ct env U ks Q=kS P G o ops (sem (Dof P) G env U (.field t x i)) dst ct env ks Q:=by simp only[kO,kS];rw[qem]
@[simp ↓]theorem qmj {t:TypeId}{x y:Operand}:kO P G o ops d (.indexAddr t x y) dst ct env U ks Q=kS P G o ops (sem (Dof P) G env U (.indexAddr t x y)) dst ct env ks Q:=by simp only[kO,kS];rw[Kd]
@[simp ↓]theorem kO_index {t:TypeId}{x y:Operand}:kO P G o ops d (.index t x y) dst ct env U ks Q=kS P G o ops (sem (Dof P) G env U (.index t x y)) dst ct env ks Q:=by simp only[kO,kS];rw[qel]
@[simp ↓]theorem kO_lookup {t:TypeId}{x y:Operand}{k:Bool}:kO P G o ops d (.lookup t x y k) dst ct env U ks Q=kS P G o ops (sem (Dof P) G env U (.lookup t x y k)) dst ct env ks Q:=by simp only[kO,kS];rw[qbv]
@[simp ↓]theorem qmi {t:TypeId}{x y z:Operand}:kO P G o ops d (.mapUpdate t x y z) dst ct env U ks Q=kS P G o ops (sem (Dof P) G env U (.mapUpdate t x y z)) dst ct env ks Q:=by simp only[kO,kS];rw[Kc]
@[simp ↓]theorem kO_extract {x:Operand}{i:Nat}:kO P G o ops d (.extract x i) dst ct env U ks Q=kS P G o ops (sem (Dof P) G env U (.extract x i)) dst ct env ks Q:=by simp only[kO,kS];rw[VA]
@[simp ↓]theorem kO_len {a:Array Operand}{t:Array TypeId}:kO P G o ops d (.call { callee:=.builtin .len,args:=a,argTypes:=t }) dst ct env U ks Q=kS P G o ops (sem (Dof P) G env U (.call { callee:=.builtin .len,args:=a,argTypes:=t })) dst ct env ks Q:=by simp only[kO,kS];rw[qjf]
@[simp ↓]theorem kO_min {a:Array Operand}{t:Array TypeId}:kO P G o ops d (.call { callee:=.builtin .min,args:=a,argTypes:=t }) dst ct env U ks Q=kS P G o ops (sem (Dof P) G env U (.call { callee:=.builtin .min,args:=a,argTypes:=t })) dst ct env ks Q:=by simp only[kO,kS];rw[qje]
@[simp ↓]theorem qhx {a:Array Operand}{t:Array TypeId}(hmu:o.mu=false):kO P G o ops d (.call { callee:=.builtin .append,args:=a,argTypes:=t }) dst ct env U ks Q=kS P G o ops (sem (Dof P) G env U (.call { callee:=.builtin .append,args:=a,argTypes:=t })) dst ct env ks Q:=by simp only[kO,kS,hmu];rw[qbx]
@[simp ↓]theorem kO_appendM {s x:Operand}{t u:TypeId}(hmu:o.mu=true):kO P G o ops false (.call { callee:=.builtin .append,args:=#[s,x],argTypes:=#[t,u] }) dst ct env U ks Q=kY P G o ops ((zu (Dof P) U t u (ev G env s) (ev G env x)).map fun p=>[p]) (sem (Dof P) G env U (.call { callee:=.builtin .append,args:=#[s,x],argTypes:=#[t,u] })) dst ct env ks Q:=by simp only[kO,kY,hmu];rw[VC]
@[simp ↓]theorem kO_copy {x y:Operand}{t u:TypeId}:kO P G o ops false (.call { callee:=.builtin .copy,args:=#[x,y],argTypes:=#[t,u] }) dst ct env U ks Q=kY P G o ops ((ym (Dof P) U t (ev G env x) (ev G env y)).map fun p=>[p]) none dst ct env ks Q:=by simp only[kO,kY];rw[qfU]
@[simp ↓]theorem kO_append0 {a:Array Operand}{t:Array TypeId}:kO P G o0 ops d (.call { callee:=.builtin .append,args:=a,argTypes:=t }) dst ct env U ks Q=kS P G o0 ops (sem (Dof P) G env U (.call { callee:=.builtin .append,args:=a,argTypes:=t })) dst ct env ks Q:=qhx rfl
end
section
@[simp]theorem atom_any  : AV.atom (.any)=false:=rfl
@[simp]theorem qoR  : qZ (.any)=none:=rfl
@[simp]theorem pl1_any  : pl1 (.any)=.any:=rfl
@[simp]theorem pl2_any  : pl2 (.any)=.any:=rfl
@[simp]theorem plain_any  : plain (.any)=.any:=rfl
@[simp]theorem fin1_any  {H:List Blk}:kv H (.any)=.any:=rfl
@[simp]theorem fin2_any  {H:List Blk}:Zr H (.any)=.any:=rfl
@[simp]theorem fin_any  {H:List Blk}:fin H (.any)=.any:=rfl
@[simp]theorem atom_bool {b:Bool}:AV.atom (.bool b)=true:=rfl
@[simp]theorem qmL {b:Bool}:qZ (.bool b)=some [.bool b]:=rfl
@[simp]theorem pl1_bool {b:Bool}:pl1 (.bool b)=.bool b:=rfl
@[simp]theorem pl2_bool {b:Bool}:pl2 (.bool b)=.bool b:=rfl
@[simp]theorem plain_bool {b:Bool}:plain (.bool b)=.bool b:=rfl
@[simp]theorem fin1_bool {b:Bool}{H:List Blk}:kv H (.bool b)=.bool b:=rfl
@[simp]theorem fin2_bool {b:Bool}{H:List Blk}:Zr H (.bool b)=.bool b:=rfl
@[simp]theorem fin_bool {b:Bool}{H:List Blk}:fin H (.bool b)=.bool b:=rfl
@[simp]theorem atom_int {k:IntKind}{n:Int}:AV.atom (.int k n)=true:=rfl
@[simp]theorem qoQ {k:IntKind}{n:Int}:qZ (.int k n)=some [.int k n]:=rfl
@[simp]theorem pl1_int {k:IntKind}{n:Int}:pl1 (.int k n)=.int k n:=rfl
@[simp]theorem pl2_int {k:IntKind}{n:Int}:pl2 (.int k n)=.int k n:=rfl
@[simp]theorem plain_int {k:IntKind}{n:Int}:plain (.int k n)=.int k n:=rfl
@[simp]theorem fin1_int {k:IntKind}{n:Int}{H:List Blk}:kv H (.int k n)=.int k n:=rfl
@[simp]theorem fin2_int {k:IntKind}{n:Int}{H:List Blk}:Zr H (.int k n)=.int k n:=rfl
@[simp]theorem fin_int {k:IntKind}{n:Int}{H:List Blk}:fin H (.int k n)=.int k n:=rfl
@[simp]theorem atom_str {s:List UInt8}:AV.atom (.str s)=true:=rfl
@[simp]theorem qoN {s:List UInt8}:qZ (.str s)=some [.str s]:=rfl
@[simp]theorem pl1_str {s:List UInt8}:pl1 (.str s)=.str s:=rfl
@[simp]theorem pl2_str {s:List UInt8}:pl2 (.str s)=.str s:=rfl
@[simp]theorem plain_str {s:List UInt8}:plain (.str s)=.str s:=rfl
@[simp]theorem fin1_str {s:List UInt8}{H:List Blk}:kv H (.str s)=.str s:=rfl
@[simp]theorem fin2_str {s:List UInt8}{H:List Blk}:Zr H (.str s)=.str s:=rfl
@[simp]theorem fin_str {s:List UInt8}{H:List Blk}:fin H (.str s)=.str s:=rfl
@[simp]theorem atom_nilp  : AV.atom (.nilp)=true:=rfl
@[simp]theorem qmH  : qZ (.nilp)=some [.nilp]:=rfl
@[simp]theorem pl1_nilp  : pl1 (.nilp)=.nilp:=rfl
@[simp]theorem pl2_nilp  : pl2 (.nilp)=.nilp:=rfl
@[simp]theorem plain_nilp  : plain (.nilp)=.nilp:=rfl
@[simp]theorem fin1_nilp  {H:List Blk}:kv H (.nilp)=.nilp:=rfl
@[simp]theorem fin2_nilp  {H:List Blk}:Zr H (.nilp)=.nilp:=rfl
@[simp]theorem fin_nilp  {H:List Blk}:fin H (.nilp)=.nilp:=rfl
@[simp]theorem atom_ptr {b o:Nat}:AV.atom (.ptr b o)=true:=rfl
@[simp]theorem qoO {b o:Nat}:qZ (.ptr b o)=some [.ptr b o]:=rfl
@[simp]theorem pl1_ptr {b o:Nat}:pl1 (.ptr b o)=.ptr b o:=rfl
@[simp]theorem pl2_ptr {b o:Nat}:pl2 (.ptr b o)=.ptr b o:=rfl
@[simp]theorem plain_ptr {b o:Nat}:plain (.ptr b o)=.ptr b o:=rfl
@[simp]theorem fin1_ptr {b o:Nat}{H:List Blk}:kv H (.ptr b o)=.ptr b o:=rfl
@[simp]theorem fin2_ptr {b o:Nat}{H:List Blk}:Zr H (.ptr b o)=.ptr b o:=rfl
@[simp]theorem fin_ptr {b o:Nat}{H:List Blk}:fin H (.ptr b o)=.ptr b o:=rfl
@[simp]theorem atom_rptr {c:List AV}:AV.atom (.rptr c)=true:=rfl
@[simp]theorem qmG {c:List AV}:qZ (.rptr c)=some [.rptr c]:=rfl
@[simp]theorem pl1_rptr {c:List AV}:pl1 (.rptr c)=.rptr c:=rfl
@[simp]theorem pl2_rptr {c:List AV}:pl2 (.rptr c)=.rptr c:=rfl
@[simp]theorem plain_rptr {c:List AV}:plain (.rptr c)=.rptr c:=rfl
@[simp]theorem fin1_rptr {c:List AV}{H:List Blk}:kv H (.rptr c)=.rptr c:=rfl
@[simp]theorem fin2_rptr {c:List AV}{H:List Blk}:Zr H (.rptr c)=.rptr c:=rfl
@[simp]theorem fin_rptr {c:List AV}{H:List Blk}:fin H (.rptr c)=.rptr c:=rfl
@[simp]theorem atom_nilm  : AV.atom (.nilm)=true:=rfl
@[simp]theorem qmI  : qZ (.nilm)=some [.nilm]:=rfl
@[simp]theorem pl1_nilm  : pl1 (.nilm)=.nilm:=rfl
@[simp]theorem pl2_nilm  : pl2 (.nilm)=.nilm:=rfl
@[simp]theorem plain_nilm  : plain (.nilm)=.nilm:=rfl
@[simp]theorem fin1_nilm  {H:List Blk}:kv H (.nilm)=.nilm:=rfl
@[simp]theorem fin2_nilm  {H:List Blk}:Zr H (.nilm)=.nilm:=rfl
@[simp]theorem fin_nilm  {H:List Blk}:fin H (.nilm)=.nilm:=rfl
@[simp]theorem atom_map {b:Nat}:AV.atom (.map b)=true:=rfl
@[simp]theorem qoP {b:Nat}:qZ (.map b)=some [.map b]:=rfl
@[simp]theorem pl1_map {b:Nat}:pl1 (.map b)=.map b:=rfl
@[simp]theorem pl2_map {b:Nat}:pl2 (.map b)=.map b:=rfl
@[simp]theorem plain_map {b:Nat}:plain (.map b)=.map b:=rfl
@[simp]theorem fin1_map {b:Nat}{H:List Blk}:kv H (.map b)=.map b:=rfl
@[simp]theorem fin2_map {b:Nat}{H:List Blk}:Zr H (.map b)=.map b:=rfl
@[simp]theorem fin_map {b:Nat}{H:List Blk}:fin H (.map b)=.map b:=rfl
@[simp]theorem atom_iter {b:Nat}:AV.atom (.iter b)=true:=rfl
@[simp]theorem qmK {b:Nat}:qZ (.iter b)=some [.iter b]:=rfl
@[simp]theorem pl1_iter {b:Nat}:pl1 (.iter b)=.iter b:=rfl
@[simp]theorem pl2_iter {b:Nat}:pl2 (.iter b)=.iter b:=rfl
@[simp]theorem plain_iter {b:Nat}:plain (.iter b)=.iter b:=rfl
@[simp]theorem fin1_iter {b:Nat}{H:List Blk}:kv H (.iter b)=.iter b:=rfl
@[simp]theorem fin2_iter {b:Nat}{H:List Blk}:Zr H (.iter b)=.iter b:=rfl
@[simp]theorem fin_iter {b:Nat}{H:List Blk}:fin H (.iter b)=.iter b:=rfl
@[simp]theorem atom_fn {f:FuncId}{a c:List AV}:AV.atom (.fn f a c)=true:=rfl
@[simp]theorem acells_fnB {f:FuncId}{a c:List AV}:qZ (.fn f a c)=some [.fn f a c]:=rfl
@[simp]theorem pl1_fn {f:FuncId}{a c:List AV}:pl1 (.fn f a c)=.fn f a c:=rfl
@[simp]theorem pl2_fn {f:FuncId}{a c:List AV}:pl2 (.fn f a c)=.fn f a c:=rfl
@[simp]theorem plain_fn {f:FuncId}{a c:List AV}:plain (.fn f a c)=.fn f a c:=rfl
@[simp]theorem fin1_fn {f:FuncId}{a c:List AV}{H:List Blk}:kv H (.fn f a c)=.fn f a c:=rfl
@[simp]theorem fin2_fn {f:FuncId}{a c:List AV}{H:List Blk}:Zr H (.fn f a c)=.fn f a c:=rfl
@[simp]theorem fin_fn {f:FuncId}{a c:List AV}{H:List Blk}:fin H (.fn f a c)=.fn f a c:=rfl
@[simp]theorem atom_nilf  : AV.atom (.nilf)=true:=rfl
@[simp]theorem qmJ  : qZ (.nilf)=some [.nilf]:=rfl
@[simp]theorem pl1_nilf  : pl1 (.nilf)=.nilf:=rfl
@[simp]theorem pl2_nilf  : pl2 (.nilf)=.nilf:=rfl
@[simp]theorem plain_nilf  : plain (.nilf)=.nilf:=rfl
@[simp]theorem fin1_nilf  {H:List Blk}:kv H (.nilf)=.nilf:=rfl
@[simp]theorem fin2_nilf  {H:List Blk}:Zr H (.nilf)=.nilf:=rfl
@[simp]theorem fin_nilf  {H:List Blk}:fin H (.nilf)=.nilf:=rfl
@[simp]theorem atom_sl {sz:Nat}{rows:List (List AV)}{tok:Tok}:AV.atom (.sl sz rows tok)=true:=rfl
@[simp]theorem acells_slB {sz:Nat}{rows:List (List AV)}{tok:Tok}:qZ (.sl sz rows tok)=some [.sl sz rows tok]:=rfl
@[simp]theorem qnF {sz:Nat}{rows:List (List AV)}  : pl1 (.sl sz rows .none)=.sl sz rows .none:=rfl
@[simp]theorem qnE {sz:Nat}{rows:List (List AV)}  : pl2 (.sl sz rows .none)=.sl sz rows .none:=rfl
@[simp]theorem qj6 {sz:Nat}{rows:List (List AV)}  : plain (.sl sz rows .none)=.sl sz rows .none:=rfl
@[simp]theorem qmt {sz:Nat}{rows:List (List AV)}  {H:List Blk}:kv H (.sl sz rows .none)=.sl sz rows .none:=rfl
@[simp]theorem qms {sz:Nat}{rows:List (List AV)}  {H:List Blk}:Zr H (.sl sz rows .none)=.sl sz rows .none:=rfl
@[simp]theorem qoi {sz:Nat}{rows:List (List AV)}  {H:List Blk}:fin H (.sl sz rows .none)=.sl sz rows .none:=rfl
@[simp]theorem pl1_sl_nil {sz:Nat}{rows:List (List AV)}  : pl1 (.sl sz rows .nil)=.sl sz rows .nil:=rfl
@[simp]theorem pl2_sl_nil {sz:Nat}{rows:List (List AV)}  : pl2 (.sl sz rows .nil)=.sl sz rows .nil:=rfl
@[simp]theorem ql1 {sz:Nat}{rows:List (List AV)}  : plain (.sl sz rows .nil)=.sl sz rows .nil:=rfl
@[simp]theorem qol {sz:Nat}{rows:List (List AV)}  {H:List Blk}:kv H (.sl sz rows .nil)=.sl sz rows .nil:=rfl
@[simp]theorem qok {sz:Nat}{rows:List (List AV)}  {H:List Blk}:Zr H (.sl sz rows .nil)=.sl sz rows .nil:=rfl
@[simp]theorem fin_sl_nil {sz:Nat}{rows:List (List AV)}  {H:List Blk}:fin H (.sl sz rows .nil)=.sl sz rows .nil:=rfl
@[simp]theorem ql4 {sz:Nat}{rows:List (List AV)}  : pl1 (.sl sz rows .tight)=.sl sz rows .tight:=rfl
@[simp]theorem ql2 {sz:Nat}{rows:List (List AV)}  : pl2 (.sl sz rows .tight)=.sl sz rows .tight:=rfl
@[simp]theorem qi4 {sz:Nat}{rows:List (List AV)}  : plain (.sl sz rows .tight)=.sl sz rows .tight:=rfl
@[simp]theorem qk1 {sz:Nat}{rows:List (List AV)}  {H:List Blk}:kv H (.sl sz rows .tight)=.sl sz rows .tight:=rfl
@[simp]theorem qkZ {sz:Nat}{rows:List (List AV)}  {H:List Blk}:Zr H (.sl sz rows .tight)=.sl sz rows .tight:=rfl
@[simp]theorem qmq {sz:Nat}{rows:List (List AV)}  {H:List Blk}:fin H (.sl sz rows .tight)=.sl sz rows .tight:=rfl
@[simp]theorem ql5 {sz:Nat}{rows:List (List AV)}{t k:Nat}:pl1 (.sl sz rows (.chain t k))=.sl sz rows .none:=rfl
@[simp]theorem ql3 {sz:Nat}{rows:List (List AV)}{t k:Nat}:pl2 (.sl sz rows (.chain t k))=.sl sz rows .none:=rfl
@[simp]theorem qi5 {sz:Nat}{rows:List (List AV)}{t k:Nat}:plain (.sl sz rows (.chain t k))=.sl sz rows .none:=rfl
@[simp]theorem qk2 {sz:Nat}{rows:List (List AV)}{t k:Nat}{H:List Blk}:kv H (.sl sz rows (.chain t k))=.sl sz rows .none:=rfl
@[simp]theorem qk0 {sz:Nat}{rows:List (List AV)}{t k:Nat}{H:List Blk}:Zr H (.sl sz rows (.chain t k))=.sl sz rows .none:=rfl
@[simp]theorem qmr {sz:Nat}{rows:List (List AV)}{t k:Nat}{H:List Blk}:fin H (.sl sz rows (.chain t k))=.sl sz rows .none:=rfl
@[simp]theorem atom_ms {b o l z:Nat}:AV.atom (.ms b o l z)=true:=rfl
@[simp]theorem acells_msB {b o l z:Nat}:qZ (.ms b o l z)=some [.ms b o l z]:=rfl
@[simp]theorem pl1_ms {b o l z:Nat}:pl1 (.ms b o l z)=.ms b o l z:=rfl
@[simp]theorem pl2_ms {b o l z:Nat}:pl2 (.ms b o l z)=.ms b o l z:=rfl
@[simp]theorem plain_ms {b o l z:Nat}:plain (.ms b o l z)=.ms b o l z:=rfl
@[simp]theorem atom_agg {c:List AV}:AV.atom (.agg c)=false:=rfl
@[simp]theorem atom_tup {c:List AV}:AV.atom (.tup c)=false:=rfl
@[simp]theorem qoS {c:List AV}:qZ (.agg c)=if c.all AV.atom=true then some c else none:=rfl
@[simp]theorem acells_tup {c:List AV}:qZ (.tup c)=none:=rfl
@[simp]theorem pl2_agg {c:List AV}:pl2 (.agg c)=.agg (c.map pl1):=rfl
@[simp]theorem plain_agg {c:List AV}:plain (.agg c)=.agg (c.map pl1):=rfl
@[simp]theorem fin2_agg {c:List AV}{H:List Blk}:Zr H (.agg c)=.agg (c.map (kv H)):=rfl
@[simp]theorem fin_agg {c:List AV}{H:List Blk}:fin H (.agg c)=.agg (c.map (kv H)):=rfl
@[simp]theorem plain_tup {c:List AV}:plain (.tup c)=.tup (c.map pl2):=rfl
@[simp]theorem fin_tup {c:List AV}{H:List Blk}:fin H (.tup c)=.tup (c.map (Zr H)):=rfl
end
attribute [simp] qr3 qq2
attribute [simp] zl zP qA qm qz zI Zh qR TD.isSl TD.isPtr TD.isMap TD.isFn
section
variable {A t:List Blk}{k:Nat}{x:Blk}
@[simp]theorem at_app0:(A++t)[A.length]?=t[0]? := by rw[qo5 (qo7 _),qql]
@[simp]theorem at_appk:(A++t)[A.length+k]?=t[k]? := by rw[qo5 (by omega)];congr 1;try omega
theorem qa (h:A[k]?=some x)(t:List Blk):(A++t)[k]?=some x:=by rw[qo8 (qoX.1 h).1,h]
theorem yy {b:Nat}(h:A[b]?=some x)(t:List Blk)(y:Blk):(A++t).set b y=A.set b y++t:=List.set_append_left _ _ (qoX.1 h).1
end
section
variable {P:Program}{G:Glo}{U:St}{f:FuncId}{args:List AV}{r:AV}
theorem Pure.kO {G : Nat → AV} {fn : Func} {c : Code} (o : Opts) (deep : Bool) (hm : P.follows .mixedOrders = true) (hf : P.funcs[f]? = some fn) (hb : fn.body = some c) (hk : (jn fn.ntmps o c && decide (args.length ≤ fn.ntmps) && fn.name != "runtime.NumGoroutine") = true)
 (h:kC P G o c (wK args) ⟨[],[]⟩ [] (Yy P deep fn.results.toList r)):Pure P G f args r:=Pure.vcO o deep hm hf hb hk h
theorem Pure.k {G : Nat → AV} {fn : Func} {c : Code} (hm : P.follows .mixedOrders = true) (hf : P.funcs[f]? = some fn) (hb : fn.body = some c) (hk : (jn fn.ntmps o0 c && decide (args.length ≤ fn.ntmps) && fn.name != "runtime.NumGoroutine") = true)
 (h:kC P G o0 c (wK args) ⟨[],[]⟩ [] (Yy P false fn.results.toList r)):Pure P G f args r:=Pure.vc hm hf hb hk h
theorem qg.kO {fn : Func} {c : Code} {Q : AV → St → Prop} (o : Opts) (hm : P.follows .mixedOrders = true) (hf : P.funcs[f]? = some fn) (hb : fn.body = some c) (hk : (jn fn.ntmps o c && decide (args.length ≤ fn.ntmps) && fn.name != "runtime.NumGoroutine") = true)
 (h:kC P G o c (wK args) U [] (qbg P fn.results.toList Q)):qg P G f args U Q:=qg.vcO o hm hf hb hk h
theorem qg.k {fn : Func} {c : Code} {Q : AV → St → Prop} (hm : P.follows .mixedOrders = true) (hf : P.funcs[f]? = some fn) (hb : fn.body = some c) (hk : (jn fn.ntmps o0 c && decide (args.length ≤ fn.ntmps) && fn.name != "runtime.NumGoroutine") = true)
 (h:kC P G o0 c (wK args) U [] (qbg P fn.results.toList Q)):qg P G f args U Q:=qg.vc hm hf hb hk h
end
section
variable {P:Program}{G:Glo}{o:Opts}{ops:Array Oper}{d:Bool}{g:FuncId}{args args':List AV}{env:Env}{U:St}{ks:List Fr}{Q:Exit->Env->St->Prop}{dst:Option Nat}{ct:Ct}{r:AV}
theorem qc.call (h:Pure P G g args r)(hno:qp args=true)(hq:kT P G o ops ct (upd env dst r) U ks Q):qc P G o ops d g args U dst ct env ks Q:=qb.call h hno hq
theorem qc.less (h:Pure P G g args' r)(hno:qp args=true)(ha:zn args args')(hq:kT P G o ops ct (upd env dst r) U ks Q):qc P G o ops d g args U dst ct env ks Q:=qb.less h hno ha hq
theorem qc.pure (h:Pure P G g args' r)(hno:qp (args.map plain)=true)(ha:zn (args.map plain) args')(hq:kT P G o ops ct (upd env dst r) U ks Q):qc P G o ops d g args U dst ct env ks Q:=qb.pure h hno ha hq
theorem qc.lent (h:Pure P G g args' r)(hb:qmD r=true)(ha:zn (args.map (frz U.H 8)) args')(hq:kT P G o ops ct (upd env dst r) U ks Q):qc P G o ops d g args U dst ct env ks Q:=qb.lent h hb ha hq
theorem qc.acall {R:AV->St->Prop}(h:qg P G g args U R)(hq:∀ v U',R v U'->kT P G o ops ct (upd env dst v) U' ks Q):qc P G o ops false g args U dst ct env ks Q:=qg.imp h hq
theorem qJ.list {α:Type}(l:List α)(J:List α->Env->St->Prop){c:Code}(h0:J [] env U)
 (hs:∀ d v r env U,l=d++v::r->l[d.length]?=some v->d.length<l.length->J d env U->kC P G o c env U (.loop (J (d++[v]))::ks) Q)
 (he:∀ env U,J l env U->kC P G o c env U (.loop (fun _ _=>False)::ks) Q) (hp:jN c=true:=by rfl):qJ P G o c env U ks Q:=qF.list l J h0 hs he hp
theorem qJ.count (n:Nat)(J:Nat->Env->St->Prop){c:Code}(h0:J 0 env U)
 (hs:∀ i env U,i<n->J i env U->kC P G o c env U (.loop (J (i+1))::ks) Q)
 (he:∀ env U,J n env U->kC P G o c env U (.loop (fun _ _=>False)::ks) Q) (hp:jN c=true:=by rfl):qJ P G o c env U ks Q:=qF.count n J h0 hs he hp
theorem qJ.gen {c:Code}(I:Nat->Env->St->Prop)(n:Nat)(h:I n env U)(hr:∀ n env U (R:Env->St->Prop),(∀ m env U,m<n->I m env U->R env U)->I n env U->kC P G o c env U (.loop R::ks) Q):qJ P G o c env U ks Q :=
 qF.intro I n h fun n env U hI=>hr n env U _ (fun m env U hm hI=>⟨m,hm,hI⟩) hI
end
end
section
def js {α:Type}(b sz:Nat)(en:α->List AV)(H:List Blk)(v:AV)(l:List α):Prop :=
 (l=[]/\v=.sl 0 [] .nil)\/(l≠[]/\v=.ms b 0 l.length sz/\H[b]?=some (.cells (l.flatMap en)))
section
variable {α:Type}{b sz:Nat}{en:α->List AV}{H:List Blk}{v:AV}{l m:List α}
theorem chunk_flat (hl:∀ x,(en x).length=sz):∀ (l:List α) (t:List AV),kw sz l.length (l.flatMap en++t)=l.map en
 | [],t=>by simp[kw]
 | a::r,t=>by
  have h1:((a::r).flatMap en++t).take sz=en a:=by
   rw[qpn,qps,qpU (by rw[hl];exact qo7 _),qo6 (by rw[hl];exact qo7 _)]
  have h2:((a::r).flatMap en++t).drop sz=r.flatMap en++t:=by
   rw[qpn,qps,qqO (by rw[hl];exact qo7 _),qpz (by rw[hl];exact qo7 _),qpl]
  show ((a::r).flatMap en++t).take sz::kw sz r.length (((a::r).flatMap en++t).drop sz)=en a::r.map en;rw[h1,h2,chunk_flat hl r t]
theorem flat_len (hl:∀ x,(en x).length=sz):∀ (l:List α),(l.flatMap en).length=l.length*sz
 | []=>by simp
 | a::r=>by rw[qpn,qo3,hl,flat_len hl r,qpd,qro];omega
theorem vJ (hn:∀ x,qp (en x)=true){n:Nat}:∀ (l:List α),(l.map en).map (·.map (frz H n))=l.map en
 | []=>rfl
 | a::r=>by
  have h:(en a).map (frz H n)=en a:=by
   have:=hn a;generalize en a=c at this
   induction c with
   | nil=>rfl
   | cons x y ih=>
    simp only[qp,qo0]at this;rw[qo9,qG this.1,ih this.2]
  rw[qo9,qo9,h,vJ hn r]
theorem js.frz (h:js b sz en H v l)(hl:∀ x,(en x).length=sz)(hn:∀ x,qp (en x)=true)(ha:∀ x,(en x).all AV.atom=true)(n:Nat):Leq (frz H (n+1) v) (.sl sz (l.map en) .none):=by
 rcases h with ⟨rfl,rfl⟩|⟨hne,rfl,hb⟩
 . rw[qG (by simp)];simp
 . have hc:=chunk_flat hl l [];rw[qpB]at hc;have hall:((kw sz l.length (l.flatMap en)).map (·.map (Abs.frz H n))).all (·.all AV.atom)=true:=by
    rw[hc,vJ hn,qr0,qpa];intro x _;exact ha x
   unfold Abs.frz;simp only[qC,qpi,if_false,hb,qqm];rw[if_pos ⟨by rw[flat_len hl];omega,hall⟩,hc,vJ hn];exact Leq.refl _
theorem js.append {D:Nat->Option TI}{T:List (Option Nat)}{ty e:Nat}{i j:TI}{tok:Tok}(h:js b sz en H v l)(hi:D ty=some i)(hd:i.d=.sl e)(hj:D e=some j)(hsz:j.size=sz)(h0:0<sz)(hz:j.zero.length=sz)(hbt:j.bytes<=256)
 (hl:∀ x,(en x).length=sz) (hlen:l.length+m.length<=549755813888) (hm:m≠[]) :
 ∃ v' H',zu D ⟨H,T⟩ ty ty v (.sl sz (m.map en) tok)=some (v',⟨H',T⟩)/\js H.length sz en H' v' (l++m)/\(∀ (k:Nat) (x:Blk),H[k]?=some x->(l=[]\/k≠b)->H'[k]?=some x)/\H'.length=H.length+1:=by
 subst hsz;have hml:m.length≠0:=fun h=>hm (qq1.1 h)
 have hfl:(m.map en).flatten=m.flatMap en:=by rw[qqC]
 rcases h with ⟨rfl,rfl⟩|⟨hne,rfl,hb⟩
 . refine⟨.ms H.length 0 m.length j.size,H++[.cells (m.flatMap en)],?_,?_,?_,by simp⟩
   . have:m.length<=549755813888:=by simpa using hlen
     simp[zu,ji,hi,hd,hj,h0,hz,hbt,Ww,qR,hml,this,hm,hfl]
   . right;refine⟨by simpa using hm,by simp,by simp⟩
   . intro k x hk _;rw[qo8 (qoX.1 hk).1,hk]
 . have hfl2:=flat_len hl l;refine⟨.ms H.length 0 (l.length+m.length) j.size,H.set b .dead++[.cells (l.flatMap en++m.flatMap en)],?_,?_,?_,by simp⟩
   . have ht:(l.flatMap en).take (l.length*j.size)=l.flatMap en:=qo6 (by omega);have hle:l.length*j.size<=(l.flatMap en).length:=(by omega);rw[hfl2]at hle;simp[zu,ji,hi,hd,hj,h0,hz,hbt,Ww,qR,hml,hlen,hm,hfl,hb,hfl2,ht]
   . right;refine⟨by simp[hne],by simp,by simp⟩
   . intro k x hk hkb;have hkb:=hkb.resolve_left hne;rw[qo8 (by rw[qqI];exact (qoX.1 hk).1),qoY (Ne.symm hkb),hk]
theorem js.append0 {D:Nat->Option TI}{T:List (Option Nat)}{ty e:Nat}{i j:TI}{sz2:Nat}{tok:Tok}(h:js b sz en H v l)(hi:D ty=some i)(hd:i.d=.sl e)(hj:D e=some j)(hne:l≠[]) :
 zu D ⟨H,T⟩ ty ty v (.sl sz2 [] tok)=some (v,⟨H,T⟩):=by
 rcases h with ⟨rfl,rfl⟩|⟨hne,rfl,hb⟩
 . exact absurd rfl hne
 . simp only[zu,ji,hi,hd,hj,qR,Ww];split<;>simp_all
theorem js.frzNo (h:js b sz en H v l)(hl:∀ x,(en x).length=sz)(hn:∀ x,qp (en x)=true)(ha:∀ x,(en x).all AV.atom=true)(n:Nat):qC (Abs.frz H (n+1) v)=true:=by
 rcases h with ⟨rfl,rfl⟩|⟨hne,rfl,hb⟩
 . rw[qG (by simp)];simp
 . have hc:=chunk_flat hl l [];rw[qpB]at hc;have hall:((kw sz l.length (l.flatMap en)).map (·.map (Abs.frz H n))).all (·.all AV.atom)=true:=by
    rw[hc,vJ hn,qr0,qpa];intro x _;exact ha x
   unfold Abs.frz;simp only[qC,qpi,if_false,hb,qqm];rw[if_pos ⟨by rw[flat_len hl];omega,hall⟩,hc,vJ hn];simpa using zE hn l
theorem js.lt (h:js b sz en H v l)(hl:l≠[]):b<H.length:=by
 rcases h with ⟨h,_⟩|⟨_,_,h⟩
 . exact absurd h hl
 . exact (qoX.1 h).1
theorem js.keep {H':List Blk}(h:js b sz en H v l)(hk:∀ x,l≠[]->H[b]?=some x->H'[b]?=some x):js b sz en H' v l:=by
 rcases h with h|⟨h1,h2,h3⟩
 . exact .inl h
 . exact .inr ⟨h1,h2,hk _ h1 h3⟩
theorem js.at (h:js b sz en H v l)(hl:l≠[]):v=.ms b 0 l.length sz/\H[b]?=some (.cells (l.flatMap en)):=by
 rcases h with ⟨h,_⟩|⟨_,h1,h2⟩
 . exact absurd h hl
 . exact⟨h1,h2⟩
end
section
variable {α:Type}{b sz:Nat}{en:α->List AV}{H:List Blk}{v:AV}{l m:List α}
theorem js.appendK {P:Program}{G:Glo}{o:Opts}{D:Nat->Option TI}{T:List (Option Nat)}{ty e:Nat}{i j:TI}{tok:Tok}(h:js b sz en H v l)(hi:D ty=some i)(hd:i.d=.sl e)(hj:D e=some j)(hsz:j.size=sz)(h0:0<sz)(hz:j.zero.length=sz)(hbt:j.bytes<=256)
 (hl:∀ x,(en x).length=sz) (hlen:l.length+m.length<=549755813888) :
 ∃ v' b' H',(∀ ops dst ct env ks Q,kY P G o ops ((zu D ⟨H,T⟩ ty ty v (.sl sz (m.map en) tok)).map fun p=>[p]) (qN D ⟨H,T⟩ ty v (.sl sz (m.map en) tok)) dst ct env ks Q=kT P G o ops ct (upd env dst v') ⟨H',T⟩ ks Q) /\
  js b' sz en H' v' (l++m)/\(b'=b\/b'=H.length)/\(∀ (k:Nat) (x:Blk),H[k]?=some x->(l=[]\/k≠b)->H'[k]?=some x)/\H.length<=H'.length:=by
 by_cases hm:m=[]
 . subst hm;rw[qpB];by_cases hne:l=[]
   . rcases h with ⟨rfl,rfl⟩|⟨hne',_⟩
     . refine⟨.sl 0 [] .nil,b,H,fun ops dst ct env ks Q=>?_,.inl ⟨rfl,rfl⟩,.inl rfl,fun k x hk _=>hk,qo7 _⟩;subst hsz;have hX:zu D ⟨H,T⟩ ty ty (.sl 0 [] .nil) (.sl j.size [] tok)=none:=by
        simp[zu,ji,hi,hd,hj,qR,Ww]
       have hA:qN D ⟨H,T⟩ ty (.sl 0 [] .nil) (.sl j.size [] tok)=some (.sl 0 [] .nil,⟨H,T⟩):=by
        simp[qN,hi,hd,hj,zI,h0,hz,hbt]
       rw[qpv,hX,hA];simp
     . exact absurd hne hne'
   . refine⟨v,b,H,fun ops dst ct env ks Q=>?_,h,.inl rfl,fun k x hk _=>hk,qo7 _⟩;rw[qpv,h.append0 hi hd hj hne];simp
 . obtain⟨v',H',h1,h2,h3,h4⟩:=h.append (T:=T) (tok:=tok) hi hd hj hsz h0 hz hbt hl hlen hm;refine⟨v',H.length,H',fun ops dst ct env ks Q=>?_,h2,.inr rfl,h3,by omega⟩;rw[h1];simp
end
section
variable {A t:List Blk}{b k:Nat}{x y:Blk}
end
theorem wY {c:List AV}:∀ (new:List AV) (pre:List AV) (off:Nat),zp (pre++c) (pre.length+off) new=pre++zp c off new
 | new,pre,off=>by
  induction new generalizing c off with
  | nil=>rfl
  | cons v r ih=>
   rw[zp,zp,qpW _ _ (by omega),qpM,qq3];exact ih (off+1)
theorem we:∀ (new c t:List AV),c.length=new.length->zp (c++t) 0 new=new++t:=by
 have gen:∀ (new pre c t:List AV),c.length=new.length->zp (pre++(c++t)) pre.length new=pre++(new++t):=by
  intro new
  induction new with
  | nil=>intro pre c t h;have:c=[]:=qq1.1 h;subst this;simp[zp]
  | cons v r ih=>
   intro pre c t h
   cases c with
   | nil=>simp at h
   | cons x c=>
    have h':c.length=r.length:=(by simpa using h);have:=ih (pre++[v]) c t h';simp only[qps,qqU,qo3,qpu]at this;rw[zp];have e:(pre++(x::c++t)).set pre.length v=pre++v::(c++t):=(by simp);rw[e];exact this
 intro new c t h;simpa using gen new [] c t h
theorem vE {α:Type}{sz:Nat}{en:α->List AV}(hl:∀ x,(en x).length=sz):∀ (l:List α) (i:Nat) (v:α),i<l.length->zp (l.flatMap en) (i*sz) (en v)=(l.set i v).flatMap en
 | [],i,v,h=>by simp at h
 | a::r,0,v,_=>by
  rw[qpn,qqA,qrO,qpn];exact we _ _ _ (by rw[hl,hl])
 | a::r,i+1,v,h=>by
  have h':i<r.length:=by simpa using h
  rw[qpn,qrp,qpn,<- vE hl r i v h',qro,qqz];have:=wY (c:=r.flatMap en) (en v) (en a) (i*sz)
  rwa[hl]at this
section
variable {P:Program}{G:Glo}{o:Opts}{env:Env}{U:St}{ks:List Fr}{Q:Exit->Env->St->Prop}
theorem qJ.listR {α:Type}(l:List α)(J:List α->Env->St->Prop){c:Code}(h0:J [] env U)
 (hs:∀ d v r env U (R:Env->St->Prop),(∀ env U,J (d++[v]) env U->R env U)->l=d++v::r->l[d.length]?=some v->d.length<l.length->J d env U->kC P G o c env U (.loop R::ks) Q)
 (he:∀ env U,J l env U->kC P G o c env U (.loop (fun _ _=>False)::ks) Q) (hp:jN c=true:=by rfl):qJ P G o c env U ks Q :=
 qJ.list l J h0 (fun d v r env U h1 h2 h3 hJ=>hs d v r env U _ (fun _ _ h=>h) h1 h2 h3 hJ) he hp
end
section
variable {P:Program}{G:Glo}{o:Opts}{env:Env}{U:St}{ks:List Fr}{Q:Exit->Env->St->Prop}
theorem qat (hX:G.NoX){g:Operand}{pe gb:Nat}{cap:List AV}{x y:Code}(pre:St->Prop)(vals:List AV)(J:Nat->St->Prop)(hg:ev G env g=.fn gb [] cap)(hfw:FwOk P G gb cap pre vals)(hpre:∀ i U,J i U->pre U)(hJ:J 0 U)
 (hs:∀ i v U,vals[i]?=some v->J i U->kC P G o x (upd env (some pe) v) U [] (fun e env' U'=>e=.normal/\kC P G o y env' U' [] (fun e _ U''=>e=.normal/\J (i+1) U'')))
 (he:∀ U,J vals.length U->kX P G o .normal env U ks Q):kC P G o (.rangeFunc g #[pe] x y) env U ks Q:=by
 unfold kC;simp only[vcC,hg];exact⟨pre,vals,J,hX,hfw,hpre,hJ,hs,he⟩
end
theorem qhL {H:List Blk}{b off n:Nat}{c:List AV}(h:H[b]?=some (.cells c)):frz H (n+1) (.ptr b off)=.rptr ((c.drop off).map (frz H n)):=by
 rw[frz];simp[qC,h]
theorem qhK {H:List Blk}{n:Nat}{s:List UInt8}:frz H n (.str s)=.str s:=qG rfl
theorem Qi {H:List Blk}{n:Nat}{k:IntKind}{z:Int}:frz H n (.int k z)=.int k z:=qG rfl
theorem ki {H:List Blk}{n:Nat}{z:Bool}:frz H n (.bool z)=.bool z:=qG rfl
section
variable {P:Program}{G:Glo}{o:Opts}{ops:Array Oper}{ac dp:List Nat}{env:Env}{U:St}{ks:List Fr}{Q:Exit->Env->St->Prop}
def kAl (P:Program)(G:Glo)(o:Opts)(ops:Array Oper)(ac:List Nat)(al:Alts)(env:Env)(U:St)(ks:List Fr)(Q:Exit->Env->St->Prop):Prop:=kc P G o.mu ac ops al env U (fun env U=>itp P G o ks Q .normal env U)
@[simp ↓]theorem kT_fork {al:Alts}:kT P G o ops (.plan ac (.fork al)) env U ks Q=kAl P G o ops ac al env U ks Q:=by simp only[kT,vcS,kAl]
@[simp ↓]theorem kAl_nil:kAl P G o ops ac .nil env U ks Q=True:=by simp only[kAl,kc]
@[simp ↓]theorem kAl_cons {k:Nat}{s:Sch}{r:Alts}:kAl P G o ops ac (.cons k s r) env U ks Q=(kP P G o ops (ops[k]?) (match ops[k]? with | some u=>qP o.mu ac k u.op != 9 | none=>false) (.plan ac s) env U ks Q/\kAl P G o ops ac r env U ks Q):=by
 simp only[kAl,kc,kP,kT];congr 1;split<;>rename_i h<;>simp[h]
end
end
section
section
variable {α:Type}{sz t:Nat}{en:α->List AV}{T:List (Option Nat)}{a s m:List α}
end
section
variable {P:Program}{G:Glo}{o:Opts}{env:Env}{U:St}{ks:List Fr}{Q:Exit->Env->St->Prop}
end
end
section
section
variable {P:Program}{G:Glo}{U:St}{f:FuncId}{args args':List AV}{Q:AV->St->Prop}
theorem qg.leq (h:qg P G f args' U Q)(ha:zn args args'):qg P G f args U Q :=
 ⟨h.1,fun w0 ro0 K w vs hw hvs=>h.2 w0 ro0 K w vs hw (zn.rel _ _ ha hvs)⟩
end
end
section
section
variable {P:Program}{G:Glo}{o:Opts}{ops:Array Oper}{ct:Ct}{env:Env}{U:St}{ks:List Fr}{Q:Exit->Env->St->Prop}
end
end
section
def Kq {α:Type}(n sz:Nat)(en:α->List AV)(T:List (Option Nat))(v:AV)(l:List α):Prop :=
 (l=[]/\v=.sl 0 [] .nil)\/(l≠[]/\∃ t,n<=t/\v=.sl sz (l.map en) (.chain t l.length)/\T[t]?=some (some l.length))
section
variable {α:Type}{n sz:Nat}{en:α->List AV}{T T':List (Option Nat)}{v:AV}{l m:List α}
theorem Kq.nil:Kq n sz en T (.sl 0 [] .nil) ([]:List α):=.inl ⟨rfl,rfl⟩
theorem Kq.ext (h:Kq n sz en T v l)(hT:T <+: T'):Kq n sz en T' v l:=by
 rcases h with h|⟨h1,t,h2,h3,h4⟩
 . exact .inl h
 . obtain⟨u,rfl⟩:=hT;exact .inr ⟨h1,t,h2,h3,by rw[qo8 (qoX.1 h4).1,h4]⟩
theorem qeK {T0 T:List (Option Nat)}(h:T0 <+: T){t:Nat}(ht:T0.length<=t)(x:Option Nat):T0 <+: T.set t x:=by
 obtain⟨u,rfl⟩:=h;rw[qpW _ _ ht];exact⟨_,rfl⟩
theorem Kq.append {T0:List (Option Nat)}{D:Nat->Option TI}{ty e:Nat}{i j:TI}{tok:Tok}(h:Kq T0.length sz en T v l)(hT:T0 <+: T)(hi:D ty=some i)(hd:i.d=.sl e)(hj:D e=some j)(hsz:j.size=sz)(h0:0<sz)(hz:j.zero.length=sz)(hb:j.bytes<=256)
 (hlen:l.length+m.length<=549755813888) (sz2:Nat) (h2:sz2=sz\/m=[]) :
 ∃ v' T',(∀ H,qN D ⟨H,T⟩ ty v (.sl sz2 (m.map en) tok)=some (v',⟨H,T'⟩))/\Kq T0.length sz en T' v' (l++m)/\T0 <+: T':=by
 subst hsz;by_cases hm:m=[]
 . subst hm;rw[qpB];refine⟨v,T,fun H=>?_,h,hT⟩;rcases h with ⟨rfl,rfl⟩|⟨hne,t,_,rfl,_⟩
   . simp[qN,hi,hd,hj,h0,hz,hb,zI]
   . have:l.length<=549755813888:=by simpa using hlen
     simp[qN,hi,hd,hj,h0,hz,hb,zI,this]
 . have h2:sz2=j.size:=h2.resolve_right hm;subst h2;have hml:m.length≠0:=fun h=>hm (qq1.1 h)
   rcases h with ⟨rfl,rfl⟩|⟨hne,t,ht,rfl,hk⟩
   . have:m.length<=549755813888:=by simpa using hlen
     refine⟨.sl j.size (m.map en) (.chain T.length m.length),T++[some m.length],fun H=>?_,.inr ⟨by simpa using hm,T.length,?_,by simp,by simp⟩,hT.trans (qrL _ _)⟩
     . simp[qN,hi,hd,hj,h0,hz,hb,zI,this,hm]
     . obtain⟨u,rfl⟩:=hT;simp
   . refine⟨.sl j.size ((l++m).map en) (.chain t (l.length+m.length)),T.set t (some (l.length+m.length)),fun H=>?_,.inr ⟨by simp[hne],t,ht,by simp,?_⟩,qeK hT ht _⟩
     . simp[qN,hi,hd,hj,h0,hz,hb,zI,hlen,hm,hk]
     . rw[qo2 (qoX.1 hk).1];simp
end
section
variable {P:Program}{G:Glo}{f:FuncId}{args:List AV}{U:St}{Q:AV->St->Prop}
theorem qg.up (h:qg P G f args U (fun r τ=>∃ w,Leq r w/\Q w τ)):qg P G f args U Q :=
 ⟨h.1,fun w0 ro0 K w vs hw hvs=>(h.2 w0 ro0 K w vs hw hvs).mono fun e w' h=>h.imp (fun ⟨v',v,U',K',h1,h2,h3,h4,u,h5,h6⟩=>⟨v',u,U',K',h1,h2,h3,Leq.rel _ _ h5 h4,h6⟩) id⟩
end
end
section
section
variable {P:Program}{G:Glo}{o:Opts}{ops:Array Oper}{ct:Ct}{env:Env}{U:St}{ks:List Fr}{Q:Exit->Env->St->Prop}{dst:Option Nat}
end
section
variable {es:List (AV×AV×Nat)}{H:List Blk}{T:List (Option Nat)}{it m clk:Nat}{seen:List Nat}
end
end
end Go.Abs
end
section
namespace Go.Proofs.YtcadpamddlofjaaGreatDoor
open Go Go.Abs
def qM (n:Int):Int:=n % 65536
theorem qD (n:Int):0<=qM n/\qM n<=65535:=by unfold qM;omega
theorem Ji {n:Int}(h0:0<=n)(h1:n<=65535):qM n=n:=by unfold qM;omega
def b2i (b:Bool):Int:=if b=true then 1 else 0
theorem Y0 (b:Bool):0<=b2i b/\b2i b<=65535:=by cases b<;>simp[b2i]
def j6 (env:List Signal)(name:Str):Option Int:=(env.find? fun s=>s.name==name).map fun s=>qM s.value
def atV (env:List Signal)(a:Str)(i:Int):Int:=if 0<=i/\i<8 then (j6 env (zZ a i.toNat)).getD 0 else 0
def qlQ (env:List Signal)(a:Str):Nat->Int
 | 0=>0
 | i+1=>qM (qlQ env a i+atV env a i)
def yZ (a:Nat):Nat->Nat
 | 0=>0
 | i+1=>yZ a i+(if a.testBit i=true then 1 else 0)
def unW (op a:Int):Int :=
 if op=4 then b2i (decide (a=0)) else if op=5 then 65535-qM a else if op=6 then qM (0-a) else (yZ (qM a).toNat 16:Int)
def yw (op a b:Int):Int :=
 if op=7 then qM (a+b) else if op=8 then qM (a-b) else if op=9 then qM (a*b)
 else if op=10 then ((a.toNat &&& b.toNat:Nat):Int) else if op=11 then ((a.toNat ||| b.toNat:Nat):Int) else if op=12 then ((a.toNat ^^^ b.toNat:Nat):Int)
 else if op=13 then (if 0<=b/\b<16 then qM (a*2 ^ b.toNat) else 0)
 else if op=14 then (if 0<=b/\b<16 then qM a / 2 ^ b.toNat else 0)
 else if op=15 then b2i (decide (a=b)) else if op=16 then b2i (!decide (a=b)) else if op=17 then b2i (decide (a<b)) else if op=18 then b2i (decide (a<=b))
 else if op=19 then b2i (!decide (a=0)&&!decide (b=0)) else if op=20 then b2i (!decide (a=0)||!decide (b=0))
 else b2i (decide (a=0)||!decide (b=0))
def jR (a:Int):List Int->Bool
 | x::y::r=>(decide (x<=a)&&decide (a<=y))||jR a r
 | _=>false
def opW (op:Int)(l:List Int):Int :=
 if op=22 then (if l.getD 0 0≠0 then l.getD 1 0 else l.getD 2 0)
 else if op=23 then b2i (jR (l.getD 0 0) l.tail)
 else match l with
  | []=>0
  | [a]=>unW op a
  | a::b::_=>yw op a b
def WK (env:List Signal)(op n:Int)(name:Str)(l:List Int):Int :=
 if op=1 then n else if op=2 then (j6 env name).getD 0 else if op=3 then atV env name (l.getD 0 0) else if op=24 then qlQ env name 8 else opW op l
mutual
def wR (env:List Signal):Ex->Int
 | .mk op n name args=>WK env op n name (qfY env args)
def qfY (env:List Signal):List Ex->List Int
 | []=>[]
 | e::r=>wR env e::qfY env r
end
@[simp]theorem qjl (env:List Signal):∀ l,qfY env l=l.map (wR env)
 | []=>by simp[qfY]
 | e::r=>by simp[qfY,qjl env r]
theorem wQ (env:List Signal)(e:Ex):wR env e=WK env e.op e.n e.name (e.args.map (wR env)):=by cases e;simp[wR]
def askV (env:List Signal)(e:Ex):Bool :=
 if e.op=2 then (j6 env e.name).isSome else if e.op=3\/e.op=24 then (j6 env (zZ e.name 0)).isSome else true
def kJ (env:List Signal)(e:Ex):Bool:=(pre e).all (askV env)
noncomputable def qhX (env:List Signal)(e:Ex):Int:=if zg e≠0 then 1 else if kJ env e=true then 0 else 7
noncomputable def vl (env:List Signal)(e:Ex):Int:=if zg e=0/\kJ env e=true then wR env e else 0
def yv (e:Ex):Prop:=∀ x∈pre e,qo x=0
theorem yv.self {e:Ex}(h:yv e):qo e=0:=h e (by rw[jk];simp)
theorem yv.arg {e a:Ex}(h:yv e)(ha:a∈e.args):yv a:=fun x hx=>h x (by rw[jk];exact qpI _ (vG.2 ⟨a,ha,hx⟩))
theorem ZG {e:Ex}(h:zg e=0):yv e:=by
 unfold zg at h;split at h
 . cases h
 . exact zF.1 h
theorem jh {e:Ex}(h:qo e=0):1<=e.op/\e.op<=25/\(e.op=1->0<=e.n/\e.n<=65535)/\(e.op≠1->e.n=0)/\qi e=true/\(e.op=2->kr e.name=true)/\(e.op=3\/e.op=24->zV e.name=true)/\(¬ (e.op=2\/e.op=3\/e.op=24)->e.name=[]):=by
 unfold qo at h;split at h
 . cases h
 rename_i h1;split at h
 . cases h
 rename_i h2;split at h
 . cases h
 rename_i h3;split at h
 . cases h
 rename_i h4;refine⟨by omega,by omega,fun h=>?_,fun h=>?_,?_,fun h=>?_,fun h=>?_,fun h=>?_⟩
 . apply Classical.byContradiction;intro hn;exact h2 (.inl ⟨h,by omega⟩)
 . apply Classical.byContradiction;intro hn;exact h2 (.inr ⟨h,hn⟩)
 . cases ho:qi e with
   | true=>rfl
   | false=>exact absurd (.inr ho) h3
 . cases ho:kr e.name with
   | true=>rfl
   | false=>exact absurd (.inl ⟨h,ho⟩) h4
 . cases ho:zV e.name with
   | true=>rfl
   | false=>exact absurd (.inr ⟨h,ho⟩) h4
 . apply Classical.byContradiction;intro hn;exact h3 (.inl ⟨h,hn⟩)
theorem wj {e:Ex}(h:qi e=true)(h23:e.op≠23):(e.args.length:Int)=zs e.op:=by
 unfold qi at h;rw[if_neg h23]at h;simpa using h
theorem Ya {e:Ex}(h:qi e=true)(h23:e.op=23):e.args.length % 2=1/\3<=e.args.length/\e.args.length<=33:=by
 unfold qi at h;rw[if_pos h23]at h;simpa using h
theorem Jo (a:Nat):∀ i,yZ a i<=i
 | 0=>qo7 _
 | i+1=>by
  have:=Jo a i;simp only[yZ];split<;>omega
theorem YC {env:List Signal}{name:Str}{v:Int}(h:j6 env name=some v):0<=v/\v<=65535:=by
 unfold j6 at h;obtain⟨s,_,rfl⟩:=qo4.1 h;exact qD _
theorem Zo {o:Option Int}(h:∀ v,o=some v->0<=v/\v<=65535):0<=o.getD 0/\o.getD 0<=65535:=by
 cases o with
 | none=>simp
 | some v=>exact h v rfl
theorem qiB (env:List Signal)(a:Str)(i:Int):0<=atV env a i/\atV env a i<=65535:=by
 unfold atV;split
 . exact Zo fun v h=>YC h
 . omega
theorem qeB (env:List Signal)(a:Str):∀ i,0<=qlQ env a i/\qlQ env a i<=65535
 | 0=>by simp[qlQ]
 | i+1=>qD _
theorem qf6 (op a:Int):0<=unW op a/\unW op a<=65535:=by
 unfold unW;split
 . exact Y0 _
 split
 . have:=qD a;omega
 split
 . exact qD _
 . have:=Jo (qM a).toNat 16;omega
theorem VU {a:Int}(n:Nat)(h0:0<=a)(h1:a<=65535):0<=a / 2 ^ n/\a / 2 ^ n<=65535:=by
 have hp:(0:Int)<2 ^ n:=qr9 (by omega);refine⟨Int.ediv_nonneg h0 (by omega),?_⟩;have:=Int.ediv_le_self (2 ^ n) h0;omega
def InW (n:Int):Prop:=0<=n/\n<=65535
theorem InW.ite {c:Prop}[Decidable c]{a b:Int}(ha:InW a)(hb:InW b):InW (if c then a else b):=by
 split
 . exact ha
 . exact hb
theorem qft (op:Int){a b:Int}(ha0:0<=a)(ha1:a<=65535)(hb0:0<=b)(hb1:b<=65535):0<=yw op a b/\yw op a b<=65535:=by
 obtain⟨x,rfl⟩:=qpC ha0;obtain⟨y,rfl⟩:=qpC hb0;have hx:x<2 ^ 16:=by omega
 have hy:y<2 ^ 16:=by omega
 have o1:=Nat.and_lt_two_pow (n:=16) x hy;have o2:=Nat.or_lt_two_pow (n:=16) hx hy;have o3:=Nat.xor_lt_two_pow (n:=16) hx hy;show InW (yw op x y);unfold yw;simp only[qpQ]
 repeat' apply InW.ite
 all_goals first | exact qD _ | exact Y0 _ | exact VU _ (qD _).1 (qD _).2 | (unfold InW;omega)
theorem qet (env:List Signal):∀ e,yv e->0<=wR env e/\wR env e<=65535:=by
 refine Ex.ind fun e ih hn=>?_
 have hm:∀ x∈e.args.map (wR env),0<=x/\x<=65535:=by
  intro x hx;obtain⟨a,ha,rfl⟩:=qpx.1 hx;exact ih a ha (hn.arg ha)
 have hg:∀ i,0<=(e.args.map (wR env)).getD i 0/\(e.args.map (wR env)).getD i 0<=65535:=by
  intro i;rw[qpg];exact Zo fun v h=>hm v (qoZ h)
 obtain⟨h1,h2,h3,_⟩:=jh hn.self;rw[wQ];unfold WK;split
 . rename_i h;exact h3 h
 split
 . exact Zo fun v h=>YC h
 split
 . exact qiB _ _ _
 split
 . exact qeB _ _ _
 unfold opW;split
 . split
   . exact hg 1
   . exact hg 2
 split
 . exact Y0 _
 split
 . omega
 . exact qf6 _ _
 . rename_i a b r hl;rw[hl]at hm;exact qft _ (hm a (by simp)).1 (hm a (by simp)).2 (hm b (by simp)).1 (hm b (by simp)).2
def Qq (l:List Var)(a:List Int):List Signal:=if a.length=l.length then (l.zip a).map fun q=>⟨q.1.name,q.2⟩ else []
def vw (q:Var×Int):Bool:=decide (0<=q.2)&&decide (q.2<2 ^ q.1.width.toNat)&&(!decide (q.1.mode=0)||decide (q.2=q.1.value))
def z7 (l:List Var)(a:List Int):Bool:=decide (a.length=l.length)&&(l.zip a).all vw
def z4 (v:Var):Nat:=2 ^ v.width.toNat
def qT:List Var->List Int->List Int×Bool
 | v::vs,x::xs=>
  if (qT vs xs).2=false then (x::(qT vs xs).1,false)
  else if v.mode=0 then (x::(qT vs xs).1,true)
  else if x+1<(z4 v:Nat) then ((x+1)::(qT vs xs).1,false)
  else (0::(qT vs xs).1,true)
 | _,_=>([],true)
def qX (vs:List Var):List Int:=vs.map fun v=>if v.mode=0 then v.value else 0
def ZZ:List Var->List (List Int)
 | []=>[[]]
 | v::vs=>if v.mode=0 then (ZZ vs).map (v.value::·) else (List.range (z4 v)).flatMap fun n:Nat=>(ZZ vs).map ((n:Int)::·)
def QR:List Var->List Int->List (List Int)
 | v::vs,x::xs=>if v.mode=0 then (QR vs xs).map (x::·) else (QR vs xs).map (x::·)++(List.range' (x.toNat+1) (z4 v-1-x.toNat)).flatMap fun n:Nat=>(ZZ vs).map ((n:Int)::·)
 | _,_=>[[]]
theorem qcF {v:Var}{vs:List Var}(h:v.mode=0):ZZ (v::vs)=(ZZ vs).map (v.value::·):=by rw[ZZ,if_pos h]
theorem qcG {v:Var}{vs:List Var}(h:¬ v.mode=0):ZZ (v::vs)=(List.range (z4 v)).flatMap fun n:Nat=>(ZZ vs).map ((n:Int)::·):=by rw[ZZ,if_neg h]
theorem Jr {v:Var}{vs:List Var}{x:Int}{xs:List Int}(h:v.mode=0):QR (v::vs) (x::xs)=(QR vs xs).map (x::·):=by rw[QR,if_pos h]
theorem vK {v:Var}{vs:List Var}{x:Int}{xs:List Int}(h:¬ v.mode=0):QR (v::vs) (x::xs)=(QR vs xs).map (x::·)++(List.range' (x.toNat+1) (z4 v-1-x.toNat)).flatMap fun n:Nat=>(ZZ vs).map ((n:Int)::·):=by rw[QR,if_neg h]
def okA:List Var->List Int->Prop
 | [],[]=>True
 | v::vs,x::xs=>(if v.mode=0 then x=v.value else 0<=x/\x<(z4 v:Nat))/\okA vs xs
 | _,_=>False
theorem JN (v:Var):0<z4 v:=qqV _
theorem okA.len:∀ {vs:List Var} {a:List Int},okA vs a->a.length=vs.length
 | [],[],_=>rfl
 | _::vs,_::xs,h=>by simp[okA.len h.2]
 | [],_::_,h=>h.elim
 | _::_,[],h=>h.elim
theorem Yb:∀ (vs:List Var),okA vs (qX vs)
 | []=>trivial
 | v::vs=>by
  have:=JN v;show okA (v::vs) ((if v.mode=0 then v.value else 0)::qX vs);refine⟨?_,Yb vs⟩;by_cases h:v.mode=0
  . rw[if_pos h,if_pos h]
  . rw[if_neg h,if_neg h];omega
theorem WH:∀ {vs:List Var} {a:List Int},okA vs a->okA vs (qT vs a).1
 | [],[],_=>trivial
 | v::vs,x::xs,h=>by
  have h1:=WH h.2;have h2:=h.1;have:=JN v;unfold qT;split
  . exact⟨h2,h1⟩
  . split
    . exact⟨h2,h1⟩
    . rename_i hm;rw[if_neg hm]at h2;split
      . refine⟨?_,h1⟩;rw[if_neg hm];omega
      . refine⟨?_,h1⟩;rw[if_neg hm];omega
 | [],_::_,h=>h.elim
 | _::_,[],h=>h.elim
theorem VP:∀ {vs:List Var} {a:List Int},okA vs a->(qT vs a).2=true->(qT vs a).1=qX vs
 | [],[],_,_=>rfl
 | v::vs,x::xs,h,ho=>by
  have h2:=h.1;unfold qT at ho ⊢;by_cases h1:(qT vs xs).2=false
  . rw[if_pos h1]at ho;cases ho
  . have h1':(qT vs xs).2=true:=(by simpa using h1);have ih:=VP h.2 h1';rw[if_neg h1]at ho ⊢;show _=(if v.mode=0 then v.value else 0)::qX vs;by_cases hm:v.mode=0
    . rw[if_pos hm]at h2 ⊢;rw[if_pos hm,ih,h2]
    . rw[if_neg hm]at ho ⊢;rw[if_neg hm];by_cases hx:x+1<(z4 v:Nat)
      . rw[if_pos hx]at ho;cases ho
      . rw[if_neg hx,ih]
 | [],_::_,h,_=>h.elim
 | _::_,[],h,_=>h.elim
theorem qeI {n:Nat}(h:0<n):List.range n=0::List.range' 1 (n-1):=by
 cases n with
 | zero=>omega
 | succ n=>rw[qqJ,qqQ];simp
theorem kR:∀ (vs:List Var),QR vs (qX vs)=ZZ vs
 | []=>rfl
 | v::vs=>by
  show QR (v::vs) ((if v.mode=0 then v.value else 0)::qX vs)=_;by_cases h:v.mode=0
  . rw[if_pos h,Jr h,qcF h,kR vs]
  . rw[if_neg h,vK h,qcG h,kR vs,qeI (JN v),qpn];rfl
theorem Yt:∀ {vs:List Var} {a:List Int},okA vs a->QR vs a=a::if (qT vs a).2=true then [] else QR vs (qT vs a).1
 | [],[],_=>rfl
 | v::vs,x::xs,h=>by
  have ih:=Yt h.2;have h2:=h.1;by_cases h1:(qT vs xs).2=false
  . have e:qT (v::vs) (x::xs)=(x::(qT vs xs).1,false):=(by rw[qT,if_pos h1]);rw[h1,if_neg (by simp)]at ih;rw[e,if_neg (by simp)];by_cases hm:v.mode=0
    . rw[Jr hm,Jr hm,ih];rfl
    . rw[vK hm,vK hm,ih];rfl
  . have h1':(qT vs xs).2=true:=(by simpa using h1);rw[h1',if_pos rfl]at ih;by_cases hm:v.mode=0
    . have e:qT (v::vs) (x::xs)=(x::(qT vs xs).1,true):=(by rw[qT,if_neg h1,if_pos hm]);rw[e,if_pos rfl,Jr hm,ih];rfl
    . rw[if_neg hm]at h2;by_cases hx:x+1<(z4 v:Nat)
      . have e:qT (v::vs) (x::xs)=((x+1)::(qT vs xs).1,false):=(by rw[qT,if_neg h1,if_neg hm,if_pos hx]);have e1:(x+1).toNat=x.toNat+1:=(by omega);have e2:z4 v-1-x.toNat=(z4 v-1-(x.toNat+1))+1:=(by omega);have e3:((x.toNat+1:Nat):Int)=x+1:=(by omega);rw[e,if_neg (by simp),vK hm,ih,vK hm,VP h.2 h1',kR,e1,e2,qqQ,qpn,e3];rfl
      . have e:qT (v::vs) (x::xs)=(0::(qT vs xs).1,true):=(by rw[qT,if_neg h1,if_neg hm,if_neg hx]);have e2:z4 v-1-x.toNat=0:=(by omega);rw[e,if_pos rfl,vK hm,ih,e2];rfl
 | [],_::_,h=>h.elim
 | _::_,[],h=>h.elim
theorem qcE:∀ (vs:List Var),(ZZ vs).length=2 ^ ((vs.map fun v=>if v.mode=0 then 0 else v.width.toNat).sum)
 | []=>rfl
 | v::vs=>by
  by_cases h:v.mode=0
  . rw[qcF h,qpK,qcE vs];simp[h]
  . rw[qcG h];have:∀ (l:List Nat),(l.flatMap fun n:Nat=>(ZZ vs).map ((n:Int)::·)).length=l.length*(ZZ vs).length:=by
     intro l
     induction l with
     | nil=>simp
     | cons a r ih=>rw[qpn,qo3,ih,qpK,qpd,qro,qqz]
    rw[this,qrS,qcE vs];simp only[qo9,if_neg h,qre,Nat.pow_add,z4]
theorem Y3:∀ {vs:List Var} {a:List Int},a∈ZZ vs↔okA vs a
 | [],a=>by
  cases a with
  | nil=>simp[ZZ,okA]
  | cons x xs=>simp[ZZ,okA]
 | v::vs,a=>by
  by_cases h:v.mode=0
  . rw[qcF h,qpx];constructor
    . rintro⟨b,hb,rfl⟩;exact⟨by rw[if_pos h],Y3.1 hb⟩
    . intro hk
      cases a with
      | nil=>exact hk.elim
      | cons x xs=>
       have h1:=hk.1;rw[if_pos h]at h1;exact⟨xs,Y3.2 hk.2,by rw[h1]⟩
  . rw[qcG h,List.mem_flatMap];constructor
    . rintro⟨n,hn,hb'⟩;obtain⟨b,hb,rfl⟩:=qpx.1 hb';have:=qp0.1 hn;exact⟨by rw[if_neg h];omega,Y3.1 hb⟩
    . intro hk
      cases a with
      | nil=>exact hk.elim
      | cons x xs=>
       have h1:=hk.1;rw[if_neg h]at h1;refine⟨x.toNat,qp0.2 (by omega),qpx.2 ⟨xs,Y3.2 hk.2,?_⟩⟩;rw[Int.toNat_of_nonneg h1.1]
noncomputable def ZK (vs:List Var)(l:List Ex)(a:List Int):Bool:=l.all fun e=>decide (vl (Qq vs a) e≠0)
noncomputable def qbo (vs:List Var)(l:List Ex):Nat->List Int->Option (List Int)×Bool
 | 0,_=>(none,false)
 | k+1,a=>if ZK vs l a then (some a,(qT vs a).2) else if (qT vs a).2 then (none,true) else qbo vs l k (qT vs a).1
theorem qdK {vs:List Var}{l:List Ex}:∀ (k:Nat) {a:List Int},okA vs a->(QR vs a).length<=k->(qbo vs l k a).1=(QR vs a).find? (ZK vs l)/\((qbo vs l k a).1=none->(qbo vs l k a).2=true)
 | 0,a,h,hk=>by rw[Yt h]at hk;simp at hk
 | k+1,a,h,hk=>by
  rw[Yt h]at hk ⊢;unfold qbo;rw[qrm];by_cases hs:ZK vs l a=true
  . rw[if_pos hs,hs];exact⟨rfl,fun e=>by cases e⟩
  . rw[if_neg hs];have hs':ZK vs l a=false:=(by simpa using hs);rw[hs'];by_cases ho:(qT vs a).2=true
    . rw[if_pos ho,if_pos ho];exact⟨rfl,fun _=>rfl⟩
    . rw[if_neg ho,if_neg ho];rw[if_neg ho]at hk;exact qdK k (WH h) (by simp at hk;omega)
noncomputable def yM (vs:List Var)(l:List Ex):Bool:=(ZZ vs).any (ZK vs l)
theorem qkL {vs:List Var}{l:List Ex}{k:Nat}(hk:(ZZ vs).length<=k):((qbo vs l k (qX vs)).1.isSome=yM vs l)/\((qbo vs l k (qX vs)).1=none->(qbo vs l k (qX vs)).2=true):=by
 have:=qdK (l:=l) k (Yb vs) (by rw[kR];exact hk);rw[kR]at this;refine⟨?_,this.2⟩;rw[this.1,yM];generalize ZZ vs=L
 induction L with
 | nil=>rfl
 | cons a r ih=>rw[qrm,qrd];cases ZK vs l a<;>simp[ih]
def jU:Ex->Nat->Bool
 | _,0=>false
 | e,k+1=>decide (e.args.length<=40)&&e.args.all fun a=>jU a k
theorem qhD {n:Nat}:∀ {l:List Ex},(∀ a∈l,hgt a<=n)->ZP l<=n
 | [],_=>by simp
 | a::r,h=>by
  have h1:=h a (by simp);have h2:=qhD (l:=r) fun x hx=>h x (by simp[hx])
  simp;omega
theorem VV:∀ {k:Nat} {e:Ex},jU e k=true->hgt e<=k
 | 0,e,h=>by simp[jU]at h
 | k+1,e,h=>by
  simp only[jU,qo0,qpa]at h;have:=qhD (l:=e.args) fun a ha=>VV (h.2 a ha)
  rw[wE];omega
def KU:Nat->Nat
 | 0=>0
 | k+1=>1+40*KU k
theorem qgC {n:Nat}:∀ {l:List Ex},(∀ a∈l,(pre a).length<=n)->(wC l).length<=l.length*n
 | [],_=>by simp
 | a::r,h=>by
  have h1:=h a (by simp);have h2:=qgC (l:=r) fun x hx=>h x (by simp[hx])
  simp only[yi,qo3,qpd,qpO,qr8];omega
theorem JO:∀ {k:Nat} {e:Ex},jU e k=true->(pre e).length<=KU k
 | 0,e,h=>by simp[jU]at h
 | k+1,e,h=>by
  simp only[jU,qo0,qpa,decide_eq_true_eq]at h;have h1:=qgC (l:=e.args) fun a ha=>JO (h.2 a ha)
  have h2:e.args.length*KU k<=40*KU k:=qp3 _ h.1;rw[jk];simp only[qpd,KU];omega
theorem qlU {e:Ex}(h:jU e 8=true):hgt e<=8/\(pre e).length<=200000000000:=by
 have h1:=JO h;have h2:KU 8=168041025641:=by decide
 exact⟨VV h,by omega⟩
def okN (w:Int)(l:List Int)(n:Int):Bool:=decide (0<=n)&&decide (n<2 ^ w.toNat)&&!(l.any (n == ·))
def okL (w:Int)(l:List Int):Bool:=(List.range l.length).all fun k=>okN w (l.take k) (l.getD k 0)
def okV (v:Var)(l:List Int):Bool:=(v.mode==2||l.isEmpty)&&okL v.width l
def qaS (vs:List Var)(c:List (List Int)):Bool:=decide (c.length=vs.length)&&(vs.zip c).all fun x=>okV x.1 x.2
def Qm (l:List Var)(a:List Int):List Signal:=(l.zip a).map fun q=>⟨q.1.name,q.2⟩
theorem qcq (l:List Var)(a:List Int):Qq l a=if a.length=l.length then Qm l a else []:=rfl
theorem QX {l:List Var}{a:List Int}{i:Nat}{v:Var}{x:Int}(h:l[i]?=some v)(h':a[i]?=some x):(Qm l a)[i]?=some ⟨v.name,x⟩:=by
 unfold Qm;rw[qpj,(qqi (z:=(v,x))).2 ⟨h,h'⟩];rfl
theorem kl {l:List Var}{a:List Int}(h:a.length=l.length):(Qm l a).length=l.length:=by simp[Qm,h]
end Go.Proofs.YtcadpamddlofjaaGreatDoor
end
