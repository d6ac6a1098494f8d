/- A part of the proof. -/
import Derived.Test.YtcadpamddlofjaaGreatDoorPa07
import Derived.KernelRfl
set_option linter.unusedVariables false
set_option linter.unusedSimpArgs false
set_option maxRecDepth 100000
set_option linter.defProp false
section
namespace Go.Abs
open Go Go.RowKit
section
def ye {β:Type}(n:Nat)(k:Nat->β):β:=Nat.rec (k 0) (fun p _=>k (Nat.succ p)) n
theorem Yv {β:Type}(n:Nat)(k:Nat->β):ye n k=k n:=by cases n<;>rfl
def W0 {β:Type}(n:Int)(k:Int->β):β:=match n with
 | .ofNat m=>ye m fun m=>k (.ofNat m)
 | .negSucc m=>ye m fun m=>k (.negSucc m)
theorem qcd {β:Type}(n:Int)(k:Int->β):W0 n k=k n:=by cases n<;>simp[W0,Yv]
def qaK {β:Type}(b:Bool)(k:Bool->β):β:=match b with
 | true=>k true
 | false=>k false
theorem qaJ {β:Type}(b:Bool)(k:Bool->β):qaK b k=k b:=by cases b<;>rfl
def yk {α β:Type}:List α->(List α->β)->β
 | [],k=>k []
 | a::r,k=>yk r fun r=>k (a::r)
theorem ve {α β:Type}:∀ (l:List α) (k:List α->β),yk l k=k l
 | [],k=>rfl
 | a::r,k=>ve r fun r=>k (a::r)
def wn {β:Type}(v:AV)(k:AV->β):β:=match v with
 | .int kd n=>W0 n fun n=>k (.int kd n)
 | .bool b=>qaK b fun b=>k (.bool b)
 | .str s=>yk s fun s=>k (.str s)
 | .ptr b o=>ye b fun b=>ye o fun o=>k (.ptr b o)
 | .ms b o l s=>ye b fun b=>ye o fun o=>ye l fun l=>k (.ms b o l s)
 | .map b=>ye b fun b=>k (.map b)
 | .iter b=>ye b fun b=>k (.iter b)
 | .sl sz rows tok=>yk rows fun rows=>k (.sl sz rows tok)
 | .agg c=>yk c fun c=>k (.agg c)
 | .tup c=>yk c fun c=>k (.tup c)
 | .rptr c=>k (.rptr c)
 | .fn f a b=>k (.fn f a b)
 | v=>k v
theorem yF {β:Type}(v:AV)(k:AV->β):wn v k=k v:=by
 cases v<;>simp[wn,qcd,Yv,qaJ,ve]
def qcc {β:Type}(U:St)(k:St->β):β:=yk U.H fun H=>yk U.T fun T=>k ⟨H,T⟩
theorem qfa {β:Type}(U:St)(k:St->β):qcc U k=k U:=by simp[qcc,ve]
def yu {α β:Type}(l:List α)(f:α->Option (List β)):Option (List β):=match l with
 | []=>some []
 | [a]=>f a
 | a::r=>match f a,yu r f with
  | some x,some y=>some (x++y)
  | _,_=>none
theorem zG {α β:Type}{f:α->Option (List β)}:∀ {l:List α} {m:List β},yu l f=some m->∀ a∈l,∃ x,f a=some x/\∀ b∈x,b∈m
 | [],m,h,a,ha=>by simp at ha
 | [a],m,h,a',ha=>by simp at ha;subst ha;exact⟨m,h,fun b hb=>hb⟩
 | a::a2::r,m,h,a',ha=>by
  simp only[yu]at h;split at h
  . rename_i x y hx hy;simp only[Option.some.injEq]at h;subst h;rcases qpm.1 ha with rfl|ha
    . exact⟨x,hx,fun b hb=>qpH _ hb⟩
    . obtain⟨x',h1,h2⟩:=zG hy a' ha;exact⟨x',h1,fun b hb=>qp5 _ (h2 b hb)⟩
  . cases h
def WZ {β:Type}:List AV->(List AV->β)->β
 | [],k=>k []
 | a::r,k=>wn a fun a=>WZ r fun r=>k (a::r)
theorem Wa {β:Type}:∀ (l:List AV) (k:List AV->β),WZ l k=k l
 | [],k=>rfl
 | a::r,k=>by simp only[WZ,yF];exact Wa r _
abbrev qea:=Exit×Env×St
abbrev yB:=Bool->FuncId->List AV->St->Option (List (AV×St))
def semO (D:Nat->Option TI)(G:Nat->AV)(mu d:Bool)(env:Env)(U:St)(op:Op):Option (List (AV×St)) :=
 match Kg d (KB D G mu env U op) with
 | some l=>some l
 | none=>match sem D G env U op with
  | some p=>some [p]
  | none=>none
def Js (l:List (AV×St))(k:List (AV×St)->Option (List (AV×St))):Option (List (AV×St)):=match l with
 | [(v,U)]=>wn v fun v=>qcc U fun U=>k [(v,U)]
 | l=>k l
theorem Yu (l:List (AV×St))(k:List (AV×St)->Option (List (AV×St))):Js l k=k l:=by
 unfold Js;split<;>simp[yF,qfa]
def qgA:Op->Bool
 | .move _ | .assign _ | .pick .. | .load .. | .nilCheck _ | .binOp .. | .unOp .. | .convert .. | .slice .. | .fieldAddr .. | .field .. | .indexAddr .. | .index .. | .lookup .. | .extract .. | .build .. | .makeFunc .. =>true
 | _=>false
def qhQ (l:List (AV×St))(k:List (AV×St)->Option (List (AV×St))):Option (List (AV×St)):=match l with
 | [(v,U)]=>wn v fun v=>k [(v,U)]
 | l=>k l
theorem qhP (l:List (AV×St))(k:List (AV×St)->Option (List (AV×St))):qhQ l k=k l:=by
 unfold qhQ;split<;>simp[yF]
def qgq (D:Nat->Option TI)(G:Nat->AV)(call:yB)(mu d:Bool)(op:Op)(env:Env)(U:St):Option (List (AV×St)) :=
 match op with
 | .call { callee:=.value f,args:=args,argTypes:=_ }=>match ev G env f with
  | .fn g first cap=>WZ (jI first (Kh G env args.toList) cap) fun a=>call d g a U
  | _=>none
 | op=>match semO D G mu d env U op with
  | some l=>match qgA op with
   | true=>qhQ l fun l=>some l
   | false=>Js l fun l=>some l
  | none=>none
def runG (D:Nat->Option TI)(G:Nat->AV)(call:yB)(mu d:Bool)(ops:Array Oper)(o:Oper)(env:Env)(U:St):Option (List (AV×St)) :=
 match o.guard with
 | none=>qgq D G call mu d o.op env U
 | some (j,b)=>match (ops[j]?).bind (·.dst) with
  | some t=>match env t with
   | .bool c=>match c==b with
    | true=>qgq D G call mu d o.op env U
    | false=>some [(.tup [],U)]
   | .tup []=>some [(.tup [],U)]
   | _=>none
  | none=>some [(.tup [],U)]
def runR (D:Nat->Option TI)(G:Nat->AV)(call:yB)(mu:Bool)(ops:Array Oper)(d lw:Bool):List Oper->Env->St->Option (List (Env×St))
 | [],env,U=>some [(env,U)]
 | o::rest,env,U=>match runG D G call mu (d&&!(lw&&qkD rest&&WW o.op)) ops o env U with
  | some l=>yu l fun p=>runR D G call mu ops d lw rest (upd env o.dst p.1) p.2
  | none=>none
def qon:Tok->Tok->Bool
 | .none,b=>match b with | .none=>true | _=>false
 | .nil,b=>match b with | .nil=>true | _=>false
 | .tight,b=>match b with | .tight=>true | _=>false
 | .chain t k,b=>match b with | .chain t' k'=>Nat.beq t t' && Nat.beq k k' | _=>false
mutual
def eqV:AV->AV->Bool
 | .any,b=>match b with | .any=>true | _=>false
 | .bool a,b=>match b with | .bool b=>a==b | _=>false
 | .int k n,b=>match b with | .int k' n'=>decide (k=k')&&decide (n=n') | _=>false
 | .str a,b=>match b with | .str b=>decide (a=b) | _=>false
 | .nilp,b=>match b with | .nilp=>true | _=>false
 | .nilm,b=>match b with | .nilm=>true | _=>false
 | .nilf,b=>match b with | .nilf=>true | _=>false
 | .ptr x y,b=>match b with | .ptr x' y'=>Nat.beq x x' && Nat.beq y y' | _=>false
 | .ms x y z u,b=>match b with | .ms x' y' z' u'=>Nat.beq x x' && Nat.beq y y' && Nat.beq z z' && Nat.beq u u' | _=>false
 | .map x,b=>match b with | .map x'=>Nat.beq x x' | _=>false
 | .iter x,b=>match b with | .iter x'=>Nat.beq x x' | _=>false
 | .fn f x y,b=>match b with | .fn f' x' y'=>Nat.beq f f' && qcp x x' && qcp y y' | _=>false
 | .sl s r t,b=>match b with | .sl s' r' t'=>Nat.beq s s' && eqVR r r' && qon t t' | _=>false
 | .rptr c,b=>match b with | .rptr c'=>qcp c c' | _=>false
 | .agg c,b=>match b with | .agg c'=>qcp c c' | _=>false
 | .tup c,b=>match b with | .tup c'=>qcp c c' | _=>false
def qcp:List AV->List AV->Bool
 | [],l=>match l with | []=>true | _=>false
 | a::r,l=>match l with | b::s=>eqV a b&&qcp r s | _=>false
def eqVR:List (List AV)->List (List AV)->Bool
 | [],l=>match l with | []=>true | _=>false
 | a::r,l=>match l with | b::s=>qcp a b&&eqVR r s | _=>false
end
theorem qfd {a b:Tok}(h:qon a b=true):a=b:=by
 cases a<;>cases b<;>simp[qon]at h<;>first | rfl | (rw[h.1,h.2])
mutual
theorem Jy:∀ (a b:AV),eqV a b=true->a=b
 | .any,b,h=>by cases b<;>simp[eqV]at h;rfl
 | .bool _,b,h=>by cases b<;>simp[eqV]at h;rw[h]
 | .int ..,b,h=>by cases b<;>simp[eqV]at h;rw[h.1,h.2]
 | .str _,b,h=>by cases b<;>simp[eqV]at h;rw[h]
 | .nilp,b,h=>by cases b<;>simp[eqV]at h;rfl
 | .nilm,b,h=>by cases b<;>simp[eqV]at h;rfl
 | .nilf,b,h=>by cases b<;>simp[eqV]at h;rfl
 | .ptr ..,b,h=>by cases b<;>simp[eqV]at h;rw[h.1,h.2]
 | .ms ..,b,h=>by cases b<;>simp[eqV]at h;rw[h.1.1.1,h.1.1.2,h.1.2,h.2]
 | .map _,b,h=>by cases b<;>simp[eqV]at h;rw[h]
 | .iter _,b,h=>by cases b<;>simp[eqV]at h;rw[h]
 | .fn f x y,b,h=>by
  cases b<;>simp[eqV]at h;rw[h.1.1,j7 x _ h.1.2,j7 y _ h.2]
 | .sl s r t,b,h=>by
  cases b<;>simp[eqV]at h;rw[h.1.1,qaZ r _ h.1.2,qfd h.2]
 | .rptr c,b,h=>by cases b<;>simp[eqV]at h;rw[j7 c _ h]
 | .agg c,b,h=>by cases b<;>simp[eqV]at h;rw[j7 c _ h]
 | .tup c,b,h=>by cases b<;>simp[eqV]at h;rw[j7 c _ h]
theorem j7:∀ (a b:List AV),qcp a b=true->a=b
 | [],b,h=>by cases b<;>simp[qcp]at h;rfl
 | a::r,b,h=>by
  cases b<;>simp[qcp]at h;rw[Jy a _ h.1,j7 r _ h.2]
theorem qaZ:∀ (a b:List (List AV)),eqVR a b=true->a=b
 | [],b,h=>by cases b<;>simp[eqVR]at h;rfl
 | a::r,b,h=>by
  cases b<;>simp[eqVR]at h;rw[j7 a _ h.1,qaZ r _ h.2]
end
def eqEn:List (AV×AV×Nat)->List (AV×AV×Nat)->Bool
 | [],l=>match l with | []=>true | _=>false
 | (a,b,n)::r,l=>match l with | (a',b',n')::s=>eqV a a' && eqV b b' && Nat.beq n n' && eqEn r s | _=>false
theorem qa0:∀ {a b:List (AV×AV×Nat)},eqEn a b=true->a=b
 | [],b,h=>by cases b<;>simp[eqEn]at h;rfl
 | (x,y,n)::r,b,h=>by
  cases b with
  | nil=>simp[eqEn]at h
  | cons p s=>
   obtain⟨x',y',n'⟩:=p;simp[eqEn]at h;rw[Jy x _ h.1.1.1,Jy y _ h.1.1.2,h.1.2,qa0 h.2]
def qoo:Blk->Blk->Bool
 | .cells a,b=>match b with | .cells b=>qcp a b | _=>false
 | .map a m,b=>match b with | .map b n=>eqEn a b&&Nat.beq m n | _=>false
 | .dead,b=>match b with | .dead=>true | _=>false
 | .siter a m,b=>match b with | .siter a' m'=>decide (a=a')&&Nat.beq m m' | _=>false
 | .miter a x s l,b=>match b with | .miter a' x' s' l'=>decide (a=a')&&Nat.beq x x' && decide (s=s')&&Nat.beq l l' | _=>false
 | .raw m,b=>match b with | .raw n=>Nat.beq m n | _=>false
theorem qfe {a b:Blk}(h:qoo a b=true):a=b:=by
 cases a<;>cases b<;>simp[qoo]at h
 case cells.cells=>rw[j7 _ _ h]
 case map.map=>rw[qa0 h.1,h.2]
 case dead.dead=>rfl
 case siter.siter=>rw[h.1,h.2]
 case miter.miter=>rw[h.1.1.1,h.1.1.2,h.1.2,h.2]
 case raw.raw=>rw[h]
def qa2:List Blk->List Blk->Bool
 | [],l=>match l with | []=>true | _=>false
 | a::r,l=>match l with | b::s=>qoo a b&&qa2 r s | _=>false
theorem YJ:∀ {a b:List Blk},qa2 a b=true->a=b
 | [],b,h=>by cases b<;>simp[qa2]at h;rfl
 | a::r,b,h=>by
  cases b<;>simp[qa2]at h;rw[qfe h.1,YJ h.2]
def eqSt (a b:St):Bool:=qa2 a.H b.H&&decide (a.T=b.T)
theorem qhZ {a b:St}(h:eqSt a b=true):a=b:=by
 simp only[eqSt,qo0,decide_eq_true_eq]at h;cases a;cases b;simp only at h;rw[YJ h.1,h.2]
def qdZ (ops:Array Oper):List Nat:=ops.toList.filterMap (·.dst)
def eqDs (e f:Env):List Nat->Bool
 | []=>true
 | t::r=>eqV (e t) (f t)&&eqDs e f r
theorem qa1 {e f:Env}:∀ {l:List Nat},eqDs e f l=true->∀ t∈l,e t=f t
 | [],_,t,ht=>by simp at ht
 | a::r,h,t,ht=>by
  simp only[eqDs,qo0]at h;rcases qpm.1 ht with rfl|ht
  . exact Jy _ _ h.1
  . exact qa1 h.2 t ht
def qgo (ds:List Nat)(p q:Env×St):Bool:=eqDs p.1 q.1 ds&&eqSt p.2 q.2
def qiQ (ds:List Nat)(p:Env×St):List (Env×St)->Bool
 | []=>false
 | q::r=>match qgo ds p q with | true=>true | false=>qiQ ds p r
def vo (ds:List Nat):List (Env×St)->List (Env×St)
 | []=>[]
 | p::r=>match vo ds r with
  | r'=>match qiQ ds p r' with
   | true=>r'
   | false=>p::r'
theorem Wk {ds:List Nat}{p:Env×St}:∀ {l:List (Env×St)},qiQ ds p l=true->∃ q∈l,qgo ds p q=true
 | [],h=>by simp[qiQ]at h
 | q::r,h=>by
  simp only[qiQ]at h;split at h
  . rename_i hs;exact⟨q,qp2,hs⟩
  . obtain⟨x,hx,hy⟩:=Wk h;exact⟨x,qpI _ hx,hy⟩
theorem ZU {ds:List Nat}:∀ {l:List (Env×St)} {env:Env},(∀ p∈l,∀ t,t∉ds->p.1 t=env t)->∀ p∈l,p∈vo ds l
 | [],env,h,p,hp=>by simp at hp
 | q::r,env,h,p,hp=>by
  have ih:=ZU (l:=r) fun p hp=>h p (qpI _ hp)
  have hsub:∀ x∈vo ds r,x∈r:=by
   have:∀ l:List (Env×St),∀ x∈vo ds l,x∈l:=by
    intro l
    induction l with
    | nil=>intro x hx;simp[vo]at hx
    | cons a l ih2=>
     intro x hx;simp only[vo]at hx;split at hx
     . exact qpI _ (ih2 x hx)
     . rcases qpm.1 hx with rfl|hx
       . exact qp2
       . exact qpI _ (ih2 x hx)
   exact this r
  simp only[vo];split
  . rename_i ha;rcases qpm.1 hp with rfl|hp
    . obtain⟨x,hx,hs⟩:=Wk ha;simp only[qgo,qo0]at hs;have he:p=x:=by
       obtain⟨e,U⟩:=p;obtain⟨f,τ⟩:=x;simp only at hs;rw[qhZ hs.2];congr 1;funext t;by_cases ht:t∈ds
       . exact qa1 hs.1 t ht
       . have h1:=h (e,U) qp2 t ht;have h2:=h (f,τ) (qpI _ (hsub _ hx)) t ht;simp only at h1 h2;rw[h1,h2]
      rw[he];exact hx
    . exact ih p hp
  . rcases qpm.1 hp with rfl|hp
    . exact qp2
    . exact qpI _ (ih p hp)
mutual
def qgp (D:Nat->Option TI)(G:Nat->AV)(call:yB)(mu:Bool)(ac:List Nat)(ops:Array Oper):Sch->Env->St->Option (List (Env×St))
 | .done,env,U=>some [(env,U)]
 | .step k _ s,env,U=>match ops[k]? with
  | some o=>match runG D G call mu (qP mu ac k o.op != 9) ops o env U with
   | some l=>yu l fun p=>qgp D G call mu ac ops s (upd env o.dst p.1) p.2
   | none=>none
  | none=>none
 | .fork a,env,U=>Qf D G call mu ac ops a env U
def Qf (D:Nat->Option TI)(G:Nat->AV)(call:yB)(mu:Bool)(ac:List Nat)(ops:Array Oper):Alts->Env->St->Option (List (Env×St))
 | .nil,_,_=>some []
 | .cons k s r,env,U=>match ops[k]? with
  | some o=>match runG D G call mu (qP mu ac k o.op != 9) ops o env U with
   | some l=>match yu l fun p=>qgp D G call mu ac ops s (upd env o.dst p.1) p.2 with
    | some x=>match Qf D G call mu ac ops r env U with
     | some y=>some (x++y)
     | none=>none
    | none=>none
   | none=>none
  | none=>none
end
def nthA:List AV->Nat->AV
 | [],_=>.any
 | a::r,i=>match i with
  | 0=>a
  | i+1=>nthA r i
def Yw {β:Type}(env:Env)(n:Nat):List AV->(List AV->β)->β :=
 Nat.rec (fun acc k=>k acc) (fun i ih acc k=>wn (env i) fun v=>ih (v::acc) k) n
def qgL (n:Nat)(env:Env)(l:List AV):Env:=fun i=>match Nat.blt i n with
 | true=>nthA l i
 | false=>env i
theorem qgW:∀ (l:List AV) (i:Nat),nthA l i=l.getD i .any
 | [],i=>by simp[nthA]
 | a::r,0=>rfl
 | a::r,i+1=>by simp[nthA,qgW r i]
theorem qaI {β:Type}(env:Env)(k:List AV->β):∀ (n:Nat) (acc:List AV),Yw env n acc k=k ((List.range n).map env++acc)
 | 0,acc=>rfl
 | n+1,acc=>by
  have:Yw env (n+1) acc k=wn (env n) fun v=>Yw env n (v::acc) k:=rfl
  rw[this,yF,qaI env k n,qp8];simp
theorem qj8 {β:Type}(n:Nat)(env:Env)(k:Env->β):(Yw env n [] fun l=>k (qgL n env l))=k env:=by
 rw[qaI];congr 1;funext i;simp only[qgL,qpB];split
 . rename_i h;rw[Nat.blt_eq]at h;rw[qgW,qpg,qpj,qq0 h];rfl
 . rfl
def qak (nn:Nat)(body:Env->St->Option (List qea))(n:Nat):Env->St->Option (List qea) :=
 Nat.rec (fun _ _=>none) (fun _ ih env U=>match body env U with
  | some l=>yu l fun p=>match p.1 with
   | .normal=>Yw p.2.1 nn [] fun l=>ih (qgL nn p.2.1 l) p.2.2
   | _=>some [p]
  | none=>none) n
def JU (A B:Env->St->Option (List qea))(k b pi pe:Nat)(env:Env)(n:Nat):St->Option (List St) :=
 Nat.rec (fun U=>some [U]) (fun i ih U=>match U.H[b]? with
  | some (.cells [.sl sz rows _])=>match Nat.beq sz k,rows[i]? with
   | true,some r=>match A (upd (upd env (some pi) (.int .i64 (.ofNat i))) (some pe) (.agg r)) U with
    | some l=>yu l fun p=>match p.1 with
     | .normal=>match B p.2.1 p.2.2 with
      | some l2=>yu l2 fun p2=>match p2.1 with
       | .normal=>ih p2.2.2
       | _=>none
      | none=>none
     | _=>none
    | none=>none
   | _,_=>none
  | _=>none) n
def wM (D:Nat->Option TI)(G:Nat->AV)(call:yB)(m nn:Nat)(o:Opts):Code->Env->St->Option (List qea)
 | .skip,env,U=>some [(.normal,env,U)]
 | .ret,env,U=>some [(.ret,env,U)]
 | .exit id,env,U=>some [(.exit id,env,U)]
 | .seq x y,env,U=>match wM D G call m nn o x env U with
  | some l=>yu l fun p=>match p.1 with
   | .normal=>wM D G call m nn o y p.2.1 p.2.2
   | _=>some [p]
  | none=>none
 | .cond c x y,env,U=>match ev G env c with
  | .bool true=>wM D G call m nn o x env U
  | .bool false=>wM D G call m nn o y env U
  | _=>none
 | .block id c,env,U=>match wM D G call m nn o c env U with
  | some l=>yu l fun p=>match p.1 with
   | .exit i=>match Nat.beq i id with
    | true=>some [(.normal,p.2.1,p.2.2)]
    | false=>some [p]
   | _=>some [p]
  | none=>none
 | .region id ops d,env,U=>match (match d with | true=>o.fk.lookup id | false=>none) with
  | some (s,ac)=>match qgp D G call o.mu ac ops s env U with
   | some l=>yu (vo (qdZ ops) l) fun p=>some [(.normal,p.1,p.2)]
   | none=>none
  | none=>match runR D G call o.mu ops d (o.lw.contains id) ops.toList env U with
   | some l=>yu l fun p=>some [(.normal,p.1,p.2)]
   | none=>none
 | .loop c,env,U=>qak nn (fun env U=>wM D G call m nn o c env U) m env U
 | .rangeFunc g ps x y,env,U=>match ps.toList,ev G env g with
  | [pi,pe],.fn gb [] [.ptr b 0]=>match o.bw.lookup gb with
   | some k=>match U.H[b]? with
    | some (.cells [.sl _ rows _])=>match Nat.blt rows.length 4611686018427387904,JU (fun env U=>wM D G call m nn o x env U) (fun env U=>wM D G call m nn o y env U) k b pi pe env rows.length U with
     | true,some l=>yu l fun U=>some [(.normal,env,U)]
     | _,_=>none
    | _=>none
   | none=>none
  | _,_=>none
 | .label _,env,U=>some [(.normal,env,U)]
 | .scope c,env,U=>match wM D G call m nn o c env U with
  | some l=>yu l fun p=>match p.1 with
   | .goto _=>none
   | _=>some [p]
  | none=>none
 | _,_,_=>none
def qff (D:Nat->Option TI)(rs:List ResultVar)(o:qea):Option AV:=match o.1 with
 | .ret | .normal=>match qbl D rs o.2.1 o.2.2 with
  | some l=>some (Y7 l)
  | none=>none
 | _=>none
mutual
def eqA:AV->AV->Bool
 | .bool a,.bool b=>a==b
 | .int k n,.int k' n'=>decide (k=k')&&decide (n=n')
 | .str a,.str b=>decide (a=b)
 | .nilp,.nilp=>true
 | .nilm,.nilm=>true
 | .nilf,.nilf=>true
 | .sl s r .none,.sl s' r' .none=>Nat.beq s s' && qmy r r'
 | .sl s r .nil,.sl s' r' .nil=>Nat.beq s s' && qmy r r'
 | .sl s r .tight,.sl s' r' .tight=>Nat.beq s s' && qmy r r'
 | .rptr c,.rptr c'=>qk6 c c'
 | .agg c,.agg c'=>qk6 c c'
 | .tup c,.tup c'=>qk6 c c'
 | _,_=>false
def qk6:List AV->List AV->Bool
 | [],[]=>true
 | a::r,b::s=>eqA a b&&qk6 r s
 | _,_=>false
def qmy:List (List AV)->List (List AV)->Bool
 | [],[]=>true
 | a::r,b::s=>qk6 a b&&qmy r s
 | _,_=>false
end
mutual
theorem qdY:∀ (a b:AV),eqA a b=true->a=b
 | .bool a,.bool b,h=>by simp[eqA]at h;rw[h]
 | .int k n,.int k' n',h=>by simp[eqA]at h;rw[h.1,h.2]
 | .str a,.str b,h=>by simp[eqA]at h;rw[h]
 | .nilp,.nilp,_=>rfl
 | .nilm,.nilm,_=>rfl
 | .nilf,.nilf,_=>rfl
 | .sl s r .none,.sl s' r' .none,h=>by
  simp only[eqA,qo0]at h;rw[qpX h.1,QW r r' h.2]
 | .sl s r .nil,.sl s' r' .nil,h=>by
  simp only[eqA,qo0]at h;rw[qpX h.1,QW r r' h.2]
 | .sl s r .tight,.sl s' r' .tight,h=>by
  simp only[eqA,qo0]at h;rw[qpX h.1,QW r r' h.2]
 | .rptr c,.rptr c',h=>by simp only[eqA]at h;rw[vm c c' h]
 | .agg c,.agg c',h=>by simp only[eqA]at h;rw[vm c c' h]
 | .tup c,.tup c',h=>by simp only[eqA]at h;rw[vm c c' h]
 | .any,b,h=>by cases b<;>simp[eqA]at h
 | .ptr ..,b,h=>by cases b<;>simp[eqA]at h
 | .ms ..,b,h=>by cases b<;>simp[eqA]at h
 | .map ..,b,h=>by cases b<;>simp[eqA]at h
 | .iter ..,b,h=>by cases b<;>simp[eqA]at h
 | .fn ..,b,h=>by cases b<;>simp[eqA]at h
 | .sl s r (.chain ..),b,h=>by cases b<;>simp[eqA]at h
 | .bool _,.int ..,h | .bool _,.str ..,h | .bool _,.nilp,h | .bool _,.nilm,h | .bool _,.nilf,h | .bool _,.sl ..,h | .bool _,.rptr ..,h | .bool _,.agg ..,h | .bool _,.tup ..,h | .bool _,.any,h | .bool _,.ptr ..,h | .bool _,.ms ..,h | .bool _,.map ..,h | .bool _,.iter ..,h | .bool _,.fn ..,h=>by simp[eqA]at h
 | .int ..,.bool ..,h | .int ..,.str ..,h | .int ..,.nilp,h | .int ..,.nilm,h | .int ..,.nilf,h | .int ..,.sl ..,h | .int ..,.rptr ..,h | .int ..,.agg ..,h | .int ..,.tup ..,h | .int ..,.any,h | .int ..,.ptr ..,h | .int ..,.ms ..,h | .int ..,.map ..,h | .int ..,.iter ..,h | .int ..,.fn ..,h=>by simp[eqA]at h
 | .str ..,.bool ..,h | .str ..,.int ..,h | .str ..,.nilp,h | .str ..,.nilm,h | .str ..,.nilf,h | .str ..,.sl ..,h | .str ..,.rptr ..,h | .str ..,.agg ..,h | .str ..,.tup ..,h | .str ..,.any,h | .str ..,.ptr ..,h | .str ..,.ms ..,h | .str ..,.map ..,h | .str ..,.iter ..,h | .str ..,.fn ..,h=>by simp[eqA]at h
 | .nilp,.bool ..,h | .nilp,.int ..,h | .nilp,.str ..,h | .nilp,.nilm,h | .nilp,.nilf,h | .nilp,.sl ..,h | .nilp,.rptr ..,h | .nilp,.agg ..,h | .nilp,.tup ..,h | .nilp,.any,h | .nilp,.ptr ..,h | .nilp,.ms ..,h | .nilp,.map ..,h | .nilp,.iter ..,h | .nilp,.fn ..,h=>by simp[eqA]at h
 | .nilm,.bool ..,h | .nilm,.int ..,h | .nilm,.str ..,h | .nilm,.nilp,h | .nilm,.nilf,h | .nilm,.sl ..,h | .nilm,.rptr ..,h | .nilm,.agg ..,h | .nilm,.tup ..,h | .nilm,.any,h | .nilm,.ptr ..,h | .nilm,.ms ..,h | .nilm,.map ..,h | .nilm,.iter ..,h | .nilm,.fn ..,h=>by simp[eqA]at h
 | .nilf,.bool ..,h | .nilf,.int ..,h | .nilf,.str ..,h | .nilf,.nilp,h | .nilf,.nilm,h | .nilf,.sl ..,h | .nilf,.rptr ..,h | .nilf,.agg ..,h | .nilf,.tup ..,h | .nilf,.any,h | .nilf,.ptr ..,h | .nilf,.ms ..,h | .nilf,.map ..,h | .nilf,.iter ..,h | .nilf,.fn ..,h=>by simp[eqA]at h
 | .rptr ..,.bool ..,h | .rptr ..,.int ..,h | .rptr ..,.str ..,h | .rptr ..,.nilp,h | .rptr ..,.nilm,h | .rptr ..,.nilf,h | .rptr ..,.sl ..,h | .rptr ..,.agg ..,h | .rptr ..,.tup ..,h | .rptr ..,.any,h | .rptr ..,.ptr ..,h | .rptr ..,.ms ..,h | .rptr ..,.map ..,h | .rptr ..,.iter ..,h | .rptr ..,.fn ..,h=>by simp[eqA]at h
 | .agg ..,.bool ..,h | .agg ..,.int ..,h | .agg ..,.str ..,h | .agg ..,.nilp,h | .agg ..,.nilm,h | .agg ..,.nilf,h | .agg ..,.sl ..,h | .agg ..,.rptr ..,h | .agg ..,.tup ..,h | .agg ..,.any,h | .agg ..,.ptr ..,h | .agg ..,.ms ..,h | .agg ..,.map ..,h | .agg ..,.iter ..,h | .agg ..,.fn ..,h=>by simp[eqA]at h
 | .tup ..,.bool ..,h | .tup ..,.int ..,h | .tup ..,.str ..,h | .tup ..,.nilp,h | .tup ..,.nilm,h | .tup ..,.nilf,h | .tup ..,.sl ..,h | .tup ..,.rptr ..,h | .tup ..,.agg ..,h | .tup ..,.any,h | .tup ..,.ptr ..,h | .tup ..,.ms ..,h | .tup ..,.map ..,h | .tup ..,.iter ..,h | .tup ..,.fn ..,h=>by simp[eqA]at h
 | .sl s r .none,.bool ..,h | .sl s r .none,.int ..,h | .sl s r .none,.str ..,h | .sl s r .none,.nilp,h | .sl s r .none,.nilm,h | .sl s r .none,.nilf,h | .sl s r .none,.rptr ..,h | .sl s r .none,.agg ..,h | .sl s r .none,.tup ..,h | .sl s r .none,.any,h | .sl s r .none,.ptr ..,h | .sl s r .none,.ms ..,h | .sl s r .none,.map ..,h | .sl s r .none,.iter ..,h | .sl s r .none,.fn ..,h=>by simp[eqA]at h
 | .sl s r .nil,.bool ..,h | .sl s r .nil,.int ..,h | .sl s r .nil,.str ..,h | .sl s r .nil,.nilp,h | .sl s r .nil,.nilm,h | .sl s r .nil,.nilf,h | .sl s r .nil,.rptr ..,h | .sl s r .nil,.agg ..,h | .sl s r .nil,.tup ..,h | .sl s r .nil,.any,h | .sl s r .nil,.ptr ..,h | .sl s r .nil,.ms ..,h | .sl s r .nil,.map ..,h | .sl s r .nil,.iter ..,h | .sl s r .nil,.fn ..,h=>by simp[eqA]at h
 | .sl s r .tight,.bool ..,h | .sl s r .tight,.int ..,h | .sl s r .tight,.str ..,h | .sl s r .tight,.nilp,h | .sl s r .tight,.nilm,h | .sl s r .tight,.nilf,h | .sl s r .tight,.rptr ..,h | .sl s r .tight,.agg ..,h | .sl s r .tight,.tup ..,h | .sl s r .tight,.any,h | .sl s r .tight,.ptr ..,h | .sl s r .tight,.ms ..,h | .sl s r .tight,.map ..,h | .sl s r .tight,.iter ..,h | .sl s r .tight,.fn ..,h=>by simp[eqA]at h
 | .sl s r .none,.sl s' r' .nil,h | .sl s r .none,.sl s' r' .tight,h | .sl s r .none,.sl s' r' (.chain ..),h=>by simp[eqA]at h
 | .sl s r .nil,.sl s' r' .none,h | .sl s r .nil,.sl s' r' .tight,h | .sl s r .nil,.sl s' r' (.chain ..),h=>by simp[eqA]at h
 | .sl s r .tight,.sl s' r' .none,h | .sl s r .tight,.sl s' r' .nil,h | .sl s r .tight,.sl s' r' (.chain ..),h=>by simp[eqA]at h
theorem vm:∀ (a b:List AV),qk6 a b=true->a=b
 | [],[],_=>rfl
 | a::r,b::s,h=>by
  simp only[qk6,qo0]at h;rw[qdY a b h.1,vm r s h.2]
 | [],_::_,h=>by simp[qk6]at h
 | _::_,[],h=>by simp[qk6]at h
theorem QW:∀ (a b:List (List AV)),qmy a b=true->a=b
 | [],[],_=>rfl
 | a::r,b::s,h=>by
  simp only[qmy,qo0]at h;rw[vm a b h.1,QW r s h.2]
 | [],_::_,h=>by simp[qmy]at h
 | _::_,[],h=>by simp[qmy]at h
end
def qbZ (D:Nat->Option TI)(rs:List ResultVar):List qea->Option AV
 | []=>none
 | o::r=>match qff D rs o with
  | some v=>match frz o.2.2.H 8 v with
   | u=>match qC u&&r.all (fun o'=>match qff D rs o' with | some v'=>eqA (frz o'.2.2.H 8 v') u | none=>false) with
    | true=>some u
    | false=>none
  | none=>none
structure Bod where
 n:Nat
 c:Code
 rs:List ResultVar
 o:Opts
 sh:Bool
def Vf (D:Nat->Option TI)(G:Nat->AV)(F:Nat->Option Bod)(C:FuncId->List AV->Option AV)(m:Nat)(ih:yB):yB:=fun d g args U=>match F g with
 | none=>match qp args with
  | true=>match C g args with
   | some r=>some [(r,U)]
   | none=>none
  | false=>none
 | some b=>match Nat.ble args.length b.n with
  | false=>none
  | true=>match qp (args.map plain)&&!b.sh with
   | true=>match wM D G ih m b.n b.o b.c (wK (args.map plain)) ⟨[],[]⟩ with
    | some l=>match qbZ D b.rs l with
     | some r=>wn r fun r=>some [(r,U)]
     | none=>none
    | none=>none
   | false=>match d with
    | true=>match wM D G ih m b.n b.o b.c (wK (args.map (frz U.H 8))) ⟨[],[]⟩ with
     | some l=>match qbZ D b.rs l with
      | some r=>match qmD r with
       | true=>wn r fun r=>some [(r,U)]
       | false=>none
      | none=>none
     | none=>none
    | false=>match wM D G ih m b.n b.o b.c (wK args) U with
     | some l=>yu l fun o=>match qff D b.rs o with
      | some v=>some [(v,o.2.2)]
      | none=>none
     | none=>none
section
variable {P:Program}{G:Nat->AV}
def vz (P:Program)(G:Nat->AV)(call:yB):Prop:=∀ d g args U l,call d g args U=some l->∀ Q:AV->St->Prop,(∀ v U',(v,U')∈l->Q v U')->qb P G d g args U Q
theorem qeF {mu d:Bool}{op:Op}{env:Env}{U:St}{l:List (AV×St)}(h:semO (Dof P) G mu d env U op=some l){Q:AV->St->Prop}(hq:∀ v U',(v,U')∈l->Q v U') :
 vcX (Kg d (KB (Dof P) G mu env U op)) (sem (Dof P) G env U op) Q:=by
 have fin:(match sem (Dof P) G env U op with | some p=>some [p] | none=>none)=some l->vcX none (sem (Dof P) G env U op) Q:=by
  intro h1;unfold vcX;simp only
  cases hs:sem (Dof P) G env U op with
  | none=>rw[hs]at h1;cases h1
  | some p=>
   obtain⟨v,U'⟩:=p;rw[hs]at h1;cases h1;exact hq v U' (qpb.2 rfl)
 cases d with
 | true=>exact fin h
 | false=>
  simp only[semO,Kg]at h ⊢
  cases hx:KB (Dof P) G mu env U op with
  | none=>rw[hx]at h;exact fin h
  | some l2=>
   rw[hx]at h;cases h;exact hq
theorem JV {call:yB}(hc:vz P G call){mu d:Bool}{op:Op}{env:Env}{U:St}{l:List (AV×St)}(h:qgq (Dof P) G call mu d op env U=some l){Q:AV->St->Prop}(hq:∀ v U',(v,U')∈l->Q v U'):jp P G mu d op env U Q:=by
 by_cases hop:∃ f args ts,op=.call { callee:=.value f,args:=args,argTypes:=ts }
 . obtain⟨f,args,ts,rfl⟩:=hop;simp only[qgq]at h;simp only[jp]
   cases hf:ev G env f with
   | fn g first cap=>
    rw[hf]at h;simp only[Wa]at h;exact hc _ _ _ _ _ h Q hq
   | _=>rw[hf]at h;cases h
 . rw[jp.plain hop];have h':(match semO (Dof P) G mu d env U op with
    | some l=>Js l fun l=>some l
    | none=>none)=some l:=by
    unfold qgq at h;split at h
    . exact absurd ⟨_,_,_,rfl⟩ hop
    . simp only[qhP,Yu]at h ⊢
      revert h
      cases semO (Dof P) G mu d env U op with
      | none=>exact id
      | some l=>cases qgA op<;>exact id
   split at h'
   . rename_i l1 h1;rw[Yu]at h';cases h';exact qeF h1 hq
   . cases h'
theorem Ze {call:yB}(hc:vz P G call){mu d:Bool}{ops:Array Oper}{o:Oper}{env:Env}{U:St}{l:List (AV×St)}(h:runG (Dof P) G call mu d ops o env U=some l){k:Env->AV->St->Prop}(hq:∀ v U',(v,U')∈l->k env v U'):vcG P G mu d ops o env U k:=by
 unfold runG at h;unfold vcG;split at h
 . rename_i hg;simp only[hg];exact JV hc h hq
 . rename_i j b hg;simp only[hg];split at h
   . rename_i t ht;simp only[ht];split at h
     . rename_i c hcb;simp only[hcb];split at h
       . rename_i hb;have hcb':c=b:=(by simpa using hb);subst hcb';refine⟨fun _=>?_,fun e=>by simp at e⟩;rw[Jk hcb];exact JV hc h hq
       . rename_i hb;refine⟨fun e=>(by rw[hb]at e;cases e),fun _=>?_⟩;have:(!b)=c:=by cases c<;>cases b<;>simp_all
         rw[this,Jk hcb];cases h;exact hq _ _ (qpb.2 rfl)
     . rename_i hcb;simp only[hcb];cases h;exact hq _ _ (qpb.2 rfl)
     . cases h
   . rename_i ht;simp only[ht];cases h;exact hq _ _ (qpb.2 rfl)
theorem KG {call:yB}(hc:vz P G call){mu:Bool}{ops:Array Oper}{d lw:Bool} :
 ∀ (rest:List Oper) {env:Env} {U:St} {l:List (Env×St)},runR (Dof P) G call mu ops d lw rest env U=some l->∀ {Q:Env->St->Prop},(∀ p∈l,Q p.1 p.2)->vcR P G mu ops d lw rest env U Q
 | [],env,U,l,h,Q,hq=>by
  simp only[runR,Option.some.injEq]at h;subst h;simp only[vcR];exact hq _ (qpb.2 rfl)
 | o::rest,env,U,l,h,Q,hq=>by
  simp only[runR]at h;simp only[vcR];split at h
  . rename_i l1 h1;refine Ze hc h1 fun v U' hm=>?_
    obtain⟨x,e1,e2⟩:=zG h _ hm;exact KG hc rest e1 fun p hp=>hq p (e2 p hp)
  . cases h
mutual
theorem Zd {call:yB}(hc:vz P G call){mu:Bool}{ac:List Nat}{ops:Array Oper} :
 ∀ (s:Sch) {env:Env} {U:St} {l:List (Env×St)},qgp (Dof P) G call mu ac ops s env U=some l->∀ {Q:Env->St->Prop},(∀ p∈l,Q p.1 p.2)->vcS P G mu ac ops s env U Q
 | .done,env,U,l,h,Q,hq=>by
  simp only[qgp,Option.some.injEq]at h;subst h;simp only[vcS];exact hq _ (qpb.2 rfl)
 | .step k dp s,env,U,l,h,Q,hq=>by
  simp only[qgp]at h;simp only[vcS];split at h
  . rename_i o ho;simp only[ho];split at h
    . rename_i l1 h1;refine Ze hc h1 fun v U' hm=>?_
      obtain⟨x,e1,e2⟩:=zG h _ hm;exact Zd hc s e1 fun p hp=>hq p (e2 p hp)
    . cases h
  . cases h
 | .fork a,env,U,l,h,Q,hq=>by
  simp only[qgp]at h;simp only[vcS];exact QB hc a h hq
theorem QB {call:yB}(hc:vz P G call){mu:Bool}{ac:List Nat}{ops:Array Oper} :
 ∀ (a:Alts) {env:Env} {U:St} {l:List (Env×St)},Qf (Dof P) G call mu ac ops a env U=some l->∀ {Q:Env->St->Prop},(∀ p∈l,Q p.1 p.2)->kc P G mu ac ops a env U Q
 | .nil,env,U,l,h,Q,hq=>by simp only[kc]
 | .cons k s r,env,U,l,h,Q,hq=>by
  simp only[Qf]at h;simp only[kc];split at h
  . rename_i o ho;simp only[ho];split at h
    . rename_i l1 h1;split at h
      . rename_i x hx;split at h
        . rename_i y hy;simp only[Option.some.injEq]at h;subst h;refine⟨Ze hc h1 fun v U' hm=>?_,QB hc r hy fun p hp=>hq p (qp5 _ hp)⟩;obtain⟨z,e1,e2⟩:=zG hx _ hm;exact Zd hc s e1 fun p hp=>hq p (qpH _ (e2 p hp))
        . cases h
      . cases h
    . cases h
  . cases h
end
theorem qf5 {ops:Array Oper}{k:Nat}{o:Oper}(ho:ops[k]?=some o){env:Env}{v:AV}{t:Nat}(ht:t∉qdZ ops):upd env o.dst v t=env t:=by
 cases hd:o.dst with
 | none=>rfl
 | some d=>
  simp only[upd];split
  . rename_i e;refine absurd ?_ ht;subst e;refine qrN.2 ⟨o,?_,hd⟩;exact qoZ (l:=ops.toList) (i:=k) (by simpa using ho)
  . rfl
theorem YY {α β:Type}{f:α->Option (List β)}:∀ {l:List α} {m:List β},yu l f=some m->∀ b∈m,∃ a∈l,∃ x,f a=some x/\b∈x
 | [],m,h,b,hb=>by simp[yu]at h;subst h;simp at hb
 | [a],m,h,b,hb=>⟨a,qp2,m,h,hb⟩
 | a::a2::r,m,h,b,hb=>by
  simp only[yu]at h;split at h
  . rename_i x y hx hy;simp only[Option.some.injEq]at h;subst h;rcases qpk.1 hb with hb|hb
    . exact⟨a,qp2,x,hx,hb⟩
    . obtain⟨a',h1,h2⟩:=YY hy b hb;exact⟨a',qpI _ h1,h2⟩
  . cases h
mutual
theorem Wz {D:Nat->Option TI}{call:yB}{mu:Bool}{ac:List Nat}{ops:Array Oper} :
 ∀ (s:Sch) {env:Env} {U:St} {l:List (Env×St)},qgp D G call mu ac ops s env U=some l->∀ p∈l,∀ t,t∉qdZ ops->p.1 t=env t
 | .done,env,U,l,h,p,hp,t,ht=>by
  simp only[qgp,Option.some.injEq]at h;subst h;rw[qpb.1 hp]
 | .step k dp s,env,U,l,h,p,hp,t,ht=>by
  simp only[qgp]at h;split at h
  . rename_i o ho;split at h
    . rename_i l1 h1;obtain⟨q,hq,x,e1,e2⟩:=YY h p hp;rw[Wz s e1 p e2 t ht,qf5 ho ht]
    . cases h
  . cases h
 | .fork a,env,U,l,h,p,hp,t,ht=>by
  simp only[qgp]at h;exact JW a h p hp t ht
theorem JW {D:Nat->Option TI}{call:yB}{mu:Bool}{ac:List Nat}{ops:Array Oper} :
 ∀ (a:Alts) {env:Env} {U:St} {l:List (Env×St)},Qf D G call mu ac ops a env U=some l->∀ p∈l,∀ t,t∉qdZ ops->p.1 t=env t
 | .nil,env,U,l,h,p,hp,t,ht=>by
  simp only[Qf,Option.some.injEq]at h;subst h;simp at hp
 | .cons k s r,env,U,l,h,p,hp,t,ht=>by
  simp only[Qf]at h;split at h
  . rename_i o ho;split at h
    . rename_i l1 h1;split at h
      . rename_i x hx;split at h
        . rename_i y hy;simp only[Option.some.injEq]at h;subst h;rcases qpk.1 hp with hp|hp
          . obtain⟨q,hq,x',e1,e2⟩:=YY hx p hp;rw[Wz s e1 p e2 t ht,qf5 ho ht]
          . exact JW r hy p hp t ht
        . cases h
      . cases h
    . cases h
  . cases h
end
theorem wW {A B:Env->St->Option (List qea)}{A' B':Env->St->(Exit->Env->St->Prop)->Prop}(hA:∀ {env U l},A env U=some l->∀ {Q:Exit->Env->St->Prop},(∀ p∈l,Q p.1 p.2.1 p.2.2)->A' env U Q)(hB:∀ {env U l},B env U=some l->∀ {Q:Exit->Env->St->Prop},(∀ p∈l,Q p.1 p.2.1 p.2.2)->B' env U Q){k b pi pe:Nat}{env:Env} :
 ∀ (n:Nat) {U:St} {l:List St},JU A B k b pi pe env n U=some l->∀ {Q:St->Prop},(∀ U∈l,Q U)->wB A' B' k b pi pe env n U Q
 | 0,U,l,h,Q,hq=>by
  have h':some [U]=some l:=h;cases h';simp only[wB];exact hq U (qpb.2 rfl)
 | i+1,U,l,h,Q,hq=>by
  have h':(match U.H[b]? with
   | some (.cells [.sl sz rows _])=>match Nat.beq sz k,rows[i]? with
    | true,some r=>match A (upd (upd env (some pi) (.int .i64 (.ofNat i))) (some pe) (.agg r)) U with
     | some l=>yu l fun p=>match p.1 with
      | .normal=>match B p.2.1 p.2.2 with
       | some l2=>yu l2 fun p2=>match p2.1 with
        | .normal=>JU A B k b pi pe env i p2.2.2
        | _=>none
       | none=>none
      | _=>none
     | none=>none
    | _,_=>none
   | _=>none)=some l:=h
  clear h;simp only[wB];split at h'
  . rename_i sz rows tok hb;simp only[hb];split at h'
    . rename_i r hsz hr;refine⟨qpX hsz,?_⟩;simp only[hr];split at h'
      . rename_i l1 h1;refine hA h1 fun p hp=>?_
        obtain⟨u,e1,e2⟩:=zG h' p hp;split at e1
        . rename_i hn;refine⟨hn,?_⟩;split at e1
          . rename_i l2 h2;refine hB h2 fun p2 hp2=>?_
            obtain⟨u2,e3,e4⟩:=zG e1 p2 hp2;split at e3
            . rename_i hn2;exact⟨hn2,wW hA hB i e3 fun U hσ=>hq U (e2 _ (e4 _ hσ))⟩
            . cases e3
          . cases e1
        . cases e1
      . cases h'
    . cases h'
  . cases h'
theorem z0 {call:yB}(hc:vz P G call){m nn:Nat}{o:Opts}(hbw:∀ g k,o.bw.lookup g=some k->qi1 P G g k) :
 ∀ (c:Code) {env:Env} {U:St} {l:List qea},wM (Dof P) G call m nn o c env U=some l->∀ {Q:Exit->Env->St->Prop},(∀ p∈l,Q p.1 p.2.1 p.2.2)->vcC P G o c env U Q
 | .skip,env,U,l,h,Q,hq=>by
  simp only[wM,Option.some.injEq]at h;subst h;simp only[vcC];exact hq _ (qpb.2 rfl)
 | .ret,env,U,l,h,Q,hq=>by
  simp only[wM,Option.some.injEq]at h;subst h;simp only[vcC];exact hq _ (qpb.2 rfl)
 | .exit id,env,U,l,h,Q,hq=>by
  simp only[wM,Option.some.injEq]at h;subst h;simp only[vcC];exact hq _ (qpb.2 rfl)
 | .seq x y,env,U,l,h,Q,hq=>by
  simp only[wM]at h;simp only[vcC];split at h
  . rename_i l1 h1;refine z0 hc hbw x h1 fun p hp=>?_
    obtain⟨u,e1,e2⟩:=zG h p hp;obtain⟨e,env',U'⟩:=p
    cases e with
    | normal=>exact z0 hc hbw y e1 fun p hp=>hq p (e2 p hp)
    | _=>simp only[Option.some.injEq]at e1;subst e1;exact hq _ (e2 _ (qpb.2 rfl))
  . cases h
 | .cond c x y,env,U,l,h,Q,hq=>by
  simp only[wM]at h;simp only[vcC];split at h
  . rename_i hb;rw[hb];exact⟨fun _=>z0 hc hbw x h hq,fun e=>(by cases e)⟩
  . rename_i hb;rw[hb];exact⟨fun e=>(by cases e),fun _=>z0 hc hbw y h hq⟩
  . cases h
 | .block id c,env,U,l,h,Q,hq=>by
  simp only[wM]at h;simp only[vcC];split at h
  . rename_i l1 h1;refine z0 hc hbw c h1 fun p hp=>?_
    obtain⟨u,e1,e2⟩:=zG h p hp;obtain⟨e,env',U'⟩:=p
    cases e with
    | exit i=>
     simp only[kq];simp only at e1;split at e1
     . rename_i hb;rw[if_pos (qpX hb)];simp only[Option.some.injEq]at e1;subst e1;exact hq _ (e2 _ (qpb.2 rfl))
     . rename_i hb;rw[if_neg (by intro e;subst e;simp at hb)];simp only[Option.some.injEq]at e1;subst e1;exact hq _ (e2 _ (qpb.2 rfl))
    | _=>simp only[Option.some.injEq]at e1;subst e1;exact hq _ (e2 _ (qpb.2 rfl))
  . cases h
 | .region id ops d,env,U,l,h,Q,hq=>by
  simp only[wM]at h;have lex:∀ l1,runR (Dof P) G call o.mu ops d (o.lw.contains id) ops.toList env U=some l1->(yu l1 fun p=>some [((.normal,p.1,p.2):qea)])=some l->vcR P G o.mu ops d (o.lw.contains id) ops.toList env U (fun env U=>Q .normal env U):=by
   intro l1 h1 h2;refine KG hc ops.toList h1 fun p hp=>?_
   obtain⟨u,e1,e2⟩:=zG h2 p hp;simp only[Option.some.injEq]at e1;subst e1;exact hq _ (e2 _ (qpb.2 rfl))
  cases d with
  | false=>
   simp only at h;simp only[vcC];split at h
   . rename_i l1 h1;exact lex l1 h1 h
   . cases h
  | true=>
   simp only at h
   cases hl:o.fk.lookup id with
   | none=>
    rw[hl]at h;simp only[vcC,hl];simp only at h;split at h
    . rename_i l1 h1;exact lex l1 h1 h
    . cases h
   | some p=>
    obtain⟨s,ac⟩:=p;rw[hl]at h;simp only[vcC,hl];simp only at h;split at h
    . rename_i l1 h1;refine Zd hc s h1 fun p hp=>?_
      obtain⟨u,e1,e2⟩:=zG h p (ZU (env:=env) (fun p hp t ht=>Wz s h1 p hp t ht) p hp);simp only[Option.some.injEq]at e1;subst e1;exact hq _ (e2 _ (qpb.2 rfl))
    . cases h
 | .loop c,env,U,l,h,Q,hq=>by
  simp only[wM]at h;simp only[vcC];refine⟨fun n env U=>∃ l',qak nn (fun env U=>wM (Dof P) G call m nn o c env U) n env U=some l'/\∀ p∈l',Q p.1 p.2.1 p.2.2,m,⟨l,h,hq⟩,?_⟩;rintro n env U ⟨l',h',hq'⟩
  cases n with
  | zero=>simp[qak]at h'
  | succ n=>
   have h2:(match wM (Dof P) G call m nn o c env U with
    | some l=>yu l fun p=>match p.1 with
     | .normal=>qak nn (fun env U=>wM (Dof P) G call m nn o c env U) n p.2.1 p.2.2
     | _=>some [p]
    | none=>none)=some l':=by
    have h3:(match wM (Dof P) G call m nn o c env U with
     | some l=>yu l fun p=>match p.1 with
      | .normal=>Yw p.2.1 nn [] fun l=>qak nn (fun env U=>wM (Dof P) G call m nn o c env U) n (qgL nn p.2.1 l) p.2.2
      | _=>some [p]
     | none=>none)=some l':=h'
    have e:∀ p:qea,(Yw p.2.1 nn [] fun l=>qak nn (fun env U=>wM (Dof P) G call m nn o c env U) n (qgL nn p.2.1 l) p.2.2)=qak nn (fun env U=>wM (Dof P) G call m nn o c env U) n p.2.1 p.2.2:=fun p=>qj8 nn p.2.1 fun e=>qak nn (fun env U=>wM (Dof P) G call m nn o c env U) n e p.2.2
    simp only[e]at h3;exact h3
   split at h2
   . rename_i l1 h1;refine z0 hc hbw c h1 fun p hp=>?_
     obtain⟨u,e1,e2⟩:=zG h2 p hp;obtain⟨e,env',U'⟩:=p
     cases e with
     | normal=>exact⟨n,Nat.lt_succ_self n,u,e1,fun p hp=>hq' p (e2 p hp)⟩
     | _=>simp only[Option.some.injEq]at e1;subst e1;exact hq' _ (e2 _ (qpb.2 rfl))
   . cases h2
 | .rangeFunc g ps x y,env,U,l,h,Q,hq=>by
  simp only[wM]at h;simp only[vcC];split at h
  . rename_i pi pe gb b hps hg;simp only[hps,hg];split at h
    . rename_i k hk;refine⟨k,fun _ _ h=>h,hbw gb k hk,?_⟩;split at h
      . rename_i sz rows tok hb;simp only[hb];split at h
        . rename_i l1 hlt h1;refine⟨by rw[Nat.blt_eq]at hlt;omega,?_⟩;refine wW (z0 hc hbw x) (z0 hc hbw y) rows.length h1 fun U hσ=>?_
          obtain⟨u,e1,e2⟩:=zG h U hσ;simp only[Option.some.injEq]at e1;subst e1;exact hq _ (e2 _ (qpb.2 rfl))
        . cases h
      . cases h
    . cases h
  . cases h
 | .scope c,env,U,l,h,Q,hq=>by
  simp only[wM]at h;simp only[vcC];split at h
  . rename_i l1 h1;refine z0 hc hbw c h1 fun p hp=>?_
    obtain⟨u,e1,e2⟩:=zG h p hp;obtain⟨e,env',U'⟩:=p
    cases e with
    | goto l=>cases e1
    | _=>simp only[Option.some.injEq]at e1;subst e1;exact hq _ (e2 _ (qpb.2 rfl))
  . cases h
 | .label l,env,U,_,h,Q,hq=>by
  simp only[wM,Option.some.injEq]at h;subst h;exact hq _ (qpb.2 rfl)
 | .goto l,_,_,_,h,_,_=>by simp[wM]at h
 | .refuse w,_,_,_,h,_,_=>by simp[wM]at h
theorem Wd {rs:List ResultVar}{o:qea}{v:AV}(h:qff (Dof P) rs o=some v):(o.1=.ret\/o.1=.normal)/\∃ l,qbl (Dof P) rs o.2.1 o.2.2=some l/\v=Y7 l:=by
 unfold qff at h;split at h
 . rename_i he;split at h
   . rename_i l hl;cases h;exact⟨.inl he,l,hl,rfl⟩
   . cases h
 . rename_i he;split at h
   . rename_i l hl;cases h;exact⟨.inr he,l,hl,rfl⟩
   . cases h
 . cases h
theorem KQ {rs:List ResultVar}{l:List qea}{r:AV}(h:qbZ (Dof P) rs l=some r):∀ o∈l,Yy P true rs r o.1 o.2.1 o.2.2:=by
 have key:∀ (o:qea) (v:AV),qff (Dof P) rs o=some v->qC r=true->frz o.2.2.H 8 v=r->Yy P true rs r o.1 o.2.1 o.2.2:=by
  intro o v hv hn hf;obtain⟨h1,l,h2,rfl⟩:=Wd hv;have:qce P true rs r o.2.1 o.2.2:=by
   unfold qce;rw[h2];simp only[hf];exact⟨hn,Leq.refl r⟩
  rcases h1 with h1|h1<;>rw[h1]<;>exact this
 cases l with
 | nil=>simp[qbZ]at h
 | cons o l=>
  simp only[qbZ]at h;split at h
  . rename_i v hv;split at h
    . rename_i hcond;simp only[Option.some.injEq]at h;simp only[qo0,qpa]at hcond;rw[h]at hcond;intro o' ho';rcases qpm.1 ho' with rfl|ho'
      . exact key _ v hv hcond.1 h
      . have:=hcond.2 o' ho';split at this
        . rename_i v' hv';exact key o' v' hv' hcond.1 (qdY _ _ this)
        . cases this
    . cases h
  . cases h
def Y6 (P : Program) (G : Nat → AV) (F : Nat → Option Bod) : Prop := ∀ g b, F g = some b → ∃ fn, P.funcs[g]? = some fn ∧ fn.body = some b.c ∧ fn.ntmps = b.n ∧ fn.results.toList = b.rs ∧ jn b.n b.o b.c = true ∧ fn.name ≠ "runtime.NumGoroutine" ∧ ∀ x k, b.o.bw.lookup x = some k → qi1 P G x k
def qlM (P:Program)(G:Nat->AV)(C:FuncId->List AV->Option AV):Prop:=∀ g args r,qp args=true->C g args=some r->Pure P G g args r
end
end
section
section
variable {P:Program}{G:Nat->AV}
theorem Kp {F:Nat->Option Bod}{C:FuncId->List AV->Option AV}(hm:P.follows .mixedOrders=true)(hF:Y6 P G F)(hC:qlM P G C){m:Nat}{call:yB}(ih:vz P G call):vz P G (Vf (Dof P) G F C m call):=by
 intro d g args U l h Q hq;have h':=h;clear h;unfold Vf at h';split at h'
 . split at h'
   . rename_i hno;split at h'
     . rename_i r hr;cases h';have hp:=hC g args r hno hr;have hpl:args.map plain=args:=by
        have:∀ l:List AV,qp l=true->l.map plain=l:=by
         intro l
         induction l with
         | nil=>intro _;rfl
         | cons a t iht=>
          intro hl;simp only[qp,qo0]at hl;rw[qo9,iht hl.2];congr 1;have p1:∀ a:AV,qC a=true->pl1 a=a:=by
           intro a ha;unfold pl1;split
           . simp[qC]at ha
           . rfl
          have p1s:∀ l:List AV,qp l=true->l.map pl1=l:=by
           intro l
           induction l with
           | nil=>intro _;rfl
           | cons a t ih2=>intro hl;simp only[qp,qo0]at hl;rw[qo9,p1 a hl.1,ih2 hl.2]
          have p2:∀ a:AV,qC a=true->pl2 a=a:=by
           intro a ha;unfold pl2;split
           . simp only[qC]at ha;rw[p1s _ ha]
           . exact p1 a ha
          have p2s:∀ l:List AV,qp l=true->l.map pl2=l:=by
           intro l
           induction l with
           | nil=>intro _;rfl
           | cons a t ih2=>intro hl;simp only[qp,qo0]at hl;rw[qo9,p2 a hl.1,ih2 hl.2]
          unfold plain;split
          . have:=hl.1;simp only[qC]at this;rw[p2s _ this]
          . exact p2 a hl.1
        exact this args hno
       exact qb.of (.inl ⟨by rw[hpl];exact hno,by rw[hpl];exact hp⟩) (hq _ _ (qpb.2 rfl))
     . cases h'
   . cases h'
 rename_i b hb;obtain⟨fn,f1,f2,f3,f4,f5,f6,f7⟩:=hF g b hb;split at h'
 . cases h'
 rename_i hlen;have hlen':args.length<=fn.ntmps:=by rw[f3];exact qsd hlen
 have pure:∀ (args':List AV) (l1:List qea) (r:AV),args'.length=args.length->wM (Dof P) G call m b.n b.o b.c (wK args') ⟨[],[]⟩=some l1->qbZ (Dof P) b.rs l1=some r->Pure P G g args' r:=by
  intro args' l1 r hl h1 h2;refine Pure.vcO b.o true hm f1 f2 ?_ (z0 ih f7 b.c h1 fun p hp=>by rw[f4];exact KQ h2 p hp);simp only[qo0,decide_eq_true_eq,bne_iff_ne,ne_eq];exact⟨⟨by rw[f3];exact f5,by omega⟩,f6⟩
 split at h'
 . rename_i hno;simp only[qo0]at hno;split at h'
   . rename_i l1 h1;split at h'
     . rename_i r h2;rw[yF]at h';cases h';exact qb.of (.inl ⟨hno.1,pure _ l1 r (by simp) h1 h2⟩) (hq _ _ (qpb.2 rfl))
     . cases h'
   . cases h'
 . split at h'
   . split at h'
     . rename_i l1 h1;split at h'
       . rename_i r h2;split at h'
         . rename_i hbare;rw[yF]at h';cases h';exact qb.of (.inr ⟨hbare,pure _ l1 r (by simp) h1 h2⟩) (hq _ _ (qpb.2 rfl))
         . cases h'
       . cases h'
     . cases h'
   . split at h'
     . rename_i l1 h1;refine qg.of_body f1 f2 f6 hlen' (jL hm b.c (by rw[f3];exact f5) (z0 ih f7 b.c h1 fun o ho=>?_));obtain⟨u,e1,e2⟩:=zG h' o ho;split at e1
       . rename_i v hv;cases e1;obtain⟨k1,l2,k2,rfl⟩:=Wd hv;exact⟨k1,l2,by rw[f4];exact k2,hq _ _ (e2 _ (qpb.2 rfl))⟩
       . cases e1
     . cases h'
def YV (D:Nat->Option TI)(G:Nat->AV)(F:Nat->Option Bod)(C:FuncId->List AV->Option AV)(K:FuncId->Bool)(X:FuncId->List AV->Option AV)(m:Nat)(ih:yB):yB:=fun d g args U=>match K g with
 | true=>match qp (args.map plain) with
  | true=>match X g (args.map plain) with
   | some r=>some [(r,U)]
   | none=>none
  | false=>match X g (args.map (frz U.H 8)) with
   | some r=>match qmD r with
    | true=>some [(r,U)]
    | false=>none
   | none=>none
 | false=>Vf D G F C m ih d g args U
def qfF (P:Program)(G:Nat->AV)(X:FuncId->List AV->Option AV):Prop:=∀ g args r,X g args=some r->Pure P G g args r
end
end
end Go.Abs
end
section
namespace Go.Proofs.YtcadpamddlofjaaGreatDoor
open Go Go.Abs
inductive Tr where
 | leaf (k:Nat) (i:TI)
 | node (k:Nat) (l r:Tr)
def Tr.get:Tr->Nat->Option TI
 | .leaf k i,t=>match Nat.beq t k with
  | true=>some i
  | false=>none
 | .node k l r,t=>match Nat.blt t k with
  | true=>l.get t
  | false=>r.get t
def Tr.ok:Tr->Prop
 | .leaf k i=>Dof Tryz.prog k=some i
 | .node _ l r=>l.ok/\r.ok
theorem Tr.get_spec:∀ (T:Tr) {t:Nat} {i:TI},T.ok->T.get t=some i->Dof Tryz.prog t=some i
 | .leaf k i,t,j,h,e=>by
  simp only[Tr.get]at e;split at e
  . rename_i hb;rw[qpX hb];cases e;exact h
  . cases e
 | .node k l r,t,j,h,e=>by
  simp only[Tr.get]at e;split at e
  . exact Tr.get_spec l h.1 e
  . exact Tr.get_spec r h.2 e
def qcO:Tr:=.node 159 (.node 42 (.node 21 (.node 9 (.node 5 (.node 3 (.node 2 (.leaf 0 ⟨1,0,[.any],.tup [],.other,true⟩) (.leaf 2 ⟨1,8,[.int .i64 0],.int .i64 0,.int .i64,true⟩)) (.node 4 (.leaf 3 ⟨1,8,[.int .i64 0],.int .i64 0,.int .i64,true⟩) (.leaf 4 ⟨1,1,[.bool false],.bool false,.bool,true⟩))) (.node 7 (.node 6 (.leaf 5 ⟨1,1,[.int .u8 0],.int .u8 0,.int .u8,true⟩) (.leaf 6 ⟨1,1,[.int .u8 0],.int .u8 0,.int .u8,true⟩)) (.node 8 (.leaf 7 ⟨4,24,[.int .i64 0,.int .i64 0,.bool false,.int .u8 0],.agg [.int .i64 0,.int .i64 0,.bool false,.int .u8 0],.st [(0,2),(1,3),(2,4),(3,6)],true⟩) (.leaf 8 ⟨4,24,[.int .i64 0,.int .i64 0,.bool false,.int .u8 0],.agg [.int .i64 0,.int .i64 0,.bool false,.int .u8 0],.st [(0,2),(1,3),(2,4),(3,6)],true⟩)))) (.node 13 (.node 11 (.node 10 (.leaf 9 ⟨1,16,[.str []],.str [],.str,true⟩) (.leaf 10 ⟨1,16,[.str []],.str [],.str,true⟩)) (.node 12 (.leaf 11 ⟨1,16,[.str []],.str [],.str,true⟩) (.leaf 12 ⟨1,8,[.int .u64 0],.int .u64 0,.int .u64,true⟩))) (.node 18 (.node 14 (.leaf 13 ⟨2,24,[.str [],.int .u64 0],.agg [.str [],.int .u64 0],.st [(0,9),(1,12)],false⟩) (.leaf 14 ⟨2,24,[.str [],.int .u64 0],.agg [.str [],.int .u64 0],.st [(0,9),(1,12)],false⟩)) (.node 19 (.leaf 18 ⟨1,8,[.nilp],.agg [.nilp],.st [(0,17)],false⟩) (.node 20 (.leaf 19 ⟨1,8,[.nilp],.agg [.nilp],.st [(0,17)],false⟩) (.leaf 20 ⟨1,16,[.any],.any,.other,true⟩)))))) (.node 29 (.node 25 (.node 23 (.node 22 (.leaf 21 ⟨1,4,[.int .i32 0],.int .i32 0,.int .i32,true⟩) (.leaf 22 ⟨1,24,[.sl 0 [] .nil],.sl 0 [] .nil,.sl 39,true⟩)) (.node 24 (.leaf 23 ⟨1,24,[.sl 0 [] .nil],.sl 0 [] .nil,.sl 66,true⟩) (.leaf 24 ⟨1,24,[.sl 0 [] .nil],.sl 0 [] .nil,.sl 51,true⟩))) (.node 27 (.node 26 (.leaf 25 ⟨1,24,[.sl 0 [] .nil],.sl 0 [] .nil,.sl 41,true⟩) (.leaf 26 ⟨5,120,[.sl 0 [] .nil,.sl 0 [] .nil,.sl 0 [] .nil,.sl 0 [] .nil,.sl 0 [] .nil],.agg [.sl 0 [] .nil,.sl 0 [] .nil,.sl 0 [] .nil,.sl 0 [] .nil,.sl 0 [] .nil],.st [(0,22),(1,23),(2,23),(3,24),(4,25)],true⟩)) (.node 28 (.leaf 27 ⟨5,120,[.sl 0 [] .nil,.sl 0 [] .nil,.sl 0 [] .nil,.sl 0 [] .nil,.sl 0 [] .nil],.agg [.sl 0 [] .nil,.sl 0 [] .nil,.sl 0 [] .nil,.sl 0 [] .nil,.sl 0 [] .nil],.st [(0,22),(1,23),(2,23),(3,24),(4,25)],true⟩) (.leaf 28 ⟨1,8,[.int .u64 0],.int .u64 0,.int .u64,true⟩)))) (.node 36 (.node 32 (.node 30 (.leaf 29 ⟨2,16,[.int .u64 0,.int .u64 0],.agg [.int .u64 0,.int .u64 0],.st [(0,28),(1,28)],true⟩) (.leaf 30 ⟨2,16,[.int .u64 0,.int .u64 0],.agg [.int .u64 0,.int .u64 0],.st [(0,28),(1,28)],true⟩)) (.node 35 (.leaf 32 ⟨1,8,[.int .i64 0],.int .i64 0,.int .i64,true⟩) (.leaf 35 ⟨1,24,[.sl 0 [] .nil],.agg [.sl 0 [] .nil],.st [(0,25)],true⟩))) (.node 39 (.node 38 (.leaf 36 ⟨1,24,[.sl 0 [] .nil],.agg [.sl 0 [] .nil],.st [(0,25)],true⟩) (.leaf 38 ⟨4,40,[.str [],.int .i64 0,.int .i64 0,.int .i64 0],.agg [.str [],.int .i64 0,.int .i64 0,.int .i64 0],.st [(0,9),(1,3),(2,3),(3,3)],true⟩)) (.node 40 (.leaf 39 ⟨4,40,[.str [],.int .i64 0,.int .i64 0,.int .i64 0],.agg [.str [],.int .i64 0,.int .i64 0,.int .i64 0],.st [(0,9),(1,3),(2,3),(3,3)],true⟩) (.node 41 (.leaf 40 ⟨1,8,[.int .u64 0],.int .u64 0,.int .u64,true⟩) (.leaf 41 ⟨1,24,[.sl 0 [] .nil],.sl 0 [] .nil,.sl 3,true⟩))))))) (.node 101 (.node 70 (.node 51 (.node 49 (.node 44 (.leaf 42 ⟨1,0,[.any],.any,.other,true⟩) (.leaf 44 ⟨1,0,[.any],.any,.other,true⟩)) (.node 50 (.leaf 49 ⟨1,24,[.sl 0 [] .nil],.sl 0 [] .nil,.sl 86,true⟩) (.leaf 50 ⟨2,32,[.int .i64 0,.sl 0 [] .nil],.agg [.int .i64 0,.sl 0 [] .nil],.st [(0,3),(1,49)],true⟩))) (.node 65 (.node 61 (.leaf 51 ⟨2,32,[.int .i64 0,.sl 0 [] .nil],.agg [.int .i64 0,.sl 0 [] .nil],.st [(0,3),(1,49)],true⟩) (.leaf 61 ⟨1,0,[.any],.any,.other,true⟩)) (.node 66 (.leaf 65 ⟨4,56,[.int .i64 0,.int .i64 0,.str [],.sl 0 [] .nil],.agg [.int .i64 0,.int .i64 0,.str [],.sl 0 [] .nil],.st [(0,3),(1,3),(2,9),(3,23)],true⟩) (.leaf 66 ⟨4,56,[.int .i64 0,.int .i64 0,.str [],.sl 0 [] .nil],.agg [.int .i64 0,.int .i64 0,.str [],.sl 0 [] .nil],.st [(0,3),(1,3),(2,9),(3,23)],true⟩)))) (.node 86 (.node 74 (.node 72 (.leaf 70 ⟨1,0,[.any],.any,.other,true⟩) (.leaf 72 ⟨1,0,[.any],.any,.other,true⟩)) (.node 85 (.leaf 74 ⟨1,0,[.any],.any,.other,true⟩) (.leaf 85 ⟨4,32,[.int .i64 0,.int .i64 0,.int .i64 0,.bool false],.agg [.int .i64 0,.int .i64 0,.int .i64 0,.bool false],.st [(0,3),(1,3),(2,3),(3,4)],true⟩))) (.node 90 (.node 88 (.leaf 86 ⟨4,32,[.int .i64 0,.int .i64 0,.int .i64 0,.bool false],.agg [.int .i64 0,.int .i64 0,.int .i64 0,.bool false],.st [(0,3),(1,3),(2,3),(3,4)],true⟩) (.leaf 88 ⟨1,8,[.nilf],.nilf,.fn,true⟩)) (.node 98 (.leaf 90 ⟨1,0,[.any],.any,.other,true⟩) (.node 100 (.leaf 98 ⟨1,8,[.nilf],.nilf,.fn,true⟩) (.leaf 100 ⟨1,24,[.sl 0 [] .nil],.sl 0 [] .nil,.sl 175,true⟩)))))) (.node 120 (.node 105 (.node 103 (.node 102 (.leaf 101 ⟨1,24,[.sl 0 [] .nil],.agg [.sl 0 [] .nil],.st [(0,100)],true⟩) (.leaf 102 ⟨1,24,[.sl 0 [] .nil],.agg [.sl 0 [] .nil],.st [(0,100)],true⟩)) (.node 104 (.leaf 103 ⟨11,216,[.sl 0 [] .nil,.sl 0 [] .nil,.sl 0 [] .nil,.sl 0 [] .nil,.sl 0 [] .nil,.sl 0 [] .nil,.sl 0 [] .nil,.sl 0 [] .nil,.int .i64 0,.bool false,.nilf],.agg [.sl 0 [] .nil,.sl 0 [] .nil,.sl 0 [] .nil,.sl 0 [] .nil,.sl 0 [] .nil,.sl 0 [] .nil,.sl 0 [] .nil,.sl 0 [] .nil,.int .i64 0,.bool false,.nilf],.st [(0,27),(5,23),(6,41),(7,102),(8,3),(9,4),(10,98)],true⟩) (.leaf 104 ⟨11,216,[.sl 0 [] .nil,.sl 0 [] .nil,.sl 0 [] .nil,.sl 0 [] .nil,.sl 0 [] .nil,.sl 0 [] .nil,.sl 0 [] .nil,.sl 0 [] .nil,.int .i64 0,.bool false,.nilf],.agg [.sl 0 [] .nil,.sl 0 [] .nil,.sl 0 [] .nil,.sl 0 [] .nil,.sl 0 [] .nil,.sl 0 [] .nil,.sl 0 [] .nil,.sl 0 [] .nil,.int .i64 0,.bool false,.nilf],.st [(0,27),(5,23),(6,41),(7,102),(8,3),(9,4),(10,98)],true⟩))) (.node 113 (.node 111 (.leaf 105 ⟨1,0,[.any],.any,.other,true⟩) (.leaf 111 ⟨1,8,[.nilp],.nilp,.ptr 30,true⟩)) (.node 118 (.leaf 113 ⟨1,8,[.nilm],.nilm,.map 3 3,true⟩) (.node 119 (.leaf 118 ⟨1,24,[.sl 0 [] .nil],.sl 0 [] .nil,.sl 9,true⟩) (.leaf 119 ⟨5,72,[.int .i64 0,.int .i64 0,.int .i64 0,.sl 0 [] .nil,.sl 0 [] .nil],.agg [.int .i64 0,.int .i64 0,.int .i64 0,.sl 0 [] .nil,.sl 0 [] .nil],.st [(0,3),(1,3),(2,32),(3,118),(4,118)],true⟩))))) (.node 141 (.node 127 (.node 125 (.leaf 120 ⟨5,72,[.int .i64 0,.int .i64 0,.int .i64 0,.sl 0 [] .nil,.sl 0 [] .nil],.agg [.int .i64 0,.int .i64 0,.int .i64 0,.sl 0 [] .nil,.sl 0 [] .nil],.st [(0,3),(1,3),(2,32),(3,118),(4,118)],true⟩) (.leaf 125 ⟨1,8,[.nilf],.nilf,.fn,true⟩)) (.node 138 (.leaf 127 ⟨1,24,[.sl 0 [] .nil],.sl 0 [] .nil,.sl 88,true⟩) (.leaf 138 ⟨1,24,[.sl 0 [] .nil],.sl 0 [] .nil,.sl 4,true⟩))) (.node 149 (.node 148 (.leaf 141 ⟨1,24,[.sl 0 [] .nil],.sl 0 [] .nil,.sl 49,true⟩) (.leaf 148 ⟨1,8,[.nilm],.nilm,.map 150 3,true⟩)) (.node 150 (.leaf 149 ⟨2,16,[.int .i64 0,.int .i64 0],.agg [.int .i64 0,.int .i64 0],.st [(0,3),(1,3)],true⟩) (.node 153 (.leaf 150 ⟨2,16,[.int .i64 0,.int .i64 0],.agg [.int .i64 0,.int .i64 0],.st [(0,3),(1,3)],true⟩) (.leaf 153 ⟨1,0,[.any],.any,.other,true⟩)))))))) (.node 258 (.node 204 (.node 184 (.node 176 (.node 174 (.node 162 (.leaf 159 ⟨1,0,[.any],.any,.other,true⟩) (.leaf 162 ⟨1,24,[.sl 0 [] .nil],.sl 0 [] .nil,.sl 23,true⟩)) (.node 175 (.leaf 174 ⟨3,24,[.int .i64 0,.int .i64 0,.int .i64 0],.agg [.int .i64 0,.int .i64 0,.int .i64 0],.st [(0,3),(1,3),(2,3)],true⟩) (.leaf 175 ⟨3,24,[.int .i64 0,.int .i64 0,.int .i64 0],.agg [.int .i64 0,.int .i64 0,.int .i64 0],.st [(0,3),(1,3),(2,3)],true⟩))) (.node 181 (.node 177 (.leaf 176 ⟨1,8,[.nilp],.nilp,.ptr 186,true⟩) (.leaf 177 ⟨1,0,[.any],.any,.other,true⟩)) (.node 182 (.leaf 181 ⟨16,128,[.int .i64 0,.int .i64 0,.int .i64 0,.int .i64 0,.int .i64 0,.int .i64 0,.int .i64 0,.int .i64 0,.int .i64 0,.int .i64 0,.int .i64 0,.int .i64 0,.int .i64 0,.int .i64 0,.int .i64 0,.int .i64 0],.agg [.int .i64 0,.int .i64 0,.int .i64 0,.int .i64 0,.int .i64 0,.int .i64 0,.int .i64 0,.int .i64 0,.int .i64 0,.int .i64 0,.int .i64 0,.int .i64 0,.int .i64 0,.int .i64 0,.int .i64 0,.int .i64 0],.arr 16 3,true⟩) (.leaf 182 ⟨16,128,[.int .i64 0,.int .i64 0,.int .i64 0,.int .i64 0,.int .i64 0,.int .i64 0,.int .i64 0,.int .i64 0,.int .i64 0,.int .i64 0,.int .i64 0,.int .i64 0,.int .i64 0,.int .i64 0,.int .i64 0,.int .i64 0],.agg [.int .i64 0,.int .i64 0,.int .i64 0,.int .i64 0,.int .i64 0,.int .i64 0,.int .i64 0,.int .i64 0,.int .i64 0,.int .i64 0,.int .i64 0,.int .i64 0,.int .i64 0,.int .i64 0,.int .i64 0,.int .i64 0],.arr 16 3,true⟩)))) (.node 189 (.node 186 (.node 185 (.leaf 184 ⟨1,8,[.nilm],.nilm,.map 9 3,true⟩) (.leaf 185 ⟨8,176,[.sl 0 [] .nil,.sl 0 [] .nil,.sl 0 [] .nil,.sl 0 [] .nil,.sl 0 [] .nil,.sl 0 [] .nil,.sl 0 [] .nil,.nilm],.agg [.sl 0 [] .nil,.sl 0 [] .nil,.sl 0 [] .nil,.sl 0 [] .nil,.sl 0 [] .nil,.sl 0 [] .nil,.sl 0 [] .nil,.nilm],.st [(0,102),(1,27),(6,41),(7,184)],true⟩)) (.node 188 (.leaf 186 ⟨8,176,[.sl 0 [] .nil,.sl 0 [] .nil,.sl 0 [] .nil,.sl 0 [] .nil,.sl 0 [] .nil,.sl 0 [] .nil,.sl 0 [] .nil,.nilm],.agg [.sl 0 [] .nil,.sl 0 [] .nil,.sl 0 [] .nil,.sl 0 [] .nil,.sl 0 [] .nil,.sl 0 [] .nil,.sl 0 [] .nil,.nilm],.st [(0,102),(1,27),(6,41),(7,184)],true⟩) (.leaf 188 ⟨3,24,[.int .i64 0,.int .i64 0,.int .i64 0],.agg [.int .i64 0,.int .i64 0,.int .i64 0],.st [(0,3),(1,3),(2,3)],true⟩))) (.node 191 (.node 190 (.leaf 189 ⟨3,24,[.int .i64 0,.int .i64 0,.int .i64 0],.agg [.int .i64 0,.int .i64 0,.int .i64 0],.st [(0,3),(1,3),(2,3)],true⟩) (.leaf 190 ⟨1,8,[.nilf],.nilf,.fn,true⟩)) (.node 193 (.leaf 191 ⟨1,0,[.any],.any,.other,true⟩) (.node 201 (.leaf 193 ⟨1,0,[.any],.any,.other,true⟩) (.leaf 201 ⟨1,24,[.sl 0 [] .nil],.sl 0 [] .nil,.sl 5,true⟩)))))) (.node 224 (.node 212 (.node 208 (.node 206 (.leaf 204 ⟨1,0,[.any],.any,.other,true⟩) (.leaf 206 ⟨1,0,[.any],.any,.other,true⟩)) (.node 209 (.leaf 208 ⟨9,184,[.sl 0 [] .nil,.sl 0 [] .nil,.sl 0 [] .nil,.sl 0 [] .nil,.sl 0 [] .nil,.sl 0 [] .nil,.sl 0 [] .nil,.bool false,.int .i64 0],.agg [.sl 0 [] .nil,.sl 0 [] .nil,.sl 0 [] .nil,.sl 0 [] .nil,.sl 0 [] .nil,.sl 0 [] .nil,.sl 0 [] .nil,.bool false,.int .i64 0],.st [(0,27),(5,23),(6,41),(7,4),(8,3)],true⟩) (.leaf 209 ⟨9,184,[.sl 0 [] .nil,.sl 0 [] .nil,.sl 0 [] .nil,.sl 0 [] .nil,.sl 0 [] .nil,.sl 0 [] .nil,.sl 0 [] .nil,.bool false,.int .i64 0],.agg [.sl 0 [] .nil,.sl 0 [] .nil,.sl 0 [] .nil,.sl 0 [] .nil,.sl 0 [] .nil,.sl 0 [] .nil,.sl 0 [] .nil,.bool false,.int .i64 0],.st [(0,27),(5,23),(6,41),(7,4),(8,3)],true⟩))) (.node 222 (.node 215 (.leaf 212 ⟨1,24,[.sl 0 [] .nil],.sl 0 [] .nil,.sl 269,true⟩) (.leaf 215 ⟨1,0,[.any],.any,.other,true⟩)) (.node 223 (.leaf 222 ⟨1,8,[.int .i64 0],.agg [.int .i64 0],.st [(0,32)],true⟩) (.leaf 223 ⟨1,8,[.int .i64 0],.agg [.int .i64 0],.st [(0,32)],true⟩)))) (.node 238 (.node 235 (.node 225 (.leaf 224 ⟨1,0,[.any],.any,.other,true⟩) (.leaf 225 ⟨1,24,[.sl 0 [] .nil],.sl 0 [] .nil,.sl 182,true⟩)) (.node 237 (.leaf 235 ⟨1,8,[.nilp],.nilp,.ptr 285,true⟩) (.leaf 237 ⟨1,8,[.nilm],.nilm,.map 189 3,true⟩))) (.node 245 (.node 239 (.leaf 238 ⟨3,24,[.nilp,.nilf,.nilm],.agg [.nilp,.nilf,.nilm],.st [(0,235),(1,190),(2,237)],true⟩) (.leaf 239 ⟨3,24,[.nilp,.nilf,.nilm],.agg [.nilp,.nilf,.nilm],.st [(0,235),(1,190),(2,237)],true⟩)) (.node 246 (.leaf 245 ⟨1,8,[.int .i64 0],.int .i64 0,.int .i64,true⟩) (.node 253 (.leaf 246 ⟨1,0,[.any],.any,.other,true⟩) (.leaf 253 ⟨1,4,[.int .u32 0],.int .u32 0,.int .u32,true⟩))))))) (.node 304 (.node 283 (.node 268 (.node 264 (.node 262 (.leaf 258 ⟨1,0,[.any],.any,.other,true⟩) (.leaf 262 ⟨1,24,[.sl 0 [] .nil],.sl 0 [] .nil,.sl 265,true⟩)) (.node 265 (.leaf 264 ⟨2,24,[.str [],.int .i64 0],.agg [.str [],.int .i64 0],.st [(0,9),(1,3)],true⟩) (.leaf 265 ⟨2,24,[.str [],.int .i64 0],.agg [.str [],.int .i64 0],.st [(0,9),(1,3)],true⟩))) (.node 270 (.node 269 (.leaf 268 ⟨2,16,[.int .i64 0,.int .i64 0],.agg [.int .i64 0,.int .i64 0],.st [(0,3),(1,3)],true⟩) (.leaf 269 ⟨2,16,[.int .i64 0,.int .i64 0],.agg [.int .i64 0,.int .i64 0],.st [(0,3),(1,3)],true⟩)) (.node 275 (.leaf 270 ⟨1,0,[.any],.any,.other,true⟩) (.leaf 275 ⟨1,8,[.nilm],.nilm,.map 175 4,true⟩)))) (.node 288 (.node 285 (.node 284 (.leaf 283 ⟨1,8,[.nilm],.nilm,.map 175 3,true⟩) (.leaf 284 ⟨3,40,[.sl 0 [] .nil,.nilm,.bool false],.agg [.sl 0 [] .nil,.nilm,.bool false],.st [(0,100),(1,283),(2,4)],true⟩)) (.node 287 (.leaf 285 ⟨3,40,[.sl 0 [] .nil,.nilm,.bool false],.agg [.sl 0 [] .nil,.nilm,.bool false],.st [(0,100),(1,283),(2,4)],true⟩) (.leaf 287 ⟨1,8,[.nilm],.nilm,.map 9 4,true⟩))) (.node 297 (.node 296 (.leaf 288 ⟨1,8,[.int .u64 0],.int .u64 0,.int .u64,true⟩) (.leaf 296 ⟨1,24,[.sl 0 [] .nil],.agg [.sl 0 [] .nil],.st [(0,262)],true⟩)) (.node 300 (.leaf 297 ⟨1,24,[.sl 0 [] .nil],.agg [.sl 0 [] .nil],.st [(0,262)],true⟩) (.node 302 (.leaf 300 ⟨1,0,[.any],.any,.other,true⟩) (.leaf 302 ⟨1,0,[.any],.any,.other,true⟩)))))) (.node 331 (.node 316 (.node 313 (.node 306 (.leaf 304 ⟨24,24,[.int .u8 0,.int .u8 0,.int .u8 0,.int .u8 0,.int .u8 0,.int .u8 0,.int .u8 0,.int .u8 0,.int .u8 0,.int .u8 0,.int .u8 0,.int .u8 0,.int .u8 0,.int .u8 0,.int .u8 0,.int .u8 0,.int .u8 0,.int .u8 0,.int .u8 0,.int .u8 0,.int .u8 0,.int .u8 0,.int .u8 0,.int .u8 0],.agg [.int .u8 0,.int .u8 0,.int .u8 0,.int .u8 0,.int .u8 0,.int .u8 0,.int .u8 0,.int .u8 0,.int .u8 0,.int .u8 0,.int .u8 0,.int .u8 0,.int .u8 0,.int .u8 0,.int .u8 0,.int .u8 0,.int .u8 0,.int .u8 0,.int .u8 0,.int .u8 0,.int .u8 0,.int .u8 0,.int .u8 0,.int .u8 0],.arr 24 5,true⟩) (.leaf 306 ⟨1,0,[.any],.any,.other,true⟩)) (.node 315 (.leaf 313 ⟨20,160,[.int .u64 0,.int .u64 0,.int .u64 0,.int .u64 0,.int .u64 0,.int .u64 0,.int .u64 0,.int .u64 0,.int .u64 0,.int .u64 0,.int .u64 0,.int .u64 0,.int .u64 0,.int .u64 0,.int .u64 0,.int .u64 0,.int .u64 0,.int .u64 0,.int .u64 0,.int .u64 0],.agg [.int .u64 0,.int .u64 0,.int .u64 0,.int .u64 0,.int .u64 0,.int .u64 0,.int .u64 0,.int .u64 0,.int .u64 0,.int .u64 0,.int .u64 0,.int .u64 0,.int .u64 0,.int .u64 0,.int .u64 0,.int .u64 0,.int .u64 0,.int .u64 0,.int .u64 0,.int .u64 0],.arr 20 28,true⟩) (.leaf 315 ⟨1,2,[.int .u16 0],.int .u16 0,.int .u16,true⟩))) (.node 328 (.node 321 (.leaf 316 ⟨1,2,[.int .u16 0],.int .u16 0,.int .u16,true⟩) (.leaf 321 ⟨32,32,[.int .u8 0,.int .u8 0,.int .u8 0,.int .u8 0,.int .u8 0,.int .u8 0,.int .u8 0,.int .u8 0,.int .u8 0,.int .u8 0,.int .u8 0,.int .u8 0,.int .u8 0,.int .u8 0,.int .u8 0,.int .u8 0,.int .u8 0,.int .u8 0,.int .u8 0,.int .u8 0,.int .u8 0,.int .u8 0,.int .u8 0,.int .u8 0,.int .u8 0,.int .u8 0,.int .u8 0,.int .u8 0,.int .u8 0,.int .u8 0,.int .u8 0,.int .u8 0],.agg [.int .u8 0,.int .u8 0,.int .u8 0,.int .u8 0,.int .u8 0,.int .u8 0,.int .u8 0,.int .u8 0,.int .u8 0,.int .u8 0,.int .u8 0,.int .u8 0,.int .u8 0,.int .u8 0,.int .u8 0,.int .u8 0,.int .u8 0,.int .u8 0,.int .u8 0,.int .u8 0,.int .u8 0,.int .u8 0,.int .u8 0,.int .u8 0,.int .u8 0,.int .u8 0,.int .u8 0,.int .u8 0,.int .u8 0,.int .u8 0,.int .u8 0,.int .u8 0],.arr 32 5,true⟩)) (.node 329 (.leaf 328 ⟨4,40,[.nilp,.nilp,.nilp,.str []],.agg [.nilp,.nilp,.nilp,.str []],.st [(0,17),(1,17),(2,17),(3,9)],false⟩) (.node 330 (.leaf 329 ⟨4,40,[.nilp,.nilp,.nilp,.str []],.agg [.nilp,.nilp,.nilp,.str []],.st [(0,17),(1,17),(2,17),(3,9)],false⟩) (.leaf 330 ⟨0,0,[],.agg [],.arr 0 16,true⟩))))) (.node 337 (.node 333 (.node 332 (.leaf 331 ⟨0,0,[],.agg [],.other,false⟩) (.leaf 332 ⟨0,0,[],.agg [],.other,false⟩)) (.node 334 (.leaf 333 ⟨1,1,[.int .u8 0],.int .u8 0,.int .u8,true⟩) (.leaf 334 ⟨1,1,[.int .u8 0],.int .u8 0,.int .u8,true⟩))) (.node 339 (.node 338 (.leaf 337 ⟨1,4,[.int .i32 0],.int .i32 0,.int .i32,true⟩) (.leaf 338 ⟨1,4,[.int .i32 0],.int .i32 0,.int .i32,true⟩)) (.node 340 (.leaf 339 ⟨11,48,[.int .u64 0,.int .u64 0,.int .u32 0,.int .u8 0,.int .u8 0,.int .u8 0,.int .u8 0,.nilf,.nilp,.int .i32 0,.int .i32 0],.agg [.int .u64 0,.int .u64 0,.int .u32 0,.int .u8 0,.int .u8 0,.int .u8 0,.int .u8 0,.nilf,.nilp,.int .i32 0,.int .i32 0],.st [(0,12),(1,12),(2,253),(3,333),(4,5),(5,5),(6,334),(7,335),(8,336),(9,337),(10,338)],false⟩) (.node 341 (.leaf 340 ⟨11,48,[.int .u64 0,.int .u64 0,.int .u32 0,.int .u8 0,.int .u8 0,.int .u8 0,.int .u8 0,.nilf,.nilp,.int .i32 0,.int .i32 0],.agg [.int .u64 0,.int .u64 0,.int .u32 0,.int .u8 0,.int .u8 0,.int .u8 0,.int .u8 0,.nilf,.nilp,.int .i32 0,.int .i32 0],.st [(0,12),(1,12),(2,253),(3,333),(4,5),(5,5),(6,334),(7,335),(8,336),(9,337),(10,338)],false⟩) (.leaf 341 ⟨1,8,[.nilp],.nilp,.other,true⟩))))))))
theorem qbD:qcO.ok:=⟨⟨⟨⟨⟨⟨⟨D0,D2⟩,⟨D3,D4⟩⟩,⟨⟨D5,D6⟩,⟨D7,D8⟩⟩⟩,⟨⟨⟨D9,D10⟩,⟨D11,D12⟩⟩,⟨⟨D13,D14⟩,⟨D18,⟨D19,D20⟩⟩⟩⟩⟩,⟨⟨⟨⟨D21,D22⟩,⟨D23,D24⟩⟩,⟨⟨D25,D26⟩,⟨D27,D28⟩⟩⟩,⟨⟨⟨D29,D30⟩,⟨D32,D35⟩⟩,⟨⟨D36,D38⟩,⟨D39,⟨D40,D41⟩⟩⟩⟩⟩⟩,⟨⟨⟨⟨⟨D42,D44⟩,⟨D49,D50⟩⟩,⟨⟨D51,D61⟩,⟨D65,D66⟩⟩⟩,⟨⟨⟨D70,D72⟩,⟨D74,D85⟩⟩,⟨⟨D86,D88⟩,⟨D90,⟨D98,D100⟩⟩⟩⟩⟩,⟨⟨⟨⟨D101,D102⟩,⟨D103,D104⟩⟩,⟨⟨D105,D111⟩,⟨D113,⟨D118,D119⟩⟩⟩⟩,⟨⟨⟨D120,D125⟩,⟨D127,D138⟩⟩,⟨⟨D141,D148⟩,⟨D149,⟨D150,D153⟩⟩⟩⟩⟩⟩⟩,⟨⟨⟨⟨⟨⟨D159,D162⟩,⟨D174,D175⟩⟩,⟨⟨D176,D177⟩,⟨D181,D182⟩⟩⟩,⟨⟨⟨D184,D185⟩,⟨D186,D188⟩⟩,⟨⟨D189,D190⟩,⟨D191,⟨D193,D201⟩⟩⟩⟩⟩,⟨⟨⟨⟨D204,D206⟩,⟨D208,D209⟩⟩,⟨⟨D212,D215⟩,⟨D222,D223⟩⟩⟩,⟨⟨⟨D224,D225⟩,⟨D235,D237⟩⟩,⟨⟨D238,D239⟩,⟨D245,⟨D246,D253⟩⟩⟩⟩⟩⟩,⟨⟨⟨⟨⟨D258,D262⟩,⟨D264,D265⟩⟩,⟨⟨D268,D269⟩,⟨D270,D275⟩⟩⟩,⟨⟨⟨D283,D284⟩,⟨D285,D287⟩⟩,⟨⟨D288,D296⟩,⟨D297,⟨D300,D302⟩⟩⟩⟩⟩,⟨⟨⟨⟨D304,D306⟩,⟨D313,D315⟩⟩,⟨⟨D316,D321⟩,⟨D328,⟨D329,D330⟩⟩⟩⟩,⟨⟨⟨D331,D332⟩,⟨D333,D334⟩⟩,⟨⟨D337,D338⟩,⟨D339,⟨D340,D341⟩⟩⟩⟩⟩⟩⟩⟩
noncomputable def DD (t:Nat):Option TI:=match qcO.get t with
 | some i=>some i
 | none=>Dof Tryz.prog t
theorem DD_eq:Dof Tryz.prog=DD:=funext fun t=>by
 unfold DD;split
 . rename_i i h;exact Tr.get_spec _ qbD h
 . rfl
structure Look where
 o:Opts
 sh:Bool
noncomputable def bodF (L:Nat->Look)(g:Nat):Option Bod:=match Tryz.prog.funcs[g]? with
 | some fn=>match fn.body with
  | some c=>some ⟨fn.ntmps,c,fn.results.toList,(L g).o,(L g).sh⟩
  | none=>none
 | none=>none
noncomputable def okF (L:Nat->Look)(g:Nat):Bool:=match Tryz.prog.funcs[g]? with
 | some fn=>match fn.body with
  | some c => jn fn.ntmps (L g).o c && fn.name != "runtime.NumGoroutine"
  | none=>false
 | none=>false
noncomputable def FF (L:Nat->Look)(S:Nat)(g:Nat):Option Bod:=match Nat.testBit S g with
 | true=>bodF L g
 | false=>none
theorem qhe {S n g:Nat}(hS:S<2 ^ n)(hn:¬ g<n):S<2 ^ g:=qpc hS (qpr (Nat.succ_pos 1) (Nat.le_of_not_lt hn))
theorem qfA {G:Nat->AV}{L:Nat->Look}{S:Nat}(hbw:∀ g x k,(L g).o.bw.lookup x=some k->qi1 Tryz.prog G x k)(h:(List.range 512).all (fun g=>!Nat.testBit S g||okF L g)=true)(hS:S<2 ^ 512):Y6 Tryz.prog G (FF L S):=by
 intro g b hb;unfold FF at hb;split at hb
 case h_2=>cases hb
 rename_i ht;have hg:g<512:=by
  apply Classical.byContradiction;intro hn;have:S<2 ^ g:=@qhe S 512 g hS hn;rw[qrx this]at ht;cases ht
 have hk:=qpa.1 h g (qp0.2 hg);rw[ht]at hk;simp only[qrz,qq4]at hk;unfold okF at hk;unfold bodF at hb;split at hk
 . rename_i fn hfn;rw[hfn]at hb;simp only at hb;split at hk
   . rename_i c hc;rw[hc]at hb;simp only[Option.some.injEq]at hb;subst hb;simp only[qo0,bne_iff_ne,ne_eq]at hk;exact⟨fn,hfn,hc,rfl,rfl,hk.1,hk.2,hbw g⟩
   . cases hk
 . cases hk
end Go.Proofs.YtcadpamddlofjaaGreatDoor
end
