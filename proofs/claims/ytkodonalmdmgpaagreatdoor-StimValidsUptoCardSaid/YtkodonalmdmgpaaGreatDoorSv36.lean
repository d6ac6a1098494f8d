import Derived.Test.YtkodonalmdmgpaaGreatDoorSv10
set_option linter.all false
set_option linter.defProp false
section
namespace Go.Abs
open Go Go.RowKit
section
/-! ### Forcing: numbers are laid bare before they are handed on. -/
def forceNat {β:Type} (n:Nat) (k:Nat→β):β:=Nat.rec (k 0) (fun p _=>k (Nat.succ p)) n
theorem forceNat_eq {β:Type} (n:Nat) (k:Nat→β):forceNat n k=k n:=by cases n<;>rfl
def forceInt {β:Type} (n:Int) (k:Int→β):β:=match n with
 | .ofNat m=>forceNat m fun m=>k (.ofNat m)
 | .negSucc m=>forceNat m fun m=>k (.negSucc m)
theorem forceInt_eq {β:Type} (n:Int) (k:Int→β):forceInt n k=k n:=by cases n<;>simp [forceInt,forceNat_eq]
def forceBool {β:Type} (b:Bool) (k:Bool→β):β:=match b with
 | true=>k true
 | false=>k false
theorem forceBool_eq {β:Type} (b:Bool) (k:Bool→β):forceBool b k=k b:=by cases b<;>rfl
def forceList {α β:Type}:List α→(List α→β)→β
 | [],k=>k []
 | a::r,k=>forceList r fun r=>k (a::r)
theorem forceList_eq {α β:Type}:∀ (l:List α) (k:List α→β),forceList l k=k l
 | [],k=>rfl
 | a::r,k=>forceList_eq r fun r=>k (a::r)
def forceAV {β:Type} (v:AV) (k:AV→β):β:=match v with
 | .int kd n=>forceInt n fun n=>k (.int kd n)
 | .bool b=>forceBool b fun b=>k (.bool b)
 | .str s=>forceList s fun s=>k (.str s)
 | .ptr b o=>forceNat b fun b=>forceNat o fun o=>k (.ptr b o)
 | .ms b o l s=>forceNat b fun b=>forceNat o fun o=>forceNat l fun l=>k (.ms b o l s)
 | .map b=>forceNat b fun b=>k (.map b)
 | .iter b=>forceNat b fun b=>k (.iter b)
 | .sl sz rows tok=>forceList rows fun rows=>k (.sl sz rows tok)
 | .agg c=>forceList c fun c=>k (.agg c)
 | .tup c=>forceList c fun c=>k (.tup c)
 | .rptr c=>k (.rptr c)
 | .fn f a b=>k (.fn f a b)
 | v=>k v
theorem forceAV_eq {β:Type} (v:AV) (k:AV→β):forceAV v k=k v:=by
 cases v<;>simp [forceAV,forceInt_eq,forceNat_eq,forceBool_eq,forceList_eq]
def forceSt {β:Type} (σ:St) (k:St→β):β:=forceList σ.H fun H=>forceList σ.T fun T=>k ⟨H,T⟩
theorem forceSt_eq {β:Type} (σ:St) (k:St→β):forceSt σ k=k σ:=by simp [forceSt,forceList_eq]
/-- All outcomes, one after the other. -/
def bindO {α β:Type} (l:List α) (f:α→Option (List β)):Option (List β):=match l with
 | []=>some []
 | [a]=>f a
 | a::r=>match f a,bindO r f with
  | some x,some y=>some (x++y)
  | _,_=>none
theorem bindO_spec {α β:Type} {f:α→Option (List β)}:∀ {l:List α} {m:List β},bindO l f=some m→∀ a∈l,∃ x,f a=some x∧∀ b∈x,b∈m
 | [],m,h,a,ha=>by simp at ha
 | [a],m,h,a',ha=>by simp at ha;subst ha;exact⟨m,h,fun b hb=>hb⟩
 | a::a2::r,m,h,a',ha=>by
  simp only [bindO] at h
  split at h
  · rename_i x y hx hy
    simp only [Option.some.injEq] at h
    subst h
    rcases List.mem_cons.1 ha with rfl|ha
    · exact⟨x,hx,fun b hb=>List.mem_append_left _ hb⟩
    · obtain⟨x',h1,h2⟩:=bindO_spec hy a' ha
      exact⟨x',h1,fun b hb=>List.mem_append_right _ (h2 b hb)⟩
  · cases h
def forceVs {β:Type}:List AV→(List AV→β)→β
 | [],k=>k []
 | a::r,k=>forceAV a fun a=>forceVs r fun r=>k (a::r)
theorem forceVs_eq {β:Type}:∀ (l:List AV) (k:List AV→β),forceVs l k=k l
 | [],k=>rfl
 | a::r,k=>by simp only [forceVs,forceAV_eq];exact forceVs_eq r _
abbrev OutR:=Exit×Env×St
abbrev CallT:=Bool→FuncId→List AV→St→Option (List (AV×St))
def semO (D:Nat→Option TI) (G:Nat→AV) (mu d:Bool) (env:Env) (σ:St) (op:Op):Option (List (AV×St)) :=
 match pickX d (semX D G mu env σ op) with
 | some l=>some l
 | none=>match sem D G env σ op with
  | some p=>some [p]
  | none=>none
def forceOut (l:List (AV×St)) (k:List (AV×St)→Option (List (AV×St))):Option (List (AV×St)):=match l with
 | [(v,σ)]=>forceAV v fun v=>forceSt σ fun σ=>k [(v,σ)]
 | l=>k l
theorem forceOut_eq (l:List (AV×St)) (k:List (AV×St)→Option (List (AV×St))):forceOut l k=k l:=by
 unfold forceOut;split<;>simp [forceAV_eq,forceSt_eq]
/-- Operations that leave the state as it is. -/
def quietOp:Op→Bool
 | .move _ | .assign _ | .pick .. | .load .. | .nilCheck _ | .binOp .. | .unOp .. | .convert .. | .slice .. | .fieldAddr .. | .field .. | .indexAddr .. | .index .. | .lookup .. | .extract .. | .build .. | .makeFunc .. =>true
 | _=>false
def forceQ (l:List (AV×St)) (k:List (AV×St)→Option (List (AV×St))):Option (List (AV×St)):=match l with
 | [(v,σ)]=>forceAV v fun v=>k [(v,σ)]
 | l=>k l
theorem forceQ_eq (l:List (AV×St)) (k:List (AV×St)→Option (List (AV×St))):forceQ l k=k l:=by
 unfold forceQ;split<;>simp [forceAV_eq]
def runOp (D:Nat→Option TI) (G:Nat→AV) (call:CallT) (mu d:Bool) (op:Op) (env:Env) (σ:St):Option (List (AV×St)) :=
 match op with
 | .call { callee:=.value f,args:=args,argTypes:=_ }=>match ev G env f with
  | .fn g first cap=>forceVs (callArgs first (opds G env args.toList) cap) fun a=>call d g a σ
  | _=>none
 | op=>match semO D G mu d env σ op with
  | some l=>match quietOp op with
   | true=>forceQ l fun l=>some l
   | false=>forceOut l fun l=>some l
  | none=>none
def runG (D:Nat→Option TI) (G:Nat→AV) (call:CallT) (mu d:Bool) (ops:Array Oper) (o:Oper) (env:Env) (σ:St):Option (List (AV×St)) :=
 match o.guard with
 | none=>runOp D G call mu d o.op env σ
 | some (j,b)=>match (ops[j]?).bind (·.dst) with
  | some t=>match env t with
   | .bool c=>match c==b with
    | true=>runOp D G call mu d o.op env σ
    | false=>some [(.tup [],σ)]
   | .tup []=>some [(.tup [],σ)]
   | _=>none
  | none=>some [(.tup [],σ)]
def runR (D:Nat→Option TI) (G:Nat→AV) (call:CallT) (mu:Bool) (ops:Array Oper) (d lw:Bool):List Oper→Env→St→Option (List (Env×St))
 | [],env,σ=>some [(env,σ)]
 | o::rest,env,σ=>match runG D G call mu (d&&!(lw&&isNil rest&&isCallV o.op)) ops o env σ with
  | some l=>bindO l fun p=>runR D G call mu ops d lw rest (upd env o.dst p.1) p.2
  | none=>none
/-! ### Outcomes that are the same are one. -/
def eqTok:Tok→Tok→Bool
 | .none,b=>match b with | .none=>true | _=>false
 | .nil,b=>match b with | .nil=>true | _=>false
 | .tight,b=>match b with | .tight=>true | _=>false
 | .chain t k,b=>match b with | .chain t' k'=>Nat.beq t t' && Nat.beq k k' | _=>false
mutual
def eqV:AV→AV→Bool
 | .any,b=>match b with | .any=>true | _=>false
 | .bool a,b=>match b with | .bool b=>a==b | _=>false
 | .int k n,b=>match b with | .int k' n'=>decide (k=k')&&decide (n=n') | _=>false
 | .str a,b=>match b with | .str b=>decide (a=b) | _=>false
 | .nilp,b=>match b with | .nilp=>true | _=>false
 | .nilm,b=>match b with | .nilm=>true | _=>false
 | .nilf,b=>match b with | .nilf=>true | _=>false
 | .ptr x y,b=>match b with | .ptr x' y'=>Nat.beq x x' && Nat.beq y y' | _=>false
 | .ms x y z u,b=>match b with | .ms x' y' z' u'=>Nat.beq x x' && Nat.beq y y' && Nat.beq z z' && Nat.beq u u' | _=>false
 | .map x,b=>match b with | .map x'=>Nat.beq x x' | _=>false
 | .iter x,b=>match b with | .iter x'=>Nat.beq x x' | _=>false
 | .fn f x y,b=>match b with | .fn f' x' y'=>Nat.beq f f' && eqVL x x' && eqVL y y' | _=>false
 | .sl s r t,b=>match b with | .sl s' r' t'=>Nat.beq s s' && eqVR r r' && eqTok t t' | _=>false
 | .rptr c,b=>match b with | .rptr c'=>eqVL c c' | _=>false
 | .agg c,b=>match b with | .agg c'=>eqVL c c' | _=>false
 | .tup c,b=>match b with | .tup c'=>eqVL c c' | _=>false
def eqVL:List AV→List AV→Bool
 | [],l=>match l with | []=>true | _=>false
 | a::r,l=>match l with | b::s=>eqV a b&&eqVL r s | _=>false
def eqVR:List (List AV)→List (List AV)→Bool
 | [],l=>match l with | []=>true | _=>false
 | a::r,l=>match l with | b::s=>eqVL a b&&eqVR r s | _=>false
end
theorem eqTok_spec {a b:Tok} (h:eqTok a b=true):a=b:=by
 cases a<;>cases b<;>simp [eqTok] at h<;>first | rfl | (rw [h.1,h.2])
mutual
theorem eqV_spec:∀ (a b:AV),eqV a b=true→a=b
 | .any,b,h=>by cases b<;>simp [eqV] at h;rfl
 | .bool _,b,h=>by cases b<;>simp [eqV] at h;rw [h]
 | .int ..,b,h=>by cases b<;>simp [eqV] at h;rw [h.1,h.2]
 | .str _,b,h=>by cases b<;>simp [eqV] at h;rw [h]
 | .nilp,b,h=>by cases b<;>simp [eqV] at h;rfl
 | .nilm,b,h=>by cases b<;>simp [eqV] at h;rfl
 | .nilf,b,h=>by cases b<;>simp [eqV] at h;rfl
 | .ptr ..,b,h=>by cases b<;>simp [eqV] at h;rw [h.1,h.2]
 | .ms ..,b,h=>by cases b<;>simp [eqV] at h;rw [h.1.1.1,h.1.1.2,h.1.2,h.2]
 | .map _,b,h=>by cases b<;>simp [eqV] at h;rw [h]
 | .iter _,b,h=>by cases b<;>simp [eqV] at h;rw [h]
 | .fn f x y,b,h=>by
  cases b<;>simp [eqV] at h
  rw [h.1.1,eqVL_spec x _ h.1.2,eqVL_spec y _ h.2]
 | .sl s r t,b,h=>by
  cases b<;>simp [eqV] at h
  rw [h.1.1,eqVR_spec r _ h.1.2,eqTok_spec h.2]
 | .rptr c,b,h=>by cases b<;>simp [eqV] at h;rw [eqVL_spec c _ h]
 | .agg c,b,h=>by cases b<;>simp [eqV] at h;rw [eqVL_spec c _ h]
 | .tup c,b,h=>by cases b<;>simp [eqV] at h;rw [eqVL_spec c _ h]
theorem eqVL_spec:∀ (a b:List AV),eqVL a b=true→a=b
 | [],b,h=>by cases b<;>simp [eqVL] at h;rfl
 | a::r,b,h=>by
  cases b<;>simp [eqVL] at h
  rw [eqV_spec a _ h.1,eqVL_spec r _ h.2]
theorem eqVR_spec:∀ (a b:List (List AV)),eqVR a b=true→a=b
 | [],b,h=>by cases b<;>simp [eqVR] at h;rfl
 | a::r,b,h=>by
  cases b<;>simp [eqVR] at h
  rw [eqVL_spec a _ h.1,eqVR_spec r _ h.2]
end
def eqEn:List (AV×AV×Nat)→List (AV×AV×Nat)→Bool
 | [],l=>match l with | []=>true | _=>false
 | (a,b,n)::r,l=>match l with | (a',b',n')::s=>eqV a a' && eqV b b' && Nat.beq n n' && eqEn r s | _=>false
theorem eqEn_spec:∀ {a b:List (AV×AV×Nat)},eqEn a b=true→a=b
 | [],b,h=>by cases b<;>simp [eqEn] at h;rfl
 | (x,y,n)::r,b,h=>by
  cases b with
  | nil=>simp [eqEn] at h
  | cons p s=>
   obtain⟨x',y',n'⟩:=p
   simp [eqEn] at h
   rw [eqV_spec x _ h.1.1.1,eqV_spec y _ h.1.1.2,h.1.2,eqEn_spec h.2]
def eqBlk:Blk→Blk→Bool
 | .cells a,b=>match b with | .cells b=>eqVL a b | _=>false
 | .map a m,b=>match b with | .map b n=>eqEn a b&&Nat.beq m n | _=>false
 | .dead,b=>match b with | .dead=>true | _=>false
 | .siter a m,b=>match b with | .siter a' m'=>decide (a=a')&&Nat.beq m m' | _=>false
 | .miter a x s l,b=>match b with | .miter a' x' s' l'=>decide (a=a')&&Nat.beq x x' && decide (s=s')&&Nat.beq l l' | _=>false
 | .raw m,b=>match b with | .raw n=>Nat.beq m n | _=>false
theorem eqBlk_spec {a b:Blk} (h:eqBlk a b=true):a=b:=by
 cases a<;>cases b<;>simp [eqBlk] at h
 case cells.cells=>rw [eqVL_spec _ _ h]
 case map.map=>rw [eqEn_spec h.1,h.2]
 case dead.dead=>rfl
 case siter.siter=>rw [h.1,h.2]
 case miter.miter=>rw [h.1.1.1,h.1.1.2,h.1.2,h.2]
 case raw.raw=>rw [h]
def eqBlkL:List Blk→List Blk→Bool
 | [],l=>match l with | []=>true | _=>false
 | a::r,l=>match l with | b::s=>eqBlk a b&&eqBlkL r s | _=>false
theorem eqBlkL_spec:∀ {a b:List Blk},eqBlkL a b=true→a=b
 | [],b,h=>by cases b<;>simp [eqBlkL] at h;rfl
 | a::r,b,h=>by
  cases b<;>simp [eqBlkL] at h
  rw [eqBlk_spec h.1,eqBlkL_spec h.2]
def eqSt (a b:St):Bool:=eqBlkL a.H b.H&&decide (a.T=b.T)
theorem eqSt_spec {a b:St} (h:eqSt a b=true):a=b:=by
 simp only [eqSt,Bool.and_eq_true,decide_eq_true_eq] at h
 cases a;cases b
 simp only at h
 rw [eqBlkL_spec h.1,h.2]
def dstsOf (ops:Array Oper):List Nat:=ops.toList.filterMap (·.dst)
def eqDs (e f:Env):List Nat→Bool
 | []=>true
 | t::r=>eqV (e t) (f t)&&eqDs e f r
theorem eqDs_spec {e f:Env}:∀ {l:List Nat},eqDs e f l=true→∀ t∈l,e t=f t
 | [],_,t,ht=>by simp at ht
 | a::r,h,t,ht=>by
  simp only [eqDs,Bool.and_eq_true] at h
  rcases List.mem_cons.1 ht with rfl|ht
  · exact eqV_spec _ _ h.1
  · exact eqDs_spec h.2 t ht
def samePt (ds:List Nat) (p q:Env×St):Bool:=eqDs p.1 q.1 ds&&eqSt p.2 q.2
def anyPt (ds:List Nat) (p:Env×St):List (Env×St)→Bool
 | []=>false
 | q::r=>match samePt ds p q with | true=>true | false=>anyPt ds p r
def dedupPt (ds:List Nat):List (Env×St)→List (Env×St)
 | []=>[]
 | p::r=>match dedupPt ds r with
  | r'=>match anyPt ds p r' with
   | true=>r'
   | false=>p::r'
theorem anyPt_spec {ds:List Nat} {p:Env×St}:∀ {l:List (Env×St)},anyPt ds p l=true→∃ q∈l,samePt ds p q=true
 | [],h=>by simp [anyPt] at h
 | q::r,h=>by
  simp only [anyPt] at h
  split at h
  · rename_i hs;exact⟨q,List.mem_cons_self,hs⟩
  · obtain⟨x,hx,hy⟩:=anyPt_spec h;exact⟨x,List.mem_cons_of_mem _ hx,hy⟩
theorem dedupPt_spec {ds:List Nat}:∀ {l:List (Env×St)} {env:Env},(∀ p∈l,∀ t,t∉ds→p.1 t=env t)→∀ p∈l,p∈dedupPt ds l
 | [],env,h,p,hp=>by simp at hp
 | q::r,env,h,p,hp=>by
  have ih:=dedupPt_spec (l:=r) fun p hp=>h p (List.mem_cons_of_mem _ hp)
  have hsub:∀ x∈dedupPt ds r,x∈r:=by
   have:∀ l:List (Env×St),∀ x∈dedupPt ds l,x∈l:=by
    intro l
    induction l with
    | nil=>intro x hx;simp [dedupPt] at hx
    | cons a l ih2=>
     intro x hx
     simp only [dedupPt] at hx
     split at hx
     · exact List.mem_cons_of_mem _ (ih2 x hx)
     · rcases List.mem_cons.1 hx with rfl|hx
       · exact List.mem_cons_self
       · exact List.mem_cons_of_mem _ (ih2 x hx)
   exact this r
  simp only [dedupPt]
  split
  · rename_i ha
    rcases List.mem_cons.1 hp with rfl|hp
    · obtain⟨x,hx,hs⟩:=anyPt_spec ha
      simp only [samePt,Bool.and_eq_true] at hs
      have he:p=x:=by
       obtain⟨e,σ⟩:=p
       obtain⟨f,τ⟩:=x
       simp only at hs
       rw [eqSt_spec hs.2]
       congr 1
       funext t
       by_cases ht:t∈ds
       · exact eqDs_spec hs.1 t ht
       · have h1:=h (e,σ) List.mem_cons_self t ht
         have h2:=h (f,τ) (List.mem_cons_of_mem _ (hsub _ hx)) t ht
         simp only at h1 h2
         rw [h1,h2]
      rw [he];exact hx
    · exact ih p hp
  · rcases List.mem_cons.1 hp with rfl|hp
    · exact List.mem_cons_self
    · exact List.mem_cons_of_mem _ (ih p hp)
mutual
def runS (D:Nat→Option TI) (G:Nat→AV) (call:CallT) (mu:Bool) (ac:List Nat) (ops:Array Oper):Sch→Env→St→Option (List (Env×St))
 | .done,env,σ=>some [(env,σ)]
 | .step k _ s,env,σ=>match ops[k]? with
  | some o=>match runG D G call mu (clsB mu ac k o.op != 9) ops o env σ with
   | some l=>bindO l fun p=>runS D G call mu ac ops s (upd env o.dst p.1) p.2
   | none=>none
  | none=>none
 | .fork a,env,σ=>runAlts D G call mu ac ops a env σ
def runAlts (D:Nat→Option TI) (G:Nat→AV) (call:CallT) (mu:Bool) (ac:List Nat) (ops:Array Oper):Alts→Env→St→Option (List (Env×St))
 | .nil,_,_=>some []
 | .cons k s r,env,σ=>match ops[k]? with
  | some o=>match runG D G call mu (clsB mu ac k o.op != 9) ops o env σ with
   | some l=>match bindO l fun p=>runS D G call mu ac ops s (upd env o.dst p.1) p.2 with
    | some x=>match runAlts D G call mu ac ops r env σ with
     | some y=>some (x++y)
     | none=>none
    | none=>none
   | none=>none
  | none=>none
end
/-- The slots, laid out anew. -/
def nthA:List AV→Nat→AV
 | [],_=>.any
 | a::r,i=>match i with
  | 0=>a
  | i+1=>nthA r i
def forceE {β:Type} (env:Env) (n:Nat):List AV→(List AV→β)→β :=
 Nat.rec (fun acc k=>k acc) (fun i ih acc k=>forceAV (env i) fun v=>ih (v::acc) k) n
def packE (n:Nat) (env:Env) (l:List AV):Env:=fun i=>match Nat.blt i n with
 | true=>nthA l i
 | false=>env i
theorem nthA_eq:∀ (l:List AV) (i:Nat),nthA l i=l.getD i .any
 | [],i=>by simp [nthA]
 | a::r,0=>rfl
 | a::r,i+1=>by simp [nthA,nthA_eq r i]
theorem forceE_eq {β:Type} (env:Env) (k:List AV→β):∀ (n:Nat) (acc:List AV),forceE env n acc k=k ((List.range n).map env++acc)
 | 0,acc=>rfl
 | n+1,acc=>by
  have:forceE env (n+1) acc k=forceAV (env n) fun v=>forceE env n (v::acc) k:=rfl
  rw [this,forceAV_eq,forceE_eq env k n,List.range_succ]
  simp
theorem packE_eq {β:Type} (n:Nat) (env:Env) (k:Env→β):(forceE env n [] fun l=>k (packE n env l))=k env:=by
 rw [forceE_eq]
 congr 1
 funext i
 simp only [packE,List.append_nil]
 split
 · rename_i h
   rw [Nat.blt_eq] at h
   rw [nthA_eq,List.getD_eq_getElem?_getD,List.getElem?_map,List.getElem?_range h]
   rfl
 · rfl
def loopN (nn:Nat) (body:Env→St→Option (List OutR)) (n:Nat):Env→St→Option (List OutR) :=
 Nat.rec (fun _ _=>none) (fun _ ih env σ=>match body env σ with
  | some l=>bindO l fun p=>match p.1 with
   | .normal=>forceE p.2.1 nn [] fun l=>ih (packE nn p.2.1 l) p.2.2
   | _=>some [p]
  | none=>none) n
def runRounds (A B:Env→St→Option (List OutR)) (k b pi pe:Nat) (env:Env) (n:Nat):St→Option (List St) :=
 Nat.rec (fun σ=>some [σ]) (fun i ih σ=>match σ.H[b]? with
  | some (.cells [.sl sz rows _])=>match Nat.beq sz k,rows[i]? with
   | true,some r=>match A (upd (upd env (some pi) (.int .i64 (.ofNat i))) (some pe) (.agg r)) σ with
    | some l=>bindO l fun p=>match p.1 with
     | .normal=>match B p.2.1 p.2.2 with
      | some l2=>bindO l2 fun p2=>match p2.1 with
       | .normal=>ih p2.2.2
       | _=>none
      | none=>none
     | _=>none
    | none=>none
   | _,_=>none
  | _=>none) n
def runC (D:Nat→Option TI) (G:Nat→AV) (call:CallT) (m nn:Nat) (o:Opts):Code→Env→St→Option (List OutR)
 | .skip,env,σ=>some [(.normal,env,σ)]
 | .ret,env,σ=>some [(.ret,env,σ)]
 | .exit id,env,σ=>some [(.exit id,env,σ)]
 | .seq x y,env,σ=>match runC D G call m nn o x env σ with
  | some l=>bindO l fun p=>match p.1 with
   | .normal=>runC D G call m nn o y p.2.1 p.2.2
   | _=>some [p]
  | none=>none
 | .cond c x y,env,σ=>match ev G env c with
  | .bool true=>runC D G call m nn o x env σ
  | .bool false=>runC D G call m nn o y env σ
  | _=>none
 | .block id c,env,σ=>match runC D G call m nn o c env σ with
  | some l=>bindO l fun p=>match p.1 with
   | .exit i=>match Nat.beq i id with
    | true=>some [(.normal,p.2.1,p.2.2)]
    | false=>some [p]
   | _=>some [p]
  | none=>none
 | .region id ops d,env,σ=>match (match d with | true=>o.fk.lookup id | false=>none) with
  | some (s,ac)=>match runS D G call o.mu ac ops s env σ with
   | some l=>bindO (dedupPt (dstsOf ops) l) fun p=>some [(.normal,p.1,p.2)]
   | none=>none
  | none=>match runR D G call o.mu ops d (o.lw.contains id) ops.toList env σ with
   | some l=>bindO l fun p=>some [(.normal,p.1,p.2)]
   | none=>none
 | .loop c,env,σ=>loopN nn (fun env σ=>runC D G call m nn o c env σ) m env σ
 | .rangeFunc g ps x y,env,σ=>match ps.toList,ev G env g with
  | [pi,pe],.fn gb [] [.ptr b 0]=>match o.bw.lookup gb with
   | some k=>match σ.H[b]? with
    | some (.cells [.sl _ rows _])=>match Nat.blt rows.length 4611686018427387904,runRounds (fun env σ=>runC D G call m nn o x env σ) (fun env σ=>runC D G call m nn o y env σ) k b pi pe env rows.length σ with
     | true,some l=>bindO l fun σ=>some [(.normal,env,σ)]
     | _,_=>none
    | _=>none
   | none=>none
  | _,_=>none
 | .label _,env,σ=>some [(.normal,env,σ)]
 | .scope c,env,σ=>match runC D G call m nn o c env σ with
  | some l=>bindO l fun p=>match p.1 with
   | .goto _=>none
   | _=>some [p]
  | none=>none
 | _,_,_=>none
/-- The results of a pure function's body: one and the same at every end. -/
def endOf (D:Nat→Option TI) (rs:List ResultVar) (o:OutR):Option AV:=match o.1 with
 | .ret | .normal=>match resA D rs o.2.1 o.2.2 with
  | some l=>some (tupA l)
  | none=>none
 | _=>none
mutual
def eqA:AV→AV→Bool
 | .bool a,.bool b=>a==b
 | .int k n,.int k' n'=>decide (k=k')&&decide (n=n')
 | .str a,.str b=>decide (a=b)
 | .nilp,.nilp=>true
 | .nilm,.nilm=>true
 | .nilf,.nilf=>true
 | .sl s r .none,.sl s' r' .none=>Nat.beq s s' && eqAR r r'
 | .sl s r .nil,.sl s' r' .nil=>Nat.beq s s' && eqAR r r'
 | .sl s r .tight,.sl s' r' .tight=>Nat.beq s s' && eqAR r r'
 | .rptr c,.rptr c'=>eqAL c c'
 | .agg c,.agg c'=>eqAL c c'
 | .tup c,.tup c'=>eqAL c c'
 | _,_=>false
def eqAL:List AV→List AV→Bool
 | [],[]=>true
 | a::r,b::s=>eqA a b&&eqAL r s
 | _,_=>false
def eqAR:List (List AV)→List (List AV)→Bool
 | [],[]=>true
 | a::r,b::s=>eqAL a b&&eqAR r s
 | _,_=>false
end
mutual
theorem eqA_spec:∀ (a b:AV),eqA a b=true→a=b
 | .bool a,.bool b,h=>by simp [eqA] at h;rw [h]
 | .int k n,.int k' n',h=>by simp [eqA] at h;rw [h.1,h.2]
 | .str a,.str b,h=>by simp [eqA] at h;rw [h]
 | .nilp,.nilp,_=>rfl
 | .nilm,.nilm,_=>rfl
 | .nilf,.nilf,_=>rfl
 | .sl s r .none,.sl s' r' .none,h=>by
  simp only [eqA,Bool.and_eq_true] at h
  rw [Nat.eq_of_beq_eq_true h.1,eqAR_spec r r' h.2]
 | .sl s r .nil,.sl s' r' .nil,h=>by
  simp only [eqA,Bool.and_eq_true] at h
  rw [Nat.eq_of_beq_eq_true h.1,eqAR_spec r r' h.2]
 | .sl s r .tight,.sl s' r' .tight,h=>by
  simp only [eqA,Bool.and_eq_true] at h
  rw [Nat.eq_of_beq_eq_true h.1,eqAR_spec r r' h.2]
 | .rptr c,.rptr c',h=>by simp only [eqA] at h;rw [eqAL_spec c c' h]
 | .agg c,.agg c',h=>by simp only [eqA] at h;rw [eqAL_spec c c' h]
 | .tup c,.tup c',h=>by simp only [eqA] at h;rw [eqAL_spec c c' h]
 | .any,b,h=>by cases b<;>simp [eqA] at h
 | .ptr ..,b,h=>by cases b<;>simp [eqA] at h
 | .ms ..,b,h=>by cases b<;>simp [eqA] at h
 | .map ..,b,h=>by cases b<;>simp [eqA] at h
 | .iter ..,b,h=>by cases b<;>simp [eqA] at h
 | .fn ..,b,h=>by cases b<;>simp [eqA] at h
 | .sl s r (.chain ..),b,h=>by cases b<;>simp [eqA] at h
 | .bool _,.int ..,h | .bool _,.str ..,h | .bool _,.nilp,h | .bool _,.nilm,h | .bool _,.nilf,h | .bool _,.sl ..,h | .bool _,.rptr ..,h | .bool _,.agg ..,h | .bool _,.tup ..,h | .bool _,.any,h | .bool _,.ptr ..,h | .bool _,.ms ..,h | .bool _,.map ..,h | .bool _,.iter ..,h | .bool _,.fn ..,h=>by simp [eqA] at h
 | .int ..,.bool ..,h | .int ..,.str ..,h | .int ..,.nilp,h | .int ..,.nilm,h | .int ..,.nilf,h | .int ..,.sl ..,h | .int ..,.rptr ..,h | .int ..,.agg ..,h | .int ..,.tup ..,h | .int ..,.any,h | .int ..,.ptr ..,h | .int ..,.ms ..,h | .int ..,.map ..,h | .int ..,.iter ..,h | .int ..,.fn ..,h=>by simp [eqA] at h
 | .str ..,.bool ..,h | .str ..,.int ..,h | .str ..,.nilp,h | .str ..,.nilm,h | .str ..,.nilf,h | .str ..,.sl ..,h | .str ..,.rptr ..,h | .str ..,.agg ..,h | .str ..,.tup ..,h | .str ..,.any,h | .str ..,.ptr ..,h | .str ..,.ms ..,h | .str ..,.map ..,h | .str ..,.iter ..,h | .str ..,.fn ..,h=>by simp [eqA] at h
 | .nilp,.bool ..,h | .nilp,.int ..,h | .nilp,.str ..,h | .nilp,.nilm,h | .nilp,.nilf,h | .nilp,.sl ..,h | .nilp,.rptr ..,h | .nilp,.agg ..,h | .nilp,.tup ..,h | .nilp,.any,h | .nilp,.ptr ..,h | .nilp,.ms ..,h | .nilp,.map ..,h | .nilp,.iter ..,h | .nilp,.fn ..,h=>by simp [eqA] at h
 | .nilm,.bool ..,h | .nilm,.int ..,h | .nilm,.str ..,h | .nilm,.nilp,h | .nilm,.nilf,h | .nilm,.sl ..,h | .nilm,.rptr ..,h | .nilm,.agg ..,h | .nilm,.tup ..,h | .nilm,.any,h | .nilm,.ptr ..,h | .nilm,.ms ..,h | .nilm,.map ..,h | .nilm,.iter ..,h | .nilm,.fn ..,h=>by simp [eqA] at h
 | .nilf,.bool ..,h | .nilf,.int ..,h | .nilf,.str ..,h | .nilf,.nilp,h | .nilf,.nilm,h | .nilf,.sl ..,h | .nilf,.rptr ..,h | .nilf,.agg ..,h | .nilf,.tup ..,h | .nilf,.any,h | .nilf,.ptr ..,h | .nilf,.ms ..,h | .nilf,.map ..,h | .nilf,.iter ..,h | .nilf,.fn ..,h=>by simp [eqA] at h
 | .rptr ..,.bool ..,h | .rptr ..,.int ..,h | .rptr ..,.str ..,h | .rptr ..,.nilp,h | .rptr ..,.nilm,h | .rptr ..,.nilf,h | .rptr ..,.sl ..,h | .rptr ..,.agg ..,h | .rptr ..,.tup ..,h | .rptr ..,.any,h | .rptr ..,.ptr ..,h | .rptr ..,.ms ..,h | .rptr ..,.map ..,h | .rptr ..,.iter ..,h | .rptr ..,.fn ..,h=>by simp [eqA] at h
 | .agg ..,.bool ..,h | .agg ..,.int ..,h | .agg ..,.str ..,h | .agg ..,.nilp,h | .agg ..,.nilm,h | .agg ..,.nilf,h | .agg ..,.sl ..,h | .agg ..,.rptr ..,h | .agg ..,.tup ..,h | .agg ..,.any,h | .agg ..,.ptr ..,h | .agg ..,.ms ..,h | .agg ..,.map ..,h | .agg ..,.iter ..,h | .agg ..,.fn ..,h=>by simp [eqA] at h
 | .tup ..,.bool ..,h | .tup ..,.int ..,h | .tup ..,.str ..,h | .tup ..,.nilp,h | .tup ..,.nilm,h | .tup ..,.nilf,h | .tup ..,.sl ..,h | .tup ..,.rptr ..,h | .tup ..,.agg ..,h | .tup ..,.any,h | .tup ..,.ptr ..,h | .tup ..,.ms ..,h | .tup ..,.map ..,h | .tup ..,.iter ..,h | .tup ..,.fn ..,h=>by simp [eqA] at h
 | .sl s r .none,.bool ..,h | .sl s r .none,.int ..,h | .sl s r .none,.str ..,h | .sl s r .none,.nilp,h | .sl s r .none,.nilm,h | .sl s r .none,.nilf,h | .sl s r .none,.rptr ..,h | .sl s r .none,.agg ..,h | .sl s r .none,.tup ..,h | .sl s r .none,.any,h | .sl s r .none,.ptr ..,h | .sl s r .none,.ms ..,h | .sl s r .none,.map ..,h | .sl s r .none,.iter ..,h | .sl s r .none,.fn ..,h=>by simp [eqA] at h
 | .sl s r .nil,.bool ..,h | .sl s r .nil,.int ..,h | .sl s r .nil,.str ..,h | .sl s r .nil,.nilp,h | .sl s r .nil,.nilm,h | .sl s r .nil,.nilf,h | .sl s r .nil,.rptr ..,h | .sl s r .nil,.agg ..,h | .sl s r .nil,.tup ..,h | .sl s r .nil,.any,h | .sl s r .nil,.ptr ..,h | .sl s r .nil,.ms ..,h | .sl s r .nil,.map ..,h | .sl s r .nil,.iter ..,h | .sl s r .nil,.fn ..,h=>by simp [eqA] at h
 | .sl s r .tight,.bool ..,h | .sl s r .tight,.int ..,h | .sl s r .tight,.str ..,h | .sl s r .tight,.nilp,h | .sl s r .tight,.nilm,h | .sl s r .tight,.nilf,h | .sl s r .tight,.rptr ..,h | .sl s r .tight,.agg ..,h | .sl s r .tight,.tup ..,h | .sl s r .tight,.any,h | .sl s r .tight,.ptr ..,h | .sl s r .tight,.ms ..,h | .sl s r .tight,.map ..,h | .sl s r .tight,.iter ..,h | .sl s r .tight,.fn ..,h=>by simp [eqA] at h
 | .sl s r .none,.sl s' r' .nil,h | .sl s r .none,.sl s' r' .tight,h | .sl s r .none,.sl s' r' (.chain ..),h=>by simp [eqA] at h
 | .sl s r .nil,.sl s' r' .none,h | .sl s r .nil,.sl s' r' .tight,h | .sl s r .nil,.sl s' r' (.chain ..),h=>by simp [eqA] at h
 | .sl s r .tight,.sl s' r' .none,h | .sl s r .tight,.sl s' r' .nil,h | .sl s r .tight,.sl s' r' (.chain ..),h=>by simp [eqA] at h
theorem eqAL_spec:∀ (a b:List AV),eqAL a b=true→a=b
 | [],[],_=>rfl
 | a::r,b::s,h=>by
  simp only [eqAL,Bool.and_eq_true] at h
  rw [eqA_spec a b h.1,eqAL_spec r s h.2]
 | [],_::_,h=>by simp [eqAL] at h
 | _::_,[],h=>by simp [eqAL] at h
theorem eqAR_spec:∀ (a b:List (List AV)),eqAR a b=true→a=b
 | [],[],_=>rfl
 | a::r,b::s,h=>by
  simp only [eqAR,Bool.and_eq_true] at h
  rw [eqAL_spec a b h.1,eqAR_spec r s h.2]
 | [],_::_,h=>by simp [eqAR] at h
 | _::_,[],h=>by simp [eqAR] at h
end
/-- A pure function's result, the same at every end. -/
def oneOf (D:Nat→Option TI) (rs:List ResultVar):List OutR→Option AV
 | []=>none
 | o::r=>match endOf D rs o with
  | some v=>match frz o.2.2.H 8 v with
   | u=>match noRef u&&r.all (fun o'=>match endOf D rs o' with | some v'=>eqA (frz o'.2.2.H 8 v') u | none=>false) with
    | true=>some u
    | false=>none
  | none=>none
/-- A function's body and its number of slots, its results, how it is looked at; 'sh': it is run in the caller's state even if nothing is handed over. -/
structure Bod where
 n:Nat
 c:Code
 rs:List ResultVar
 o:Opts
 sh:Bool
/-- Calls. 'F': the functions that are entered; 'C': contracts that are known. -/
def callStep (D:Nat→Option TI) (G:Nat→AV) (F:Nat→Option Bod) (C:FuncId→List AV→Option AV) (m:Nat) (ih:CallT):CallT:=fun d g args σ=>match F g with
 | none=>match noRefs args with
  | true=>match C g args with
   | some r=>some [(r,σ)]
   | none=>none
  | false=>none
 | some b=>match Nat.ble args.length b.n with
  | false=>none
  | true=>match noRefs (args.map plain)&&!b.sh with
   | true=>match runC D G ih m b.n b.o b.c (envOf (args.map plain)) ⟨[],[]⟩ with
    | some l=>match oneOf D b.rs l with
     | some r=>forceAV r fun r=>some [(r,σ)]
     | none=>none
    | none=>none
   | false=>match d with
    | true=>match runC D G ih m b.n b.o b.c (envOf (args.map (frz σ.H 8))) ⟨[],[]⟩ with
     | some l=>match oneOf D b.rs l with
      | some r=>match bare r with
       | true=>forceAV r fun r=>some [(r,σ)]
       | false=>none
      | none=>none
     | none=>none
    | false=>match runC D G ih m b.n b.o b.c (envOf args) σ with
     | some l=>bindO l fun o=>match endOf D b.rs o with
      | some v=>some [(v,o.2.2)]
      | none=>none
     | none=>none
def callN (D:Nat→Option TI) (G:Nat→AV) (F:Nat→Option Bod) (C:FuncId→List AV→Option AV) (m:Nat) (n:Nat):CallT :=
 Nat.rec (fun _ _ _ _=>none) (fun _ ih=>callStep D G F C m ih) n
section
variable {P:Program} {G:Nat→AV}
/-- What is asked of the calls. -/
def CallOk (P:Program) (G:Nat→AV) (call:CallT):Prop:=∀ d g args σ l,call d g args σ=some l→∀ Q:AV→St→Prop,(∀ v σ',(v,σ')∈l→Q v σ')→vcCall P G d g args σ Q
theorem semO_sound {mu d:Bool} {op:Op} {env:Env} {σ:St} {l:List (AV×St)} (h:semO (Dof P) G mu d env σ op=some l) {Q:AV→St→Prop} (hq:∀ v σ',(v,σ')∈l→Q v σ') :
 vcX (pickX d (semX (Dof P) G mu env σ op)) (sem (Dof P) G env σ op) Q:=by
 have fin:(match sem (Dof P) G env σ op with | some p=>some [p] | none=>none)=some l→vcX none (sem (Dof P) G env σ op) Q:=by
  intro h1
  unfold vcX
  simp only
  cases hs:sem (Dof P) G env σ op with
  | none=>rw [hs] at h1;cases h1
  | some p=>
   obtain⟨v,σ'⟩:=p
   rw [hs] at h1
   cases h1
   exact hq v σ' (List.mem_singleton.2 rfl)
 cases d with
 | true=>exact fin h
 | false=>
  simp only [semO,pickX] at h ⊢
  cases hx:semX (Dof P) G mu env σ op with
  | none=>rw [hx] at h;exact fin h
  | some l2=>
   rw [hx] at h
   cases h
   exact hq
theorem runOp_sound {call:CallT} (hc:CallOk P G call) {mu d:Bool} {op:Op} {env:Env} {σ:St} {l:List (AV×St)} (h:runOp (Dof P) G call mu d op env σ=some l) {Q:AV→St→Prop} (hq:∀ v σ',(v,σ')∈l→Q v σ'):vcOp P G mu d op env σ Q:=by
 by_cases hop:∃ f args ts,op=.call { callee:=.value f,args:=args,argTypes:=ts }
 · obtain⟨f,args,ts,rfl⟩:=hop
   simp only [runOp] at h
   simp only [vcOp]
   cases hf:ev G env f with
   | fn g first cap=>
    rw [hf] at h
    simp only [forceVs_eq] at h
    exact hc _ _ _ _ _ h Q hq
   | _=>rw [hf] at h;cases h
 · rw [vcOp.plain hop]
   have h':(match semO (Dof P) G mu d env σ op with
    | some l=>forceOut l fun l=>some l
    | none=>none)=some l:=by
    unfold runOp at h
    split at h
    · exact absurd ⟨_,_,_,rfl⟩ hop
    · simp only [forceQ_eq,forceOut_eq] at h ⊢
      revert h
      cases semO (Dof P) G mu d env σ op with
      | none=>exact id
      | some l=>cases quietOp op<;>exact id
   split at h'
   · rename_i l1 h1
     rw [forceOut_eq] at h'
     cases h'
     exact semO_sound h1 hq
   · cases h'
theorem runG_sound {call:CallT} (hc:CallOk P G call) {mu d:Bool} {ops:Array Oper} {o:Oper} {env:Env} {σ:St} {l:List (AV×St)} (h:runG (Dof P) G call mu d ops o env σ=some l) {k:Env→AV→St→Prop} (hq:∀ v σ',(v,σ')∈l→k env v σ'):vcG P G mu d ops o env σ k:=by
 unfold runG at h
 unfold vcG
 split at h
 · rename_i hg
   simp only [hg]
   exact runOp_sound hc h hq
 · rename_i j b hg
   simp only [hg]
   split at h
   · rename_i t ht
     simp only [ht]
     split at h
     · rename_i c hcb
       simp only [hcb]
       split at h
       · rename_i hb
         have hcb':c=b:=by simpa using hb
         subst hcb'
         refine⟨fun _=>?_,fun e=>by simp at e⟩
         rw [upd_same hcb]
         exact runOp_sound hc h hq
       · rename_i hb
         refine⟨fun e=>(by rw [hb] at e;cases e),fun _=>?_⟩
         have:(!b)=c:=by cases c<;>cases b<;>simp_all
         rw [this,upd_same hcb]
         cases h
         exact hq _ _ (List.mem_singleton.2 rfl)
     · rename_i hcb
       simp only [hcb]
       cases h
       exact hq _ _ (List.mem_singleton.2 rfl)
     · cases h
   · rename_i ht
     simp only [ht]
     cases h
     exact hq _ _ (List.mem_singleton.2 rfl)
theorem runR_sound {call:CallT} (hc:CallOk P G call) {mu:Bool} {ops:Array Oper} {d lw:Bool} :
 ∀ (rest:List Oper) {env:Env} {σ:St} {l:List (Env×St)},runR (Dof P) G call mu ops d lw rest env σ=some l→∀ {Q:Env→St→Prop},(∀ p∈l,Q p.1 p.2)→vcR P G mu ops d lw rest env σ Q
 | [],env,σ,l,h,Q,hq=>by
  simp only [runR,Option.some.injEq] at h
  subst h
  simp only [vcR]
  exact hq _ (List.mem_singleton.2 rfl)
 | o::rest,env,σ,l,h,Q,hq=>by
  simp only [runR] at h
  simp only [vcR]
  split at h
  · rename_i l1 h1
    refine runG_sound hc h1 fun v σ' hm=>?_
    obtain⟨x,e1,e2⟩:=bindO_spec h _ hm
    exact runR_sound hc rest e1 fun p hp=>hq p (e2 p hp)
  · cases h
mutual
theorem runS_sound {call:CallT} (hc:CallOk P G call) {mu:Bool} {ac:List Nat} {ops:Array Oper} :
 ∀ (s:Sch) {env:Env} {σ:St} {l:List (Env×St)},runS (Dof P) G call mu ac ops s env σ=some l→∀ {Q:Env→St→Prop},(∀ p∈l,Q p.1 p.2)→vcS P G mu ac ops s env σ Q
 | .done,env,σ,l,h,Q,hq=>by
  simp only [runS,Option.some.injEq] at h
  subst h
  simp only [vcS]
  exact hq _ (List.mem_singleton.2 rfl)
 | .step k dp s,env,σ,l,h,Q,hq=>by
  simp only [runS] at h
  simp only [vcS]
  split at h
  · rename_i o ho
    simp only [ho]
    split at h
    · rename_i l1 h1
      refine runG_sound hc h1 fun v σ' hm=>?_
      obtain⟨x,e1,e2⟩:=bindO_spec h _ hm
      exact runS_sound hc s e1 fun p hp=>hq p (e2 p hp)
    · cases h
  · cases h
 | .fork a,env,σ,l,h,Q,hq=>by
  simp only [runS] at h
  simp only [vcS]
  exact runAlts_sound hc a h hq
theorem runAlts_sound {call:CallT} (hc:CallOk P G call) {mu:Bool} {ac:List Nat} {ops:Array Oper} :
 ∀ (a:Alts) {env:Env} {σ:St} {l:List (Env×St)},runAlts (Dof P) G call mu ac ops a env σ=some l→∀ {Q:Env→St→Prop},(∀ p∈l,Q p.1 p.2)→vcAlts P G mu ac ops a env σ Q
 | .nil,env,σ,l,h,Q,hq=>by simp only [vcAlts]
 | .cons k s r,env,σ,l,h,Q,hq=>by
  simp only [runAlts] at h
  simp only [vcAlts]
  split at h
  · rename_i o ho
    simp only [ho]
    split at h
    · rename_i l1 h1
      split at h
      · rename_i x hx
        split at h
        · rename_i y hy
          simp only [Option.some.injEq] at h
          subst h
          refine⟨runG_sound hc h1 fun v σ' hm=>?_,runAlts_sound hc r hy fun p hp=>hq p (List.mem_append_right _ hp)⟩
          obtain⟨z,e1,e2⟩:=bindO_spec hx _ hm
          exact runS_sound hc s e1 fun p hp=>hq p (List.mem_append_left _ (e2 p hp))
        · cases h
      · cases h
    · cases h
  · cases h
end
theorem upd_out {ops:Array Oper} {k:Nat} {o:Oper} (ho:ops[k]?=some o) {env:Env} {v:AV} {t:Nat} (ht:t∉dstsOf ops):upd env o.dst v t=env t:=by
 cases hd:o.dst with
 | none=>rfl
 | some d=>
  simp only [upd]
  split
  · rename_i e
    refine absurd ?_ ht
    subst e
    refine List.mem_filterMap.2 ⟨o,?_,hd⟩
    exact List.mem_of_getElem? (l:=ops.toList) (i:=k) (by simpa using ho)
  · rfl
theorem bindO_mem {α β:Type} {f:α→Option (List β)}:∀ {l:List α} {m:List β},bindO l f=some m→∀ b∈m,∃ a∈l,∃ x,f a=some x∧b∈x
 | [],m,h,b,hb=>by simp [bindO] at h;subst h;simp at hb
 | [a],m,h,b,hb=>⟨a,List.mem_cons_self,m,h,hb⟩
 | a::a2::r,m,h,b,hb=>by
  simp only [bindO] at h
  split at h
  · rename_i x y hx hy
    simp only [Option.some.injEq] at h
    subst h
    rcases List.mem_append.1 hb with hb|hb
    · exact⟨a,List.mem_cons_self,x,hx,hb⟩
    · obtain⟨a',h1,h2⟩:=bindO_mem hy b hb
      exact⟨a',List.mem_cons_of_mem _ h1,h2⟩
  · cases h
mutual
theorem runS_out {D:Nat→Option TI} {call:CallT} {mu:Bool} {ac:List Nat} {ops:Array Oper} :
 ∀ (s:Sch) {env:Env} {σ:St} {l:List (Env×St)},runS D G call mu ac ops s env σ=some l→∀ p∈l,∀ t,t∉dstsOf ops→p.1 t=env t
 | .done,env,σ,l,h,p,hp,t,ht=>by
  simp only [runS,Option.some.injEq] at h
  subst h
  rw [List.mem_singleton.1 hp]
 | .step k dp s,env,σ,l,h,p,hp,t,ht=>by
  simp only [runS] at h
  split at h
  · rename_i o ho
    split at h
    · rename_i l1 h1
      obtain⟨q,hq,x,e1,e2⟩:=bindO_mem h p hp
      rw [runS_out s e1 p e2 t ht,upd_out ho ht]
    · cases h
  · cases h
 | .fork a,env,σ,l,h,p,hp,t,ht=>by
  simp only [runS] at h
  exact runAlts_out a h p hp t ht
theorem runAlts_out {D:Nat→Option TI} {call:CallT} {mu:Bool} {ac:List Nat} {ops:Array Oper} :
 ∀ (a:Alts) {env:Env} {σ:St} {l:List (Env×St)},runAlts D G call mu ac ops a env σ=some l→∀ p∈l,∀ t,t∉dstsOf ops→p.1 t=env t
 | .nil,env,σ,l,h,p,hp,t,ht=>by
  simp only [runAlts,Option.some.injEq] at h
  subst h
  simp at hp
 | .cons k s r,env,σ,l,h,p,hp,t,ht=>by
  simp only [runAlts] at h
  split at h
  · rename_i o ho
    split at h
    · rename_i l1 h1
      split at h
      · rename_i x hx
        split at h
        · rename_i y hy
          simp only [Option.some.injEq] at h
          subst h
          rcases List.mem_append.1 hp with hp|hp
          · obtain⟨q,hq,x',e1,e2⟩:=bindO_mem hx p hp
            rw [runS_out s e1 p e2 t ht,upd_out ho ht]
          · exact runAlts_out r hy p hp t ht
        · cases h
      · cases h
    · cases h
  · cases h
end
theorem runRounds_sound {A B:Env→St→Option (List OutR)} {A' B':Env→St→(Exit→Env→St→Prop)→Prop} (hA:∀ {env σ l},A env σ=some l→∀ {Q:Exit→Env→St→Prop},(∀ p∈l,Q p.1 p.2.1 p.2.2)→A' env σ Q) (hB:∀ {env σ l},B env σ=some l→∀ {Q:Exit→Env→St→Prop},(∀ p∈l,Q p.1 p.2.1 p.2.2)→B' env σ Q) {k b pi pe:Nat} {env:Env} :
 ∀ (n:Nat) {σ:St} {l:List St},runRounds A B k b pi pe env n σ=some l→∀ {Q:St→Prop},(∀ σ∈l,Q σ)→rounds A' B' k b pi pe env n σ Q
 | 0,σ,l,h,Q,hq=>by
  have h':some [σ]=some l:=h
  cases h'
  simp only [rounds]
  exact hq σ (List.mem_singleton.2 rfl)
 | i+1,σ,l,h,Q,hq=>by
  have h':(match σ.H[b]? with
   | some (.cells [.sl sz rows _])=>match Nat.beq sz k,rows[i]? with
    | true,some r=>match A (upd (upd env (some pi) (.int .i64 (.ofNat i))) (some pe) (.agg r)) σ with
     | some l=>bindO l fun p=>match p.1 with
      | .normal=>match B p.2.1 p.2.2 with
       | some l2=>bindO l2 fun p2=>match p2.1 with
        | .normal=>runRounds A B k b pi pe env i p2.2.2
        | _=>none
       | none=>none
      | _=>none
     | none=>none
    | _,_=>none
   | _=>none)=some l:=h
  clear h
  simp only [rounds]
  split at h'
  · rename_i sz rows tok hb
    simp only [hb]
    split at h'
    · rename_i r hsz hr
      refine⟨Nat.eq_of_beq_eq_true hsz,?_⟩
      simp only [hr]
      split at h'
      · rename_i l1 h1
        refine hA h1 fun p hp=>?_
        obtain⟨u,e1,e2⟩:=bindO_spec h' p hp
        split at e1
        · rename_i hn
          refine⟨hn,?_⟩
          split at e1
          · rename_i l2 h2
            refine hB h2 fun p2 hp2=>?_
            obtain⟨u2,e3,e4⟩:=bindO_spec e1 p2 hp2
            split at e3
            · rename_i hn2
              exact⟨hn2,runRounds_sound hA hB i e3 fun σ hσ=>hq σ (e2 _ (e4 _ hσ))⟩
            · cases e3
          · cases e1
        · cases e1
      · cases h'
    · cases h'
  · cases h'
theorem runC_sound {call:CallT} (hc:CallOk P G call) {m nn:Nat} {o:Opts} (hbw:∀ g k,o.bw.lookup g=some k→BwOk P G g k) :
 ∀ (c:Code) {env:Env} {σ:St} {l:List OutR},runC (Dof P) G call m nn o c env σ=some l→∀ {Q:Exit→Env→St→Prop},(∀ p∈l,Q p.1 p.2.1 p.2.2)→vcC P G o c env σ Q
 | .skip,env,σ,l,h,Q,hq=>by
  simp only [runC,Option.some.injEq] at h;subst h
  simp only [vcC];exact hq _ (List.mem_singleton.2 rfl)
 | .ret,env,σ,l,h,Q,hq=>by
  simp only [runC,Option.some.injEq] at h;subst h
  simp only [vcC];exact hq _ (List.mem_singleton.2 rfl)
 | .exit id,env,σ,l,h,Q,hq=>by
  simp only [runC,Option.some.injEq] at h;subst h
  simp only [vcC];exact hq _ (List.mem_singleton.2 rfl)
 | .seq x y,env,σ,l,h,Q,hq=>by
  simp only [runC] at h
  simp only [vcC]
  split at h
  · rename_i l1 h1
    refine runC_sound hc hbw x h1 fun p hp=>?_
    obtain⟨u,e1,e2⟩:=bindO_spec h p hp
    obtain⟨e,env',σ'⟩:=p
    cases e with
    | normal=>exact runC_sound hc hbw y e1 fun p hp=>hq p (e2 p hp)
    | _=>simp only [Option.some.injEq] at e1;subst e1;exact hq _ (e2 _ (List.mem_singleton.2 rfl))
  · cases h
 | .cond c x y,env,σ,l,h,Q,hq=>by
  simp only [runC] at h
  simp only [vcC]
  split at h
  · rename_i hb
    rw [hb]
    exact⟨fun _=>runC_sound hc hbw x h hq,fun e=>(by cases e)⟩
  · rename_i hb
    rw [hb]
    exact⟨fun e=>(by cases e),fun _=>runC_sound hc hbw y h hq⟩
  · cases h
 | .block id c,env,σ,l,h,Q,hq=>by
  simp only [runC] at h
  simp only [vcC]
  split at h
  · rename_i l1 h1
    refine runC_sound hc hbw c h1 fun p hp=>?_
    obtain⟨u,e1,e2⟩:=bindO_spec h p hp
    obtain⟨e,env',σ'⟩:=p
    cases e with
    | exit i=>
     simp only [aBlock]
     simp only at e1
     split at e1
     · rename_i hb
       rw [if_pos (Nat.eq_of_beq_eq_true hb)]
       simp only [Option.some.injEq] at e1;subst e1
       exact hq _ (e2 _ (List.mem_singleton.2 rfl))
     · rename_i hb
       rw [if_neg (by intro e;subst e;simp at hb)]
       simp only [Option.some.injEq] at e1;subst e1
       exact hq _ (e2 _ (List.mem_singleton.2 rfl))
    | _=>simp only [Option.some.injEq] at e1;subst e1;exact hq _ (e2 _ (List.mem_singleton.2 rfl))
  · cases h
 | .region id ops d,env,σ,l,h,Q,hq=>by
  simp only [runC] at h
  have lex:∀ l1,runR (Dof P) G call o.mu ops d (o.lw.contains id) ops.toList env σ=some l1→(bindO l1 fun p=>some [((.normal,p.1,p.2):OutR)])=some l→vcR P G o.mu ops d (o.lw.contains id) ops.toList env σ (fun env σ=>Q .normal env σ):=by
   intro l1 h1 h2
   refine runR_sound hc ops.toList h1 fun p hp=>?_
   obtain⟨u,e1,e2⟩:=bindO_spec h2 p hp
   simp only [Option.some.injEq] at e1;subst e1
   exact hq _ (e2 _ (List.mem_singleton.2 rfl))
  cases d with
  | false=>
   simp only at h
   simp only [vcC]
   split at h
   · rename_i l1 h1;exact lex l1 h1 h
   · cases h
  | true=>
   simp only at h
   cases hl:o.fk.lookup id with
   | none=>
    rw [hl] at h
    simp only [vcC,hl]
    simp only at h
    split at h
    · rename_i l1 h1;exact lex l1 h1 h
    · cases h
   | some p=>
    obtain⟨s,ac⟩:=p
    rw [hl] at h
    simp only [vcC,hl]
    simp only at h
    split at h
    · rename_i l1 h1
      refine runS_sound hc s h1 fun p hp=>?_
      obtain⟨u,e1,e2⟩:=bindO_spec h p (dedupPt_spec (env:=env) (fun p hp t ht=>runS_out s h1 p hp t ht) p hp)
      simp only [Option.some.injEq] at e1;subst e1
      exact hq _ (e2 _ (List.mem_singleton.2 rfl))
    · cases h
 | .loop c,env,σ,l,h,Q,hq=>by
  simp only [runC] at h
  simp only [vcC]
  refine⟨fun n env σ=>∃ l',loopN nn (fun env σ=>runC (Dof P) G call m nn o c env σ) n env σ=some l'∧∀ p∈l',Q p.1 p.2.1 p.2.2,m,⟨l,h,hq⟩,?_⟩
  rintro n env σ ⟨l',h',hq'⟩
  cases n with
  | zero=>simp [loopN] at h'
  | succ n=>
   have h2:(match runC (Dof P) G call m nn o c env σ with
    | some l=>bindO l fun p=>match p.1 with
     | .normal=>loopN nn (fun env σ=>runC (Dof P) G call m nn o c env σ) n p.2.1 p.2.2
     | _=>some [p]
    | none=>none)=some l':=by
    have h3:(match runC (Dof P) G call m nn o c env σ with
     | some l=>bindO l fun p=>match p.1 with
      | .normal=>forceE p.2.1 nn [] fun l=>loopN nn (fun env σ=>runC (Dof P) G call m nn o c env σ) n (packE nn p.2.1 l) p.2.2
      | _=>some [p]
     | none=>none)=some l':=h'
    have e:∀ p:OutR,(forceE p.2.1 nn [] fun l=>loopN nn (fun env σ=>runC (Dof P) G call m nn o c env σ) n (packE nn p.2.1 l) p.2.2)=loopN nn (fun env σ=>runC (Dof P) G call m nn o c env σ) n p.2.1 p.2.2:=fun p=>packE_eq nn p.2.1 fun e=>loopN nn (fun env σ=>runC (Dof P) G call m nn o c env σ) n e p.2.2
    simp only [e] at h3
    exact h3
   split at h2
   · rename_i l1 h1
     refine runC_sound hc hbw c h1 fun p hp=>?_
     obtain⟨u,e1,e2⟩:=bindO_spec h2 p hp
     obtain⟨e,env',σ'⟩:=p
     cases e with
     | normal=>exact⟨n,Nat.lt_succ_self n,u,e1,fun p hp=>hq' p (e2 p hp)⟩
     | _=>simp only [Option.some.injEq] at e1;subst e1;exact hq' _ (e2 _ (List.mem_singleton.2 rfl))
   · cases h2
 | .rangeFunc g ps x y,env,σ,l,h,Q,hq=>by
  simp only [runC] at h
  simp only [vcC]
  split at h
  · rename_i pi pe gb b hps hg
    simp only [hps,hg]
    split at h
    · rename_i k hk
      refine⟨k,fun _ _ h=>h,hbw gb k hk,?_⟩
      split at h
      · rename_i sz rows tok hb
        simp only [hb]
        split at h
        · rename_i l1 hlt h1
          refine⟨by rw [Nat.blt_eq] at hlt;omega,?_⟩
          refine runRounds_sound (runC_sound hc hbw x) (runC_sound hc hbw y) rows.length h1 fun σ hσ=>?_
          obtain⟨u,e1,e2⟩:=bindO_spec h σ hσ
          simp only [Option.some.injEq] at e1;subst e1
          exact hq _ (e2 _ (List.mem_singleton.2 rfl))
        · cases h
      · cases h
    · cases h
  · cases h
 | .scope c,env,σ,l,h,Q,hq=>by
  simp only [runC] at h
  simp only [vcC]
  split at h
  · rename_i l1 h1
    refine runC_sound hc hbw c h1 fun p hp=>?_
    obtain⟨u,e1,e2⟩:=bindO_spec h p hp
    obtain⟨e,env',σ'⟩:=p
    cases e with
    | goto l=>cases e1
    | _=>simp only [Option.some.injEq] at e1;subst e1;exact hq _ (e2 _ (List.mem_singleton.2 rfl))
  · cases h
 | .label l,env,σ,_,h,Q,hq=>by
  simp only [runC,Option.some.injEq] at h
  subst h
  exact hq _ (List.mem_singleton.2 rfl)
 | .goto l,_,_,_,h,_,_=>by simp [runC] at h
 | .refuse w,_,_,_,h,_,_=>by simp [runC] at h
theorem endOf_spec {rs:List ResultVar} {o:OutR} {v:AV} (h:endOf (Dof P) rs o=some v):(o.1=.ret∨o.1=.normal)∧∃ l,resA (Dof P) rs o.2.1 o.2.2=some l∧v=tupA l:=by
 unfold endOf at h
 split at h
 · rename_i he
   split at h
   · rename_i l hl
     cases h
     exact⟨.inl he,l,hl,rfl⟩
   · cases h
 · rename_i he
   split at h
   · rename_i l hl
     cases h
     exact⟨.inr he,l,hl,rfl⟩
   · cases h
 · cases h
theorem oneOf_spec {rs:List ResultVar} {l:List OutR} {r:AV} (h:oneOf (Dof P) rs l=some r):∀ o∈l,fnPost P true rs r o.1 o.2.1 o.2.2:=by
 have key:∀ (o:OutR) (v:AV),endOf (Dof P) rs o=some v→noRef r=true→frz o.2.2.H 8 v=r→fnPost P true rs r o.1 o.2.1 o.2.2:=by
  intro o v hv hn hf
  obtain⟨h1,l,h2,rfl⟩:=endOf_spec hv
  have:fnEnd P true rs r o.2.1 o.2.2:=by
   unfold fnEnd
   rw [h2]
   simp only [hf]
   exact⟨hn,Leq.refl r⟩
  rcases h1 with h1|h1<;>rw [h1]<;>exact this
 cases l with
 | nil=>simp [oneOf] at h
 | cons o l=>
  simp only [oneOf] at h
  split at h
  · rename_i v hv
    split at h
    · rename_i hcond
      simp only [Option.some.injEq] at h
      simp only [Bool.and_eq_true,List.all_eq_true] at hcond
      rw [h] at hcond
      intro o' ho'
      rcases List.mem_cons.1 ho' with rfl|ho'
      · exact key _ v hv hcond.1 h
      · have:=hcond.2 o' ho'
        split at this
        · rename_i v' hv'
          exact key o' v' hv' hcond.1 (eqA_spec _ _ this)
        · cases this
    · cases h
  · cases h
/-- What is asked of the functions that are entered. -/
def BodOk (P : Program) (G : Nat → AV) (F : Nat → Option Bod) : Prop := ∀ g b, F g = some b → ∃ fn, P.funcs[g]? = some fn ∧ fn.body = some b.c ∧ fn.ntmps = b.n ∧ fn.results.toList = b.rs ∧ codeOk b.n b.o b.c = true ∧ fn.name ≠ "runtime.NumGoroutine" ∧ ∀ x k, b.o.bw.lookup x = some k → BwOk P G x k
/-- What is asked of the contracts that are known. -/
def ConOk (P:Program) (G:Nat→AV) (C:FuncId→List AV→Option AV):Prop:=∀ g args r,noRefs args=true→C g args=some r→Pure P G g args r
theorem callN_sound {F:Nat→Option Bod} {C:FuncId→List AV→Option AV} (hm:P.follows .mixedOrders=true) (hF:BodOk P G F) (hC:ConOk P G C) {m:Nat}:∀ (n:Nat),CallOk P G (callN (Dof P) G F C m n):=by
 intro n
 induction n with
 | zero=>intro d g args σ l h;simp [callN] at h
 | succ n ih=>
  intro d g args σ l h Q hq
  have h':callStep (Dof P) G F C m (callN (Dof P) G F C m n) d g args σ=some l:=h
  clear h
  unfold callStep at h'
  split at h'
  · split at h'
    · rename_i hno
      split at h'
      · rename_i r hr
        cases h'
        have hp:=hC g args r hno hr
        have hpl:args.map plain=args:=by
         have:∀ l:List AV,noRefs l=true→l.map plain=l:=by
          intro l
          induction l with
          | nil=>intro _;rfl
          | cons a t iht=>
           intro hl
           simp only [noRefs,Bool.and_eq_true] at hl
           rw [List.map_cons,iht hl.2]
           congr 1
           have p1:∀ a:AV,noRef a=true→pl1 a=a:=by
            intro a ha;unfold pl1;split
            · simp [noRef] at ha
            · rfl
           have p1s:∀ l:List AV,noRefs l=true→l.map pl1=l:=by
            intro l
            induction l with
            | nil=>intro _;rfl
            | cons a t ih2=>intro hl;simp only [noRefs,Bool.and_eq_true] at hl;rw [List.map_cons,p1 a hl.1,ih2 hl.2]
           have p2:∀ a:AV,noRef a=true→pl2 a=a:=by
            intro a ha;unfold pl2;split
            · simp only [noRef] at ha;rw [p1s _ ha]
            · exact p1 a ha
           have p2s:∀ l:List AV,noRefs l=true→l.map pl2=l:=by
            intro l
            induction l with
            | nil=>intro _;rfl
            | cons a t ih2=>intro hl;simp only [noRefs,Bool.and_eq_true] at hl;rw [List.map_cons,p2 a hl.1,ih2 hl.2]
           unfold plain;split
           · have:=hl.1;simp only [noRef] at this;rw [p2s _ this]
           · exact p2 a hl.1
         exact this args hno
        exact vcCall.of (.inl ⟨by rw [hpl];exact hno,by rw [hpl];exact hp⟩) (hq _ _ (List.mem_singleton.2 rfl))
      · cases h'
    · cases h'
  rename_i b hb
  obtain⟨fn,f1,f2,f3,f4,f5,f6,f7⟩:=hF g b hb
  split at h'
  · cases h'
  rename_i hlen
  have hlen':args.length≤fn.ntmps:=by rw [f3];exact Nat.le_of_ble_eq_true hlen
  have pure:∀ (args':List AV) (l1:List OutR) (r:AV),args'.length=args.length→runC (Dof P) G (callN (Dof P) G F C m n) m b.n b.o b.c (envOf args') ⟨[],[]⟩=some l1→oneOf (Dof P) b.rs l1=some r→Pure P G g args' r:=by
   intro args' l1 r hl h1 h2
   refine Pure.vcO b.o true hm f1 f2 ?_ (runC_sound ih f7 b.c h1 fun p hp=>by rw [f4];exact oneOf_spec h2 p hp)
   simp only [Bool.and_eq_true,decide_eq_true_eq,bne_iff_ne,ne_eq]
   exact⟨⟨by rw [f3];exact f5,by omega⟩,f6⟩
  split at h'
  · rename_i hno
    simp only [Bool.and_eq_true] at hno
    split at h'
    · rename_i l1 h1
      split at h'
      · rename_i r h2
        rw [forceAV_eq] at h'
        cases h'
        exact vcCall.of (.inl ⟨hno.1,pure _ l1 r (by simp) h1 h2⟩) (hq _ _ (List.mem_singleton.2 rfl))
      · cases h'
    · cases h'
  · split at h'
    · split at h'
      · rename_i l1 h1
        split at h'
        · rename_i r h2
          split at h'
          · rename_i hbare
            rw [forceAV_eq] at h'
            cases h'
            exact vcCall.of (.inr ⟨hbare,pure _ l1 r (by simp) h1 h2⟩) (hq _ _ (List.mem_singleton.2 rfl))
          · cases h'
        · cases h'
      · cases h'
    · split at h'
      · rename_i l1 h1
        refine ACall.of_body f1 f2 f6 hlen' (vcC_sound hm b.c (by rw [f3];exact f5) (runC_sound ih f7 b.c h1 fun o ho=>?_))
        obtain⟨u,e1,e2⟩:=bindO_spec h' o ho
        split at e1
        · rename_i v hv
          cases e1
          obtain⟨k1,l2,k2,rfl⟩:=endOf_spec hv
          exact⟨k1,l2,by rw [f4];exact k2,hq _ _ (e2 _ (List.mem_singleton.2 rfl))⟩
        · cases e1
      · cases h'
/-- A call on closed arguments: its contract is what the interpreter comes to. -/
theorem Pure.run {F:Nat→Option Bod} {C:FuncId→List AV→Option AV} {D:Nat→Option TI} (hm:P.follows .mixedOrders=true) (hD:Dof P=D) (hF:BodOk P G F) (hC:ConOk P G C)
 {m n:Nat} {g:FuncId} {b:Bod} {args:List AV} {r:AV} (hb:F g=some b) (hlen:args.length≤b.n)
 (h:(match runC D G (callN D G F C m n) m b.n b.o b.c (envOf args) ⟨[],[]⟩ with
   | some l=>match oneOf D b.rs l with
    | some r'=>eqA r' r
    | none=>false
   | none=>false)=true):Pure P G g args r:=by
 subst hD
 split at h
 · rename_i l1 h1
   split at h
   · rename_i r' h2
     have:=eqA_spec _ _ h
     subst this
     obtain⟨fn,f1,f2,f3,f4,f5,f6,f7⟩:=hF g b hb
     refine Pure.vcO b.o true hm f1 f2 ?_ (runC_sound (callN_sound hm hF hC n) f7 b.c h1 fun p hp=>by rw [f4];exact oneOf_spec h2 p hp)
     simp only [Bool.and_eq_true,decide_eq_true_eq,bne_iff_ne,ne_eq]
     exact⟨⟨by rw [f3];exact f5,by omega⟩,f6⟩
   · cases h
 · cases h
end
end
section
section
variable {P:Program} {G:Nat→AV}
theorem callStep_sound {F:Nat→Option Bod} {C:FuncId→List AV→Option AV} (hm:P.follows .mixedOrders=true) (hF:BodOk P G F) (hC:ConOk P G C) {m:Nat} {call:CallT} (ih:CallOk P G call):CallOk P G (callStep (Dof P) G F C m call):=by
 intro d g args σ l h Q hq
 have h':=h
 clear h
 unfold callStep at h'
 split at h'
 · split at h'
   · rename_i hno
     split at h'
     · rename_i r hr
       cases h'
       have hp:=hC g args r hno hr
       have hpl:args.map plain=args:=by
        have:∀ l:List AV,noRefs l=true→l.map plain=l:=by
         intro l
         induction l with
         | nil=>intro _;rfl
         | cons a t iht=>
          intro hl
          simp only [noRefs,Bool.and_eq_true] at hl
          rw [List.map_cons,iht hl.2]
          congr 1
          have p1:∀ a:AV,noRef a=true→pl1 a=a:=by
           intro a ha;unfold pl1;split
           · simp [noRef] at ha
           · rfl
          have p1s:∀ l:List AV,noRefs l=true→l.map pl1=l:=by
           intro l
           induction l with
           | nil=>intro _;rfl
           | cons a t ih2=>intro hl;simp only [noRefs,Bool.and_eq_true] at hl;rw [List.map_cons,p1 a hl.1,ih2 hl.2]
          have p2:∀ a:AV,noRef a=true→pl2 a=a:=by
           intro a ha;unfold pl2;split
           · simp only [noRef] at ha;rw [p1s _ ha]
           · exact p1 a ha
          have p2s:∀ l:List AV,noRefs l=true→l.map pl2=l:=by
           intro l
           induction l with
           | nil=>intro _;rfl
           | cons a t ih2=>intro hl;simp only [noRefs,Bool.and_eq_true] at hl;rw [List.map_cons,p2 a hl.1,ih2 hl.2]
          unfold plain;split
          · have:=hl.1;simp only [noRef] at this;rw [p2s _ this]
          · exact p2 a hl.1
        exact this args hno
       exact vcCall.of (.inl ⟨by rw [hpl];exact hno,by rw [hpl];exact hp⟩) (hq _ _ (List.mem_singleton.2 rfl))
     · cases h'
   · cases h'
 rename_i b hb
 obtain⟨fn,f1,f2,f3,f4,f5,f6,f7⟩:=hF g b hb
 split at h'
 · cases h'
 rename_i hlen
 have hlen':args.length≤fn.ntmps:=by rw [f3];exact Nat.le_of_ble_eq_true hlen
 have pure:∀ (args':List AV) (l1:List OutR) (r:AV),args'.length=args.length→runC (Dof P) G call m b.n b.o b.c (envOf args') ⟨[],[]⟩=some l1→oneOf (Dof P) b.rs l1=some r→Pure P G g args' r:=by
  intro args' l1 r hl h1 h2
  refine Pure.vcO b.o true hm f1 f2 ?_ (runC_sound ih f7 b.c h1 fun p hp=>by rw [f4];exact oneOf_spec h2 p hp)
  simp only [Bool.and_eq_true,decide_eq_true_eq,bne_iff_ne,ne_eq]
  exact⟨⟨by rw [f3];exact f5,by omega⟩,f6⟩
 split at h'
 · rename_i hno
   simp only [Bool.and_eq_true] at hno
   split at h'
   · rename_i l1 h1
     split at h'
     · rename_i r h2
       rw [forceAV_eq] at h'
       cases h'
       exact vcCall.of (.inl ⟨hno.1,pure _ l1 r (by simp) h1 h2⟩) (hq _ _ (List.mem_singleton.2 rfl))
     · cases h'
   · cases h'
 · split at h'
   · split at h'
     · rename_i l1 h1
       split at h'
       · rename_i r h2
         split at h'
         · rename_i hbare
           rw [forceAV_eq] at h'
           cases h'
           exact vcCall.of (.inr ⟨hbare,pure _ l1 r (by simp) h1 h2⟩) (hq _ _ (List.mem_singleton.2 rfl))
         · cases h'
       · cases h'
     · cases h'
   · split at h'
     · rename_i l1 h1
       refine ACall.of_body f1 f2 f6 hlen' (vcC_sound hm b.c (by rw [f3];exact f5) (runC_sound ih f7 b.c h1 fun o ho=>?_))
       obtain⟨u,e1,e2⟩:=bindO_spec h' o ho
       split at e1
       · rename_i v hv
         cases e1
         obtain⟨k1,l2,k2,rfl⟩:=endOf_spec hv
         exact⟨k1,l2,by rw [f4];exact k2,hq _ _ (e2 _ (List.mem_singleton.2 rfl))⟩
       · cases e1
     · cases h'
/-- A step that asks the contracts 'X' first. 'K': the functions that X knows. -/
def callStepX (D:Nat→Option TI) (G:Nat→AV) (F:Nat→Option Bod) (C:FuncId→List AV→Option AV) (K:FuncId→Bool) (X:FuncId→List AV→Option AV) (m:Nat) (ih:CallT):CallT:=fun d g args σ=>match K g with
 | true=>match noRefs (args.map plain) with
  | true=>match X g (args.map plain) with
   | some r=>some [(r,σ)]
   | none=>none
  | false=>match X g (args.map (frz σ.H 8)) with
   | some r=>match bare r with
    | true=>some [(r,σ)]
    | false=>none
   | none=>none
 | false=>callStep D G F C m ih d g args σ
def callX (D:Nat→Option TI) (G:Nat→AV) (F:Nat→Option Bod) (C:FuncId→List AV→Option AV) (K:FuncId→Bool) (X:FuncId→List AV→Option AV) (m:Nat) (n:Nat):CallT :=
 Nat.rec (fun _ _ _ _=>none) (fun _ ih=>callStepX D G F C K X m ih) n
def ConX (P:Program) (G:Nat→AV) (X:FuncId→List AV→Option AV):Prop:=∀ g args r,X g args=some r→Pure P G g args r
theorem callX_sound {F:Nat→Option Bod} {C X:FuncId→List AV→Option AV} {K:FuncId→Bool} (hm:P.follows .mixedOrders=true) (hF:BodOk P G F) (hC:ConOk P G C) (hX:ConX P G X) {m:Nat}:∀ (n:Nat),CallOk P G (callX (Dof P) G F C K X m n):=by
 intro n
 induction n with
 | zero=>intro d g args σ l h;simp [callX] at h
 | succ n ih=>
  intro d g args σ l h Q hq
  have h':callStepX (Dof P) G F C K X m (callX (Dof P) G F C K X m n) d g args σ=some l:=h
  clear h
  unfold callStepX at h'
  split at h'
  · split at h'
    · rename_i hno
      split at h'
      · rename_i r hr
        cases h'
        exact vcCall.of (.inl ⟨hno,hX _ _ _ hr⟩) (hq _ _ (List.mem_singleton.2 rfl))
      · cases h'
    · split at h'
      · rename_i r hr
        split at h'
        · rename_i hb
          cases h'
          exact vcCall.of (.inr ⟨hb,hX _ _ _ hr⟩) (hq _ _ (List.mem_singleton.2 rfl))
        · cases h'
      · cases h'
  · exact callStep_sound hm hF hC ih d g args σ l h' Q hq
/-- What a call comes to, as a number of outcomes frozen to one. -/
def outX (D:Nat→Option TI) (G:Nat→AV) (F:Nat→Option Bod) (C:FuncId→List AV→Option AV) (K:FuncId→Bool) (X:FuncId→List AV→Option AV) (m n:Nat) (b:Bod) (args:List AV):Option AV :=
 match runC D G (callX D G F C K X m n) m b.n b.o b.c (envOf args) ⟨[],[]⟩ with
 | some l=>oneOf D b.rs l
 | none=>none
theorem Pure.outX {F:Nat→Option Bod} {C X:FuncId→List AV→Option AV} {K:FuncId→Bool} {D:Nat→Option TI} (hm:P.follows .mixedOrders=true) (hD:Dof P=D) (hF:BodOk P G F) (hC:ConOk P G C) (hX:ConX P G X)
 {m n:Nat} {g:FuncId} {b:Bod} {args:List AV} {r:AV} (hb:F g=some b) (hlen:args.length≤b.n) (h:outX D G F C K X m n b args=some r):Pure P G g args r:=by
 subst hD
 unfold Go.Abs.outX at h
 split at h
 · rename_i l1 h1
   obtain⟨fn,f1,f2,f3,f4,f5,f6,f7⟩:=hF g b hb
   refine Pure.vcO b.o true hm f1 f2 ?_ (runC_sound (callX_sound hm hF hC hX n) f7 b.c h1 fun p hp=>by rw [f4];exact oneOf_spec h p hp)
   simp only [Bool.and_eq_true,decide_eq_true_eq,bne_iff_ne,ne_eq]
   exact⟨⟨by rw [f3];exact f5,by omega⟩,f6⟩
 · cases h
end
end
end Go.Abs
end
