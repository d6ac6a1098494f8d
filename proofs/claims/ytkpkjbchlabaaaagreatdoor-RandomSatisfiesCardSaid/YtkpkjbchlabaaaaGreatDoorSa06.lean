/- A part of the proof. -/
import Derived.Test.YtkpkjbchlabaaaaGreatDoorSa05
import Derived.TacticsIn
import Derived.OrdersIn
import Derived.RangeFuncIn
import Derived.RangeFuncRecord
import Derived.Scope
set_option linter.unusedVariables false
set_option linter.unusedSimpArgs false
set_option linter.defProp false
section
namespace Go.Abs
open Go Go.RowKit
section
structure Opts where
 mu:Bool
 fk:List (Nat×Sch×List Nat)
 lw:List Nat
 bw:List (Nat×Nat):=[]
def o0:Opts:=⟨false,[],[],[]⟩
def zT (N:Nat):Code->Bool
 | .skip | .exit _=>true
 | .region _ ops false=>vu N ops
 | .seq x y=>zT N x&&zT N y
 | .cond _ x y=>zT N x&&zT N y
 | .block _ c=>zT N c
 | _=>false
def jC (N:Nat)(o:Opts):Code->Bool
 | .skip | .ret | .exit _=>true
 | .region id ops d=>vu N ops&&(!d||(match o.fk.lookup id with
  | some (s,ac)=>qcq ops o.mu ac s (Array.replicate ops.size false)&&decide (KV s<=ops.size)
  | none=>qnt ops o.mu (o.lw.contains id)))
 | .seq x y=>jC N o x&&jC N o y
 | .cond _ x y=>jC N o x&&jC N o y
 | .block _ c=>jC N o c
 | .loop c=>jC N o c
 | .rangeFunc _ ps x y=>(match ps.toList with
  | [p,q]=>decide (p<N)&&decide (q<N)
  | [p]=>decide (p<N)
  | _=>false)&&zT N x&&zT N y
 | .scope c=>jC N o c
 | .label _=>true
 | _=>false
def qe8 (c:Bool)(A B:Prop):Prop:=(c=true->A)/\(c=false->B)
def vcG (P:Program)(G:Glo)(mu d:Bool)(ops:Array Oper)(o:Oper)(env:Env)(U:St)(k:Env->AV->St->Prop):Prop :=
 match o.guard with
 | none=>jw P G mu d o.op env U (k env)
 | some (j,b)=>match (ops[j]?).bind (·.dst) with
  | some t=>match env t with
   | .bool c=>qe8 (c==b) (jw P G mu d o.op (upd env (some t) (.bool b)) U (k (upd env (some t) (.bool b)))) (k (upd env (some t) (.bool (!b))) (.tup []) U)
   | .tup []=>k env (.tup []) U
   | _=>False
  | none=>k env (.tup []) U
def qcL:Op->Bool
 | .call { callee:=.value _,.. }=>true
 | _=>false
def qpa {α:Type}:List α->Bool
 | []=>true
 | _=>false
def vcR (P:Program)(G:Glo)(mu:Bool)(ops:Array Oper)(d lw:Bool):List Oper->Env->St->(Env->St->Prop)->Prop
 | [],env,U,Q=>Q env U
 | o::rest,env,U,Q=>vcG P G mu (d&&!(lw&&qpa rest&&qcL o.op)) ops o env U (fun env v U'=>vcR P G mu ops d lw rest (upd env o.dst v) U' Q)
mutual
def vcS (P:Program)(G:Glo)(mu:Bool)(ac:List Nat)(ops:Array Oper):Sch->Env->St->(Env->St->Prop)->Prop
 | .done,env,U,Q=>Q env U
 | .step k _ s,env,U,Q=>match ops[k]? with
  | some o=>vcG P G mu (qN mu ac k o.op != 9) ops o env U (fun env v U'=>vcS P G mu ac ops s (upd env o.dst v) U' Q)
  | none=>False
 | .fork a,env,U,Q=>vk P G mu ac ops a env U Q
def vk (P:Program)(G:Glo)(mu:Bool)(ac:List Nat)(ops:Array Oper):Alts->Env->St->(Env->St->Prop)->Prop
 | .nil,_,_,_=>True
 | .cons k s r,env,U,Q=>(match ops[k]? with
  | some o=>vcG P G mu (qN mu ac k o.op != 9) ops o env U (fun env v U'=>vcS P G mu ac ops s (upd env o.dst v) U' Q)
  | none=>False)/\vk P G mu ac ops r env U Q
end
abbrev FR (ro:Option Nat):Fence:={ Fence.wide with round:=ro }
theorem qdx {env:Env}{t:Nat}{v:AV}(h:env t=v):upd env (some t) v=env:=by
 funext i;simp only[upd];split
 . rename_i e;rw[e,h]
 . rfl
section
variable {P:Program}{G:Glo}{N:Nat}{env:Env}{U U':St}{w0:World}{ro0:Nat->Nat->Option Value}{K:Kn}{a:Act}{w:World}{ops:Array Oper}{o:Oper}{v:AV}{mu d:Bool}{ac:List Nat}
theorem ko {k:Env->AV->St->Prop}(h:vcG P G mu d ops o env U k):(jc ops env o=some false/\k env (.tup []) U)\/(jc ops env o=some true/\jw P G mu d o.op env U (k env)):=by
 unfold vcG at h;split at h
 . rename_i hg;exact .inr ⟨by simp[jc,hg],h⟩
 . rename_i j b hg;split at h
   . rename_i t ht;split at h
     . rename_i c hc;by_cases hcb:c=b
       . have:=h.1 (by simp[hcb]);rw[hcb]at hc;rw[qdx hc]at this;exact .inr ⟨by simp[jc,hg,ht,hc],this⟩
       . have hcb':c = !b:=(by cases c<;>cases b<;>simp_all);have:=h.2 (by simp[hcb]);rw[hcb']at hc;rw[qdx hc]at this;exact .inl ⟨by simp[jc,hg,ht,hc],this⟩
     . rename_i hc;exact .inl ⟨by simp[jc,hg,ht,hc],h⟩
     . exact h.elim
   . rename_i ht;exact .inl ⟨by simp[jc,hg,ht],h⟩
theorem qab (hs:vu N ops=true){lw:Bool}{Q:Env->St->Prop}:∀ (l:List Oper) (env:Env) (U:St) (K:Kn) (a:Act) (w:World),(∀ o∈l,o∈ops.toList)->vcR P G mu ops false lw l env U Q->WRel G w0 ro0 K U w->ERel K N env a ->
 ∀ {Q':Exit->Act->World->Prop},(∀ K' env' U' a' w',K.le K'->WRel G w0 ro0 K' U' w'->ERel K' N env' a'->a'.defers=a.defers->Q env' U'->Q' .normal a' w') ->
 (∀ c K' U' a' w',K.le K'->WRel G w0 ro0 K' U' w'->a'.defers=a.defers->G.X c U'->Q' (.panic c) a' w')->wpList P ops Q' l a w
 | [],env,U,K,a,w,_,h,hw,he,Q',hq,_=>hq K env U a w (Kn.le_refl K) hw he rfl h
 | o::rest,env,U,K,a,w,hm,h,hw,he,Q',hq,hp=>by
  have hd:=QJ hs (hm o (by simp));have hgd:=Qo hs o;have hrest:∀ x∈rest,x∈ops.toList:=fun x hx=>hm x (by simp[hx])
  have cont:∀ (v:AV) (U':St) (K1:Kn) (a1:Act) (w1:World),vcR P G mu ops false lw rest (upd env o.dst v) U' Q->K.le K1->WRel G w0 ro0 K1 U' w1->ERel K1 N (upd env o.dst v) a1->a1.defers=a.defers->wpList P ops Q' rest a1 w1 :=
   fun v U' K1 a1 w1 hv hle h1 h2 hds=>qab hs rest _ U' K1 a1 w1 hrest hv h1 h2 (fun K' env' U'' a' w' hle' x1 x2 xd=>hq K' env' U'' a' w' (Kn.le_trans hle hle') x1 x2 (xd.trans hds)) fun c K' U'' a' w' hle' x1 xd=>hp c K' U'' a' w' (Kn.le_trans hle hle') x1 (xd.trans hds)
  simp only[vcR,qrV]at h;unfold wpList;rcases ko h with ⟨hwant,h⟩|⟨hwant,h⟩
  . have:=ym he hgd hwant;rw[if_neg (by simp[this])];exact cont _ U K _ w h (Kn.le_refl K) hw (he.put hd (by simp only[qg];exact⟨#[],rfl,by simp[qh]⟩)) Act.put_defers'
  . have:=ym he hgd hwant;rw[if_pos this];exact .inl (qhx hw he hd h (fun v U' K' a' w' hv h1 h2 h3 hds=>cont v U' K' a' w' hv h1 h2 h3 hds) fun c U' K' w' hx h1 h2=>hp c K' U' _ w' h1 h2 rfl hx)
theorem qhw (hX:G.NoX){ro:Option Nat}{n:Nat}(hw:WRel G w0 ro0 K U w)(he:ERel K N env a)(hd:∀ d,o.dst=some d->d<N){R:AV->St->Prop}(h:jw P G mu false o.op env U R){next:Act->World->Prop}{Q:Exit->Act->World->Prop}
 (hn:∀ v v' U' K' w',R v U'->K.le K'->WRel G w0 ro0 K' U' w'->ERel K' N (upd env o.dst v) (a.put o.dst v')->next (a.put o.dst v') w'):o.wpIn (FR ro) n P a w next Q:=by
 have hnd:∀ c,o.op≠.defer c:=by
  intro c e;rw[e]at h;simp[jw,vcX,qcA,qay,sem]at h
 refine⟨fun _ _=>trivial,?_⟩;rw[Oper.semAt_eq _ _ _ hnd];have did:∀ v U',R v U'->Did P G w0 ro0 K w (execOp a.eval o) v U'->o.uponIn (FR ro) n P a next Q ((execOp a.eval o).run P w):=by
  intro v U' hr hdid;obtain⟨v',w',K',hrun,h1,h2,h3⟩:=hdid;rcases hrun with hrun|⟨hrun,rfl⟩
  . rw[hrun];exact hn v v' U' K' w' hr h1 h2 ((he.mono h1).put hd h3)
  . rw[hrun];exact hn v _ U' K' w' hr h1 h2 ((he.mono h1).put hd h3)
 unfold jw at h;split at h
 . rename_i f args ts hop;split at h
   . rename_i g first cap hf
     have hac:qf P G g (jS first (Wc G env args.toList) cap) U R:=h;obtain⟨vs,hr,hvs⟩:=Y2 hw he hop hf hac.1;rw[hr,Oper.uponIn_enter];refine⟨fun e=>by simp[Fence.wide]at e,?_⟩;refine CallsIn.mono (F:=FR ro) (show CallsIn (FR ro) (n-1) P g vs w _ from (callsIn_wide (n:=n-1)).2 (hac.2 w0 ro0 K w vs hw hvs)) ?_;rintro e w' (⟨v',v,U',K',rfl,h1,h2,h3,h4⟩|⟨c,U',K',rfl,h1,h2,h3⟩)
     . exact hn v v' U' K' w' h4 h1 h2 ((he.mono h1).put hd h3)
     . exact (hX c U' h3).elim
   . exact h.elim
 . simp only[vcX,qcA]at h;split at h
   . rename_i l hl;obtain⟨v,U',h1,h2⟩:=KU hw he o hl;exact did v U' (h v U' h1) h2
   . split at h
     . rename_i v U' hs;exact did v U' h (Ye hw he o hs)
     . exact h.elim
theorem JY (hX:G.NoX)(hs:vu N ops=true){ro:Option Nat}{n:Nat}{lw:Bool}{Q:Env->St->Prop}{more:List Oper}:∀ (l:List Oper) (env:Env) (U:St) (K:Kn) (a:Act) (w:World),(∀ o∈l,o∈ops.toList)->vcR P G mu ops false lw l env U Q->WRel G w0 ro0 K U w->ERel K N env a ->
 ∀ {Q':Exit->Act->World->Prop},(∀ K' env' U' a' w',K.le K'->WRel G w0 ro0 K' U' w'->ERel K' N env' a'->a'.defers=a.defers->(∀ t,(∀ o∈l,o.dst≠some t)->a'.tmps.getD t undef=a.tmps.getD t undef)->Q env' U'->wpListIn (FR ro) n P ops Q' more a' w')->wpListIn (FR ro) n P ops Q' (l++more) a w
 | [],env,U,K,a,w,_,h,hw,he,Q',hq=>hq K env U a w (Kn.le_refl K) hw he rfl (fun _ _=>rfl) h
 | o::rest,env,U,K,a,w,hm,h,hw,he,Q',hq=>by
  have hd:=QJ hs (hm o (by simp));have hgd:=Qo hs o;have hrest:∀ x∈rest,x∈ops.toList:=fun x hx=>hm x (by simp[hx])
  have cont:∀ (v:AV) (v':Value) (U':St) (K1:Kn) (w1:World),vcR P G mu ops false lw rest (upd env o.dst v) U' Q->K.le K1->WRel G w0 ro0 K1 U' w1->ERel K1 N (upd env o.dst v) (a.put o.dst v')->wpListIn (FR ro) n P ops Q' (rest++more) (a.put o.dst v') w1 :=
   fun v v' U' K1 w1 hv hle h1 h2=>JY hX hs rest _ U' K1 _ w1 hrest hv h1 h2 fun K' env' U'' a' w' hle' x1 x2 xd xk=>hq K' env' U'' a' w' (Kn.le_trans hle hle') x1 x2 (xd.trans Act.put_defers') fun t ht=>by
    rw[xk t fun x hx=>ht x (by simp[hx])];have hne:=ht o (by simp);unfold Act.put;split
    . rename_i d hdd;have:d≠t:=fun e=>hne (by rw[hdd,e])
      simp[this]
    . rfl
  simp only[vcR,qrV]at h;rw[qqz];unfold wpListIn;rcases ko h with ⟨hwant,h⟩|⟨hwant,h⟩
  . have:=ym he hgd hwant;rw[if_neg (by simp[this])];exact⟨fun _ _=>trivial,cont _ _ U K w h (Kn.le_refl K) hw (he.put hd (by simp only[qg];exact⟨#[],rfl,by simp[qh]⟩))⟩
  . have:=ym he hgd hwant;rw[if_pos this];exact qhw hX hw he hd h fun v v' U' K' w' hv h1 h2 h3=>cont v v' U' K' w' hv h1 h2 h3
theorem JZ {R:AV->St->Prop}(h:jw P G mu true o.op env U R):∃ v U',OpA P G o env U v U'/\R v U':=by
 unfold jw at h;split at h
 . rename_i f args ts hop;split at h
   . rename_i g first cap hf
     obtain⟨r,h1,h2⟩:=h;exact⟨r,U,.inr ⟨f,args,ts,g,first,cap,hop,hf,h1,rfl⟩,h2⟩
   . exact h.elim
 . simp only[vcX,qcA]at h;split at h
   . rename_i v U' hs;exact⟨v,U',.inl hs,h⟩
   . exact h.elim
theorem qhq {R:Env->St->Prop}{i:Nat}{oi:Oper}{dp:List Nat}(hi:ops[i]?=some oi){fuel:Nat}{listed:Array Bool}(hs:qat ops mu ac listed i dp=true)
 (h:vcG P G mu (qN mu ac i oi.op != 9) ops oi env U (fun env v U'=>Jx P G ops mu ac R fuel (listed.setIfInBounds i true) (upd env oi.dst v) U')):Jx P G ops mu ac R (fuel+1) listed env U:=by
 simp only[qat,hi,qqi]at hs;obtain⟨⟨hr,hd⟩,hall⟩:=hs;have hr':i∈Region.ready .any ops listed:=by simpa using hr
 have rest:∀ (j:Nat) (oj:Oper),ops[j]?=some oj->j≠i->listed.getD j true=false->j∉dp->qN mu ac i oi.op≠9/\qbm ops oi oj (qN mu ac i oi.op) (qN mu ac j oj.op)=true/\(qN mu ac j oj.op≠9\/qN mu ac i oi.op=0):=by
  intro j oj hoj hji hun hnd;have:=qqo.1 hall j (qri.2 (qqX.1 hoj).1);simp only[hoj,qsi,beq_iff_eq,qqi,bne_iff_ne,ne_eq]at this;rcases this with ((h1|h1)|h1)|h1
  . exact absurd h1 hji
  . rw[hun]at h1;cases h1
  . exact absurd (by simpa using h1) hnd
  . exact⟨h1.1,h1.2.1,h1.2.2⟩
 by_cases h9:qN mu ac i oi.op=9
 . have solo:∀ (j:Nat) (oj:Oper),ops[j]?=some oj->j≠i->listed.getD j true=false->j∈dp:=by
    intro j oj hoj hji hun;apply Classical.byContradiction;intro hnd;exact (rest j oj hoj hji hun hnd).1 h9
   rw[h9]at h;refine Jx.solo hi hd solo hr' ?_;rcases ko h with ⟨hwant,h⟩|⟨hwant,h⟩
   . exact .inl ⟨_,U,.inl ⟨hwant,rfl,rfl⟩,h⟩
   . exact .inr ⟨h9,hwant,h⟩
 . have hd1:(qN mu ac i oi.op != 9)=true:=(by simpa using h9);rw[hd1]at h;rcases ko h with ⟨hwant,h⟩|⟨hwant,h⟩
   . exact Jx.first hi fuel listed env U U hd (fun j oj a b c e=>(rest j oj a b c e).2) hr' (.inl ⟨hwant,rfl,rfl⟩) h
   . obtain⟨v,U',h1,h2⟩:=JZ h;exact Jx.first hi fuel listed env U U' hd (fun j oj a b c e=>(rest j oj a b c e).2) hr' (.inr ⟨hwant,h1⟩) h2
theorem vcG.imp {k k':Env->AV->St->Prop}(h:vcG P G mu d ops o env U k)(hk:∀ env v U,k env v U->k' env v U):vcG P G mu d ops o env U k':=by
 unfold vcG at h⊢
 cases hg:o.guard with
 | none=>simp only[hg]at h ⊢;exact jw.imp h (hk _)
 | some p=>
  obtain⟨j,b⟩:=p;simp only[hg]at h ⊢
  cases ht:(ops[j]?).bind (·.dst) with
  | none=>simp only[ht]at h ⊢;exact hk _ _ _ h
  | some t=>
   simp only[ht]at h ⊢;generalize env t=x at h⊢
   match x,h with
   | .bool c,h=>exact⟨fun e=>jw.imp (h.1 e) (hk _),fun e=>hk _ _ _ (h.2 e)⟩
   | .tup [],h=>exact hk _ _ _ h
theorem qhU {lw:Bool}{Q:Env->St->Prop}{mu:Bool}:∀ (l:List Oper) (k:Nat) (listed:Array Bool) (env:Env) (U:St),(∀ j:Nat,l[j]?=ops[k+j]?)->k+l.length=ops.size->lexB ops mu (if lw then [ops.size-1] else []) l.length k listed=true ->
 vcR P G mu ops true lw l env U Q->Jx P G ops mu (if lw then [ops.size-1] else []) Q l.length listed env U
 | [],k,listed,env,U,_,_,hB,h=>⟨by simpa[lexB] using hB,h⟩
 | o::l,k,listed,env,U,hl,hlen,hB,h=>by
  have h0:ops[k]?=some o:=by simpa using (hl 0).symm
  simp only[qqs,lexB,qqi]at hB;obtain⟨hst,hB'⟩:=hB;simp only[vcR,qrg]at h;have ih:=fun env U h=>qhU (lw:=lw) (Q:=Q) (mu:=mu) l (k+1) (listed.setIfInBounds k true) env U (fun j=>by have:=hl (j+1);simpa[qsb,qrZ 1 j] using this) (by simp only[qqs]at hlen;omega) hB' h
  have hst0:=hst;simp only[qat,h0,qqi]at hst;obtain⟨⟨hr,hd⟩,hall⟩:=hst;have hr':k∈Region.ready .any ops listed:=by simpa using hr
  have rest:∀ (j:Nat) (oj:Oper),ops[j]?=some oj->j≠k->listed.getD j true=false->j∉dpOf ops k->qN mu (if lw then [ops.size-1] else []) k o.op≠9/\qbm ops o oj (qN mu (if lw then [ops.size-1] else []) k o.op) (qN mu (if lw then [ops.size-1] else []) j oj.op)=true/\(qN mu (if lw then [ops.size-1] else []) j oj.op≠9\/qN mu (if lw then [ops.size-1] else []) k o.op=0):=by
   intro j oj hoj hji hun hnd;have:=qqo.1 hall j (qri.2 (qqX.1 hoj).1);simp only[hoj,qsi,beq_iff_eq,qqi,bne_iff_ne,ne_eq]at this;rcases this with ((h1|h1)|h1)|h1
   . exact absurd h1 hji
   . rw[hun]at h1;cases h1
   . exact absurd (by simpa using h1) hnd
   . exact⟨h1.1,h1.2.1,h1.2.2⟩
  have stp:∀ v U',kl P G ops o env U v U'->Jx P G ops mu (if lw then [ops.size-1] else []) Q l.length (listed.setIfInBounds k true) (upd env o.dst v) U'->Jx P G ops mu (if lw then [ops.size-1] else []) Q (l.length+1) listed env U:=by
   intro v U' h1 h2;by_cases h9:qN mu (if lw then [ops.size-1] else []) k o.op=9
   . refine Jx.solo h0 hd (fun j oj hoj hji hun=>?_) hr' (.inl ⟨v,U',h1,h2⟩);apply Classical.byContradiction;intro hnd;exact (rest j oj hoj hji hun hnd).1 h9
   . exact Jx.first h0 l.length listed env U U' hd (fun j oj a b c e=>(rest j oj a b c e).2) hr' h1 h2
  cases hdd : !(lw&&qpa l&&qcL o.op) with
  | true=>
   rw[hdd]at h;rcases ko h with ⟨hwant,h⟩|⟨hwant,h⟩
   . exact stp _ _ (.inl ⟨hwant,rfl,rfl⟩) (ih _ _ h)
   . obtain⟨v,U',h1,h2⟩:=JZ h;exact stp _ _ (.inr ⟨hwant,h1⟩) (ih _ _ h2)
  | false=>
   rw[hdd]at h;simp only[Bool.not_eq_false',qqi]at hdd;obtain⟨⟨hlw,hnil⟩,hcall⟩:=hdd;have hnil:l=[]:=(by cases l with | nil=>rfl | cons _ _=>simp[qpa]at hnil);rcases ko h with ⟨hwant,h⟩|⟨hwant,h⟩
   . exact stp _ _ (.inl ⟨hwant,rfl,rfl⟩) (ih _ _ h)
   . -- the last operation
     have h9:qN mu (if lw then [ops.size-1] else []) k o.op=9:=by
      subst hnil;simp only[qqs,qq0]at hlen;have hk1:k=ops.size-1:=(by omega);unfold qcL at hcall;split at hcall
      . rename_i f args ts e;rw[e];simp[qN,hlw,hk1]
      . cases hcall
     refine Jx.solo h0 hd (fun j oj hoj hji hun=>?_) hr' (.inr ⟨h9,hwant,jw.imp h fun v U' hv=>ih _ _ hv⟩);apply Classical.byContradiction;intro hnd;exact (rest j oj hoj hji hun hnd).1 h9
mutual
theorem qb5 {Q:Env->St->Prop}:∀ (s:Sch) (fuel:Nat) (listed:Array Bool) (env:Env) (U:St),qcq ops mu ac s listed=true->KV s<=fuel->vcS P G mu ac ops s env U Q->Jx P G ops mu ac Q fuel listed env U
 | .done,fuel,listed,env,U,hk,_,h=>by
  simp only[qcq]at hk;have hr:Region.ready .any ops listed=[]:=by simpa using hk
  cases fuel with
  | zero=>exact⟨hr,h⟩
  | succ fuel=>exact⟨fun _=>h,fun i hi=>by rw[hr]at hi;cases hi⟩
 | .step k dp s,fuel,listed,env,U,hk,hf,h=>by
  simp only[KV]at hf;obtain⟨f,rfl⟩:∃ f,fuel=f+1:=⟨fuel-1,by omega⟩;simp only[qcq,qqi]at hk;simp only[vcS]at h;split at h
  . rename_i o ho;exact qhq ho hk.1 (vcG.imp h fun env v U' hv=>qb5 s f _ _ _ hk.2 (by omega) hv)
  . exact h.elim
 | .fork al,fuel,listed,env,U,hk,hf,h=>by
  simp only[KV]at hf;obtain⟨f,rfl⟩:∃ f,fuel=f+1:=⟨fuel-1,by omega⟩;simp only[qcq,qqi,qrv]at hk;simp only[vcS]at h;refine⟨fun h0=>by rw[h0]at hk;simp at hk,fun i hi=>?_⟩;exact KH al f listed env U _ hk.2 (by omega) h i hi
theorem KH {Q:Env->St->Prop}:∀ (al:Alts) (fuel:Nat) (listed:Array Bool) (env:Env) (U:St) (need:List Nat),qbS ops mu ac al listed need=true->VR al<=fuel->vk P G mu ac ops al env U Q->∀ i∈need,∃ o,ops[i]?=some o /\
 ((∃ v U',kl P G ops o env U v U'/\Jx P G ops mu ac Q fuel (listed.setIfInBounds i true) (upd env o.dst v) U') \/
  (qN mu ac i o.op=9/\jc ops env o=some true/\jw P G mu false o.op env U (fun v U'=>Jx P G ops mu ac Q fuel (listed.setIfInBounds i true) (upd env o.dst v) U')))
 | .nil,fuel,listed,env,U,need,hk,_,_,i,hi=>by
  simp only[qbS]at hk;have:need=[]:=by simpa using hk
  rw[this]at hi;cases hi
 | .cons k s r,fuel,listed,env,U,need,hk,hf,h,i,hi=>by
  simp only[VR]at hf;simp only[qbS,qqi]at hk;simp only[vk]at h;by_cases hik:i=k
  . subst hik;obtain⟨h,_⟩:=h;split at h
    . rename_i o ho;refine⟨o,ho,?_⟩;have h':=vcG.imp h fun env v U' hv=>qb5 s fuel _ _ _ hk.1.2 (by omega) hv
      by_cases h9:qN mu ac i o.op=9
      . rw[h9]at h';rcases ko h' with ⟨hwant,h'⟩|⟨hwant,h'⟩
        . exact .inl ⟨_,U,.inl ⟨hwant,rfl,rfl⟩,h'⟩
        . exact .inr ⟨h9,hwant,h'⟩
      . have hd1:(qN mu ac i o.op != 9)=true:=(by simpa using h9);rw[hd1]at h';rcases ko h' with ⟨hwant,h'⟩|⟨hwant,h'⟩
        . exact .inl ⟨_,U,.inl ⟨hwant,rfl,rfl⟩,h'⟩
        . obtain⟨v,U',h1,h2⟩:=JZ h';exact .inl ⟨v,U',.inr ⟨hwant,h1⟩,h2⟩
    . exact h.elim
  . exact KH r fuel listed env U _ hk.2 (by omega) h.2 i (qtD.2 ⟨hi,by simpa using hik⟩)
end
end
def BwOk (P:Program)(G:Glo)(gb:FuncId)(k:Nat):Prop :=
 bodied P gb=true/\∀ (w0:World) (ro0:Nat->Nat->Option Value) (b L B:Nat) (K:Kn) (U:St) (w:World) (sz:Nat) (rows:List (List AV)) (tok:Tok) (S:Nat->St->Prop),
  WRel G w0 ro0 K U w->K.m b=some B->U.H[b]?=some (.cells [.sl sz rows tok])->rows.length<2 ^ 62->S rows.length U ->
  (∀ i U' K' w',S (i+1) U'->K.le K'->WRel G w0 ro0 K' U' w'->∃ rows tok r,U'.H[b]?=some (.cells [.sl k rows tok])/\rows[i]?=some r/\∀ v,qg K' (.agg r) v ->
    ∃ f tmps asn body,(Instr.yield L #[.int .i64 i,v]).run P w'=.ok (.round L f tmps asn body) w' /\
     RoundIn Fence.wide 0 P L f tmps asn body w' (fun e w''=>e=.returned (.bool true)/\∃ K'' U'',K'.le K''/\WRel G w0 ro0 K'' U'' w''/\S i U'')) ->
  CallsIn Fence.wide 0 P gb #[.func (.yield L) #[] #[],.pointer (some ⟨B,0,none⟩)] w (fun e w'=>(∃ v,e=.returned v)/\∃ K' U',K.le K'/\WRel G w0 ro0 K' U' w'/\S 0 U')
def FwOk (P:Program)(G:Glo)(gb:FuncId)(cap:List AV)(pre:St->Prop)(vals:List AV):Prop :=
 bodied P gb=true/\∀ (w0:World) (ro0:Nat->Nat->Option Value) (L:Nat) (K:Kn) (U:St) (w:World) (vcap:Array Value) (S:Nat->St->Prop),
  WRel G w0 ro0 K U w->qh K cap vcap.toList->(∀ i U,S i U->pre U)->S 0 U ->
  (∀ i x U' K' w',vals[i]?=some x->S i U'->K.le K'->WRel G w0 ro0 K' U' w'->∀ v,qg K' x v ->
    ∃ f tmps asn body,(Instr.yield L #[v]).run P w'=.ok (.round L f tmps asn body) w' /\
     RoundIn Fence.wide 0 P L f tmps asn body w' (fun e w''=>e=.returned (.bool true)/\∃ K'' U'',K'.le K''/\WRel G w0 ro0 K'' U'' w''/\S (i+1) U'')) ->
  CallsIn Fence.wide 0 P gb (#[.func (.yield L) #[] #[]]++vcap) w (fun e w'=>(∃ v,e=.returned v)/\∃ K' U',K.le K'/\WRel G w0 ro0 K' U' w'/\S vals.length U')
def qnG (Q:Exit->Env->St->Prop):Exit->Env->St->Prop
 | .goto _,_,_=>False
 | e,env,U=>Q e env U
def QP (A B:Env->St->(Exit->Env->St->Prop)->Prop)(k b pi pe:Nat)(env:Env):Nat->St->(St->Prop)->Prop
 | 0,U,Q=>Q U
 | i+1,U,Q=>match U.H[b]? with
  | some (.cells [.sl sz rows _])=>sz=k/\match rows[i]? with
   | some r=>A (upd (upd env (some pi) (.int .i64 i)) (some pe) (.agg r)) U (fun e env' U'=>e=.normal/\B env' U' (fun e _ U''=>e=.normal/\QP A B k b pi pe env i U'' Q))
   | none=>False
  | _=>False
def vcC (P:Program)(G:Glo)(o:Opts):Code->Env->St->(Exit->Env->St->Prop)->Prop
 | .skip,env,U,Q=>Q .normal env U
 | .ret,env,U,Q=>Q .ret env U
 | .exit id,env,U,Q=>Q (.exit id) env U
 | .seq x y,env,U,Q=>vcC P G o x env U (wo (fun env U=>vcC P G o y env U Q) Q)
 | .cond c x y,env,U,Q=>match ev G env c with
  | .bool b=>qe8 b (vcC P G o x env U Q) (vcC P G o y env U Q)
  | _=>False
 | .block id c,env,U,Q=>vcC P G o c env U (wq id Q)
 | .region id ops d,env,U,Q=>match d,o.fk.lookup id with
  | true,some (s,ac)=>vcS P G o.mu ac ops s env U (fun env U=>Q .normal env U)
  | d,_=>vcR P G o.mu ops d (o.lw.contains id) ops.toList env U (fun env U=>Q .normal env U)
 | .loop c,env,U,Q=>∃ (I:Nat->Env->St->Prop) (n:Nat),I n env U/\∀ n env U,I n env U->vcC P G o c env U (wo (fun env' U'=>∃ n',n' < n/\I n' env' U') Q)
 | .rangeFunc g ps x y,env,U,Q=>match ps.toList,ev G env g with
  | [pi,pe],.fn gb [] [.ptr b 0]=>∃ k,G.NoX/\BwOk P G gb k/\(match U.H[b]? with
   | some (.cells [.sl _ rows _])=>rows.length<2 ^ 62/\QP (fun env U Q=>vcC P G o x env U Q) (fun env U Q=>vcC P G o y env U Q) k b pi pe env rows.length U (fun U=>Q .normal env U)
   | _=>False)
  | [pe],.fn gb [] cap=>∃ (pre:St->Prop) (vals:List AV) (J:Nat->St->Prop),G.NoX/\FwOk P G gb cap pre vals/\(∀ i U,J i U->pre U)/\J 0 U /\
   (∀ i v U,vals[i]?=some v->J i U->vcC P G o x (upd env (some pe) v) U (fun e env' U'=>e=.normal/\vcC P G o y env' U' (fun e _ U''=>e=.normal/\J (i+1) U''))) /\
   ∀ U,J vals.length U->Q .normal env U
  | _,_=>False
 | .scope c,env,U,Q=>vcC P G o c env U (qnG Q)
 | .label _,env,U,Q=>Q .normal env U
 | _,_,_,_=>False
section
variable {P:Program}{G:Glo}{N:Nat}{env:Env}{U:St}{ops:Array Oper}{mu:Bool}{ac:List Nat}
theorem AWp.any {id:Nat}{Q:Exit->Env->St->Prop}(hm:P.follows .mixedOrders=true)(hs:vu N ops=true)(h:Jx P G ops mu ac (fun env U=>Q .normal env U) ops.size (Array.replicate ops.size false) env U) :
 AWp P G N (.region id ops true) env U Q:=by
 intro w0 ro0 K a w hw he;refine wp_region_any hm ?_;exact Qb hs (Q:=ZW G w0 ro0 K N a.defers Q) ops.size (Array.replicate ops.size false) env U K a { w with drawn:=w.drawn+1 }
  (fun K' env' U' a' w' h1 h2 h3 hd h4=>.inl ⟨K',env',U',h1,h2,h3,.same hd,h4⟩) (fun c K' U' a' w' h1 h2 hd hx=>.inr ⟨c,K',U',rfl,h1,h2,.same hd,hx⟩) hw.drew he h
end
def qeW (ro:Option Nat)(P:Program)(G:Glo)(N:Nat)(c:Code)(env:Env)(U:St)(Q:Exit->Env->St->Prop):Prop :=
 ∀ (w0:World) (ro0:Nat->Nat->Option Value) (K:Kn) (a:Act) (w:World),WRel G w0 ro0 K U w->ERel K N env a->c.wpIn (FR ro) 0 P (ZW G w0 ro0 K N a.defers Q) a w
section
variable {P:Program}{G:Glo}{N:Nat}{ro:Option Nat}{env:Env}{U:St}{Q:Exit->Env->St->Prop}
theorem qeW.seq {x y:Code}(h:qeW ro P G N x env U (wo (fun env U=>qeW ro P G N y env U Q) Q)):qeW ro P G N (.seq x y) env U Q:=by
 intro w0 ro0 K a w hw he;refine wpIn_seq (wpIn_mono (h w0 ro0 K a w hw he) ?_);intro e a' w' hp;rcases hp with ⟨K',env',U',h1,h2,h3,hd,h4⟩|⟨c,K',U',rfl,hp⟩
 case inr=>exact .inr ⟨c,K',U',rfl,hp⟩
 cases e with
 | normal=>exact wpIn_mono (h4 w0 ro0 K' a' w' h2 h3) fun e a w x=>x.after h1 hd
 | _=>exact .inl ⟨K',env',U',h1,h2,h3,hd,h4⟩
theorem qeW.block {id:Nat}{c:Code}(h:qeW ro P G N c env U (wq id Q)):qeW ro P G N (.block id c) env U Q:=by
 intro w0 ro0 K a w hw he;refine wpIn_block (wpIn_mono (h w0 ro0 K a w hw he) ?_);intro e a' w' hp;rcases hp with ⟨K',env',U',h1,h2,h3,hd,h4⟩|⟨c,K',U',rfl,hp⟩
 case inr=>exact .inr ⟨c,K',U',rfl,hp⟩
 cases e with
 | exit id'=>
  simp only[wq]at h4;simp only[Exit.inBlock];split
  . rename_i e;rw[if_pos e]at h4;exact .inl ⟨K',env',U',h1,h2,h3,hd,h4⟩
  . rename_i e;rw[if_neg e]at h4;exact .inl ⟨K',env',U',h1,h2,h3,hd,h4⟩
 | _=>exact .inl ⟨K',env',U',h1,h2,h3,hd,h4⟩
theorem qeW.mono {c:Code}{Q':Exit->Env->St->Prop}(h:qeW ro P G N c env U Q)(hq:∀ e env U,Q e env U->Q' e env U):qeW ro P G N c env U Q' :=
 fun w0 ro0 K a w hw he=>wpIn_mono (h w0 ro0 K a w hw he) fun e a w x=>x.mono hq
end
theorem jI {P:Program}{G:Glo}{N:Nat}{ro:Option Nat}{o:Opts}(hX:G.NoX):∀ (c:Code) {env:Env} {U:St} {Q:Exit->Env->St->Prop},zT N c=true->vcC P G o c env U Q->qeW ro P G N c env U Q
 | .skip,env,U,_,_,h=>fun w0 ro0 K a w hw he=>wpIn_skip (.inl ⟨K,env,U,Kn.le_refl K,hw,he,.same rfl,h⟩)
 | .exit id,env,U,_,_,h=>fun w0 ro0 K a w hw he=>wpIn_exit (.inl ⟨K,env,U,Kn.le_refl K,hw,he,.same rfl,h⟩)
 | .seq x y,env,U,Q,hk,h=>by
  simp only[zT,qqi]at hk;exact qeW.seq (qeW.mono (jI hX x hk.1 (by simpa only[vcC] using h)) fun e env U hq=>by
   cases e<;>first | exact jI hX y hk.2 hq | exact hq)
 | .cond c x y,env,U,Q,hk,h=>by
  simp only[zT,qqi]at hk;simp only[vcC]at h;split at h
  . rename_i b hb;intro w0 ro0 K a w hw he;have:=Q9 hw he c;rw[hb]at this;simp only[qg]at this;exact wpIn_cond_split this (fun e=>jI hX x hk.1 (h.1 e) w0 ro0 K a w hw he) (fun e=>jI hX y hk.2 (h.2 e) w0 ro0 K a w hw he)
  . exact h.elim
 | .block id c,_,_,_,hk,h=>qeW.block (jI hX c hk (by simpa only[vcC] using h))
 | .region id ops false,env,U,Q,hk,h=>by
  have h':vcR P G o.mu ops false (o.lw.contains id) ops.toList env U (fun env U=>Q .normal env U):=by
   simp only[vcC]at h;exact h
  intro w0 ro0 K a w hw he;have:=wpIn_region_list (F:=FR ro) (n:=0) (P:=P) (id:=id) (ops:=ops) (a:=a) (w:=w) (Q:=ZW G w0 ro0 K N a.defers Q) (by
   have:=JY hX (w0:=w0) (ro0:=ro0) (by simpa only[zT] using hk) (ro:=ro) (n:=0) (more:=[]) ops.toList env U K a w (by simp) h' hw he (Q':=ZW G w0 ro0 K N a.defers Q) fun K' env' U' a' w' h1 h2 h3 hd _ h4=>.inl ⟨K',env',U',h1,h2,h3,.same hd,h4⟩
   simpa using this)
  exact this
 | .region id ops true,_,_,_,hk,_=>by simp[zT]at hk
 | .ret,_,_,_,hk,_=>by simp[zT]at hk
 | .loop c,_,_,_,hk,_=>by simp[zT]at hk
 | .rangeFunc ..,_,_,_,hk,h=>by simp[zT]at hk
 | .scope c,_,_,_,hk,h=>by simp[zT]at hk
 | .label l,_,_,_,hk,h=>by simp[zT]at hk
 | .goto l,_,_,_,hk,h=>by simp[zT]at hk
 | .refuse w,_,_,_,hk,h=>by simp[zT]at hk
theorem ZQ {P:Program}{g:FuncId}(hb:bodied P g=true)(args:Array Value)(w:World):(callFunc g args).run P w=.ok (.enter g args) w:=by
 cases hg:P.funcs[g]? with
 | none=>simp[bodied,hg]at hb
 | some fn=>
  simp[bodied,hg]at hb;obtain⟨b1,b2⟩:=hb;have hbn:¬ fn.body=none:=by intro e;simp[e]at b1
  simp[callFunc,hg,b2,hbn]
theorem AWp.range {P:Program}{G:Glo}(hX:G.NoX){N:Nat}{env:Env}{U:St}{Q:Exit->Env->St->Prop}{o:Opts}{g:Operand}{pi pe:Nat}{x y:Code}{gb b k:Nat}{sz:Nat}{rows:List (List AV)}{tok:Tok}
 (hpi:pi<N) (hpe:pe<N) (hx:zT N x=true) (hy:zT N y=true) (hg:ev G env g=.fn gb [] [.ptr b 0]) (hbw:BwOk P G gb k) (hlen:rows.length<2 ^ 62) (hb:U.H[b]?=some (.cells [.sl sz rows tok]))
 (h:QP (fun env U Q=>vcC P G o x env U Q) (fun env U Q=>vcC P G o y env U Q) k b pi pe env rows.length U (fun U=>Q .normal env U)):AWp P G N (.rangeFunc g #[pi,pe] x y) env U Q:=by
 intro w0 ro0 K a w hw he;refine (wpIn_wide (n:=0)).1 (wpIn_rangeFunc fun fn hfn=>?_);have hv:=Q9 hw he g;rw[hg]at hv;simp only[qg,qh]at hv;obtain⟨va,vb,e1,e2,v1,vr,e3,⟨B,hB,e4⟩,e5⟩:=hv;have ea:va = #[]:=qrN (by rw[<- qrc,e2];rfl);have eb:vb = #[.pointer (some ⟨B,0,none⟩)]:=by rw[<- qr8 (xs:=vb),e3,e4,e5]
 subst ea eb;obtain⟨rec,hrec⟩:∃ rec:LoopState->Option Code->Loop,rec=fun st pe'=>{ state:=st,pending:=pe',fn,tmps:=a.tmps,params:=#[pi,pe],assign:=x,body:=y,defers:=w.heap.size }:=⟨_,rfl⟩
 obtain⟨W1,hW1⟩:∃ W1,(w.alloc (.deferred (some []))).alloc (.loop (rec .ready none))=W1:=⟨_,rfl⟩;have hw1:=hw.allocFix (.deferred (some []));have hw2:=hw1.allocFix (.loop (rec .ready none));rw[hW1,World.size_alloc]at hw2;obtain⟨K2,hK2⟩:∃ K2,((K.withFx fun b=>if b=w.heap.size then some (.deferred (some [])) else K.fx b).withFx fun b=>if b=w.heap.size+1 then some (.loop (rec .ready none)) else (K.withFx fun b=>if b=w.heap.size then some (.deferred (some [])) else K.fx b).fx b)=K2:=⟨_,rfl⟩;rw[hK2]at hw2;have hleK:K.le K2:=by
  rw[<- hK2];refine Kn.le_trans (Kn.le_fx fun B o e=>?_) (Kn.le_fx fun B o e=>?_)
  . have:=hw.fx_lt e;rw[if_neg (by omega)];exact e
  . have:=hw1.fx_lt e;rw[World.size_alloc]at this;rw[if_neg (by omega)];exact e
 have hL2:K2.fx (w.heap.size+1)=some (.loop (rec .ready none)):=by rw[<- hK2];simp[Kn.withFx]
 have hD2:K2.fx w.heap.size=some (.deferred (some [])):=by rw[<- hK2];simp[Kn.withFx]
 refine⟨w.heap.size+1,[mark w.heap.size],W1,{ target:=.fn (.func gb) #[.pointer (some ⟨B,0,none⟩)],args:=#[.func (.yield (w.heap.size+1)) #[] #[]] },W1,gb,
  #[.func (.yield (w.heap.size+1)) #[] #[]]++#[.pointer (some ⟨B,0,none⟩)],W1,?_,?_,fun _ _=>trivial,?_,fun e=>by simp[Fence.wide]at e,?_⟩
 . rw[<- hW1,hrec];exact run_enterLoop_outer _ _ _ _ _
 . simp only[resolve,e1];simp[go_sem]
 . simp[invoke,go_sem,ZQ hbw.1]
 . refine CallsIn.mono (hbw.2 w0 ro0 b (w.heap.size+1) B K2 U W1 sz rows tok (fun i U=>QP (fun env U Q=>vcC P G o x env U Q) (fun env U Q=>vcC P G o y env U Q) k b pi pe env i U (fun U=>Q .normal env U)) hw2 (hleK.m _ _ hB) hb hlen h ?_) ?_
   . -- one round
     intro i U' K' w' hr hle' hw';simp only[QP]at hr;split at hr
     . rename_i sz' rows' tok' hb';obtain⟨hszk,hr⟩:=hr;subst hszk;split at hr
       . rename_i r hri;refine⟨rows',tok',r,hb',hri,fun v hv=>?_⟩;have hLf:=hle'.fx _ _ hL2;have hl:=(hw'.fx _ _ hLf).1;refine⟨fn,_,x,y,by have:=run_yield (P:=P) (args:=#[.int .i64 i,v]) hl (by rw[hrec];rfl);rw[hrec]at this;exact this,roundIn_of_wpIn hfn ?_⟩;have he':ERel K' N (upd (upd env (some pi) (.int .i64 i)) (some pe) (.agg r)) { tmps:=(a.tmps.setIfInBounds pi (.int .i64 i)).setIfInBounds pe v,defers:=[] }:=by
          have h0:=he.mono (Kn.le_trans hleK hle');have h1:=(h0.put (dst:=some pi) (fun d hd=>by cases hd;exact hpi) (v:=.int .i64 i) (v':=.int .i64 i) (by simp[qg])).put (dst:=some pe) (fun d hd=>by cases hd;exact hpe) hv;exact⟨h1.size,h1.val⟩
         have hasn:=jI hX (ro:=some (w.heap.size+1)) x hx hr w0 ro0 K' _ w' hw' he';refine wpIn_mono (F:=FR (some (w.heap.size+1))) (show Code.wpIn (FR (some (w.heap.size+1))) 0 P x _ _ w' from by simpa using hasn) ?_;rintro e a1 w1 (⟨K3,env3,U3,g1,g2,g3,_,rfl,g4⟩|⟨_,_,U3,_,_,_,_,g⟩)
         case inr=>exact (hX _ U3 g).elim
         have hL3:=g1.fx _ _ hLf;have hl3:=(g2.fx _ _ hL3).1;refine⟨_,run_beginRound hl3 (by rw[hrec]),?_⟩;have hw4:=g2.refix hL3 (by intros;intro e;cases e) (.loop { rec .ready none with state:=.busy });have hbody:=jI hX (ro:=some (w.heap.size+1)) y hy g4 w0 ro0 _ a1 _ hw4 (g3.refx _);refine wpIn_mono (F:=FR (some (w.heap.size+1))) hbody ?_;rintro e a5 w5 (⟨K5,env5,U5,k1,k2,k3,_,rfl,k4⟩|⟨_,_,U5,_,_,_,_,g⟩)
         case inr=>exact (hX _ U5 g).elim
         have hL5:K5.fx (w.heap.size+1)=some (.loop { rec .ready none with state:=.busy }):=k1.fx _ _ (by simp[Kn.withFx]);have hl5:=(k2.fx _ _ hL5).1;have hw6:=k2.refix hL5 (by intros;intro e;cases e) (.loop (rec .ready none));refine⟨.bool true,w5.putObj (w.heap.size+1) (.loop (rec .ready none)),?_,rfl,_,U5,?_,hw6,k4⟩
         . have:=run_endRound (P:=P) none hl5;rw[hrec]at this ⊢;exact this
         . refine Kn.le_trans g1 (Kn.le_swap k1 fun B o e=>?_);by_cases hBL:B=w.heap.size+1
           . subst hBL;rw[hL3]at e;simp[e]
           . rw[if_neg hBL];refine k1.fx B o ?_;simp only[Kn.withFx,if_neg hBL];exact e
       . exact hr.elim
     . exact hr.elim
   . -- behind the QP
     rintro e w' ⟨⟨v,rfl⟩,K',U',hle',hw',hS⟩;have hLf:=hle'.fx _ _ hL2;have hl:=(hw'.fx _ _ hLf).1;have hw3:=(hw'.refix hLf (by intros;intro e;cases e) (.loop { rec .ready none with state:=.exhausted })).unfix (f:=fun B=>if B=w.heap.size+1 then none else K'.fx B) (by
      intro B o e;by_cases hBL:B=w.heap.size+1
      . rw[if_pos hBL]at e;cases e
      . rw[if_neg hBL]at e;simp only[Kn.withFx,if_neg hBL];exact e)
     refine⟨none,w'.putObj (w.heap.size+1) (.loop { rec .ready none with state:=.exhausted }),?_,?_⟩
     . have:=run_endLoop (P:=P) hl (by rw[hrec];simp);rw[hrec]at this ⊢;exact this
     . have hle3:K.le (K'.withFx fun B=>if B=w.heap.size+1 then none else K'.fx B):=by
        have:(K.withFx K.fx).le K':=Kn.le_trans hleK hle';refine Kn.le_swap this fun B o e=>?_
        have:=hw.fx_lt e;rw[if_neg (by omega)];exact hle'.fx _ _ (hleK.fx _ _ e)
       have hfin:QP (fun env U Q=>vcC P G o x env U Q) (fun env U Q=>vcC P G o y env U Q) k b pi pe env 0 U' (fun U=>Q .normal env U):=hS;simp only[QP]at hfin;refine .inl ⟨_,env,U',hle3,hw3,⟨he.size,(he.mono hle3).val⟩,⟨[w.heap.size],by simp,rfl,fun D hD=>?_⟩,hfin⟩;simp only[qqQ]at hD;subst hD;refine⟨?_,?_⟩
       . cases e:K.fx w.heap.size with
         | none=>rfl
         | some o=>have:=hw.fx_lt e;omega
       . simp only[Kn.withFx];rw[if_neg (by omega)];exact hle'.fx _ _ hD2
theorem AWp.rangeF {P:Program}{G:Glo}(hX:G.NoX){N:Nat}{env:Env}{U:St}{Q:Exit->Env->St->Prop}{o:Opts}{g:Operand}{pe:Nat}{x y:Code}{gb:Nat}{cap vals:List AV}{pre:St->Prop}{J:Nat->St->Prop}
 (hpe:pe<N) (hx:zT N x=true) (hy:zT N y=true) (hg:ev G env g=.fn gb [] cap) (hfw:FwOk P G gb cap pre vals) (hpre:∀ i U,J i U->pre U) (hJ:J 0 U)
 (hs:∀ i v U,vals[i]?=some v->J i U->vcC P G o x (upd env (some pe) v) U (fun e env' U'=>e=.normal/\vcC P G o y env' U' (fun e _ U''=>e=.normal/\J (i+1) U'')))
 (hq:∀ U,J vals.length U->Q .normal env U):AWp P G N (.rangeFunc g #[pe] x y) env U Q:=by
 intro w0 ro0 K a w hw he;refine (wpIn_wide (n:=0)).1 (wpIn_rangeFunc fun fn hfn=>?_);have hv:=Q9 hw he g;rw[hg]at hv;simp only[qg,qh]at hv;obtain⟨va,vb,e1,e2,e3⟩:=hv;have ea:va = #[]:=qrN (by rw[<- qrc,e2];rfl);subst ea;obtain⟨rec,hrec⟩:∃ rec:LoopState->Option Code->Loop,rec=fun st pe'=>{ state:=st,pending:=pe',fn,tmps:=a.tmps,params:=#[pe],assign:=x,body:=y,defers:=w.heap.size }:=⟨_,rfl⟩
 obtain⟨W1,hW1⟩:∃ W1,(w.alloc (.deferred (some []))).alloc (.loop (rec .ready none))=W1:=⟨_,rfl⟩;have hw1:=hw.allocFix (.deferred (some []));have hw2:=hw1.allocFix (.loop (rec .ready none));rw[hW1,World.size_alloc]at hw2;obtain⟨K2,hK2⟩:∃ K2,((K.withFx fun b=>if b=w.heap.size then some (.deferred (some [])) else K.fx b).withFx fun b=>if b=w.heap.size+1 then some (.loop (rec .ready none)) else (K.withFx fun b=>if b=w.heap.size then some (.deferred (some [])) else K.fx b).fx b)=K2:=⟨_,rfl⟩;rw[hK2]at hw2;have hleK:K.le K2:=by
  rw[<- hK2];refine Kn.le_trans (Kn.le_fx fun B o e=>?_) (Kn.le_fx fun B o e=>?_)
  . have:=hw.fx_lt e;rw[if_neg (by omega)];exact e
  . have:=hw1.fx_lt e;rw[World.size_alloc]at this;rw[if_neg (by omega)];exact e
 have hL2:K2.fx (w.heap.size+1)=some (.loop (rec .ready none)):=by rw[<- hK2];simp[Kn.withFx]
 have hD2:K2.fx w.heap.size=some (.deferred (some [])):=by rw[<- hK2];simp[Kn.withFx]
 refine⟨w.heap.size+1,[mark w.heap.size],W1,{ target:=.fn (.func gb) vb,args:=#[.func (.yield (w.heap.size+1)) #[] #[]] },W1,gb,
  #[.func (.yield (w.heap.size+1)) #[] #[]]++vb,W1,?_,?_,fun _ _=>trivial,?_,fun e=>by simp[Fence.wide]at e,?_⟩
 . rw[<- hW1,hrec];exact run_enterLoop_outer _ _ _ _ _
 . simp only[resolve,e1];simp[go_sem]
 . simp[invoke,go_sem,ZQ hfw.1]
 . refine CallsIn.mono (hfw.2 w0 ro0 (w.heap.size+1) K2 U W1 vb J hw2 (qh.mono hleK _ e3) hpre hJ ?_) ?_
   . -- one round
     intro i xv U' K' w' hxv hr0 hle' hw' v hv;have hr:=hs i xv U' hxv hr0;have hLf:=hle'.fx _ _ hL2;have hl:=(hw'.fx _ _ hLf).1;refine⟨fn,_,x,y,by have:=run_yield (P:=P) (args:=#[v]) hl (by rw[hrec];rfl);rw[hrec]at this;exact this,roundIn_of_wpIn hfn ?_⟩
     . have he':ERel K' N (upd env (some pe) xv) { tmps:=a.tmps.setIfInBounds pe v,defers:=[] }:=by
        have h0:=he.mono (Kn.le_trans hleK hle');have h1:=h0.put (dst:=some pe) (fun d hd=>by cases hd;exact hpe) hv;exact⟨h1.size,h1.val⟩
       have hasn:=jI hX (ro:=some (w.heap.size+1)) x hx hr w0 ro0 K' _ w' hw' he';refine wpIn_mono (F:=FR (some (w.heap.size+1))) (show Code.wpIn (FR (some (w.heap.size+1))) 0 P x _ _ w' from by simpa using hasn) ?_;rintro e a1 w1 (⟨K3,env3,U3,g1,g2,g3,_,rfl,g4⟩|⟨_,_,U3,_,_,_,_,g⟩)
       case inr=>exact (hX _ U3 g).elim
       have hL3:=g1.fx _ _ hLf;have hl3:=(g2.fx _ _ hL3).1;refine⟨_,run_beginRound hl3 (by rw[hrec]),?_⟩;have hw4:=g2.refix hL3 (by intros;intro e;cases e) (.loop { rec .ready none with state:=.busy });have hbody:=jI hX (ro:=some (w.heap.size+1)) y hy g4 w0 ro0 _ a1 _ hw4 (g3.refx _);refine wpIn_mono (F:=FR (some (w.heap.size+1))) hbody ?_;rintro e a5 w5 (⟨K5,env5,U5,k1,k2,k3,_,rfl,k4⟩|⟨_,_,U5,_,_,_,_,g⟩)
       case inr=>exact (hX _ U5 g).elim
       have hL5:K5.fx (w.heap.size+1)=some (.loop { rec .ready none with state:=.busy }):=k1.fx _ _ (by simp[Kn.withFx]);have hl5:=(k2.fx _ _ hL5).1;have hw6:=k2.refix hL5 (by intros;intro e;cases e) (.loop (rec .ready none));refine⟨.bool true,w5.putObj (w.heap.size+1) (.loop (rec .ready none)),?_,rfl,_,U5,?_,hw6,k4⟩
       . have:=run_endRound (P:=P) none hl5;rw[hrec]at this ⊢;exact this
       . refine Kn.le_trans g1 (Kn.le_swap k1 fun B o e=>?_);by_cases hBL:B=w.heap.size+1
         . subst hBL;rw[hL3]at e;simp[e]
         . rw[if_neg hBL];refine k1.fx B o ?_;simp only[Kn.withFx,if_neg hBL];exact e
   . -- behind the QP
     rintro e w' ⟨⟨v,rfl⟩,K',U',hle',hw',hS⟩;have hLf:=hle'.fx _ _ hL2;have hl:=(hw'.fx _ _ hLf).1;have hw3:=(hw'.refix hLf (by intros;intro e;cases e) (.loop { rec .ready none with state:=.exhausted })).unfix (f:=fun B=>if B=w.heap.size+1 then none else K'.fx B) (by
      intro B o e;by_cases hBL:B=w.heap.size+1
      . rw[if_pos hBL]at e;cases e
      . rw[if_neg hBL]at e;simp only[Kn.withFx,if_neg hBL];exact e)
     refine⟨none,w'.putObj (w.heap.size+1) (.loop { rec .ready none with state:=.exhausted }),?_,?_⟩
     . have:=run_endLoop (P:=P) hl (by rw[hrec];simp);rw[hrec]at this ⊢;exact this
     . have hle3:K.le (K'.withFx fun B=>if B=w.heap.size+1 then none else K'.fx B):=by
        have:(K.withFx K.fx).le K':=Kn.le_trans hleK hle';refine Kn.le_swap this fun B o e=>?_
        have:=hw.fx_lt e;rw[if_neg (by omega)];exact hle'.fx _ _ (hleK.fx _ _ e)
       have hfin:=hq U' hS;refine .inl ⟨_,env,U',hle3,hw3,⟨he.size,(he.mono hle3).val⟩,⟨[w.heap.size],by simp,rfl,fun D hD=>?_⟩,hfin⟩;simp only[qqQ]at hD;subst hD;refine⟨?_,?_⟩
       . cases e:K.fx w.heap.size with
         | none=>rfl
         | some o=>have:=hw.fx_lt e;omega
       . simp only[Kn.withFx];rw[if_neg (by omega)];exact hle'.fx _ _ hD2
theorem j8 {P:Program}{G:Glo}{N:Nat}{o:Opts}(hm:P.follows .mixedOrders=true):∀ (c:Code) {env:Env} {U:St} {Q:Exit->Env->St->Prop},jC N o c=true->vcC P G o c env U Q->AWp P G N c env U Q
 | .skip,_,_,_,_,h=>AWp.skip h
 | .ret,_,_,_,_,h=>AWp.ret h
 | .exit id,_,_,_,_,h=>AWp.exit h
 | .seq x y,env,U,Q,hk,h=>by
  simp only[jC,qqi]at hk;exact AWp.seq (AWp.mono (j8 hm x hk.1 (by simpa only[vcC] using h)) fun e env U hq=>by
   cases e<;>first | exact j8 hm y hk.2 hq | exact hq)
 | .cond c x y,env,U,Q,hk,h=>by
  simp only[jC,qqi]at hk;simp only[vcC]at h;split at h
  . rename_i b hb;exact AWp.cond hb (fun e=>j8 hm x hk.1 (h.1 e)) (fun e=>j8 hm y hk.2 (h.2 e))
  . exact h.elim
 | .block id c,_,_,_,hk,h=>AWp.block (j8 hm c hk (by simpa only[vcC] using h))
 | .region id ops false,env,U,Q,hk,h=>by
  simp only[jC,qqi]at hk;have h':vcR P G o.mu ops false (o.lw.contains id) ops.toList env U (fun env U=>Q .normal env U):=by
   simp only[vcC]at h;exact h
  intro w0 ro0 K a w hw he;have:=wp_region_lit (P:=P) (id:=id) (l:=ops.toList) (a:=a) (w:=w) (Q:=ZW G w0 ro0 K N a.defers Q) (qab (by simpa using hk.1) ops.toList env U K a w (by simp) (by simpa using h') hw he (fun K' env' U' a' w' h1 h2 h3 hd h4=>.inl ⟨K',env',U',h1,h2,h3,.same hd,h4⟩) fun c K' U' a' w' h1 h2 hd hx=>.inr ⟨c,K',U',rfl,h1,h2,.same hd,hx⟩);simpa using this
 | .region id ops true,env,U,Q,hk,h=>by
  simp only[jC,qqi,qsi,qtT,qqy,false_or]at hk;simp only[vcC]at h
  cases hl:o.fk.lookup id with
  | none=>
   rw[hl]at hk h;simp only at hk h;refine AWp.any hm hk.1 (mu:=o.mu) (ac:=if o.lw.contains id then [ops.size-1] else []) ?_;have:=qhU (P:=P) (G:=G) (ops:=ops) (lw:=o.lw.contains id) (mu:=o.mu) ops.toList 0 (Array.replicate ops.size false) env U (by simp) (by simp) (by simpa[qnt] using hk.2) h;simpa using this
  | some p=>
   obtain⟨s,ac⟩:=p;rw[hl]at hk h;simp only[qqi,decide_eq_true_eq]at hk h;exact AWp.any hm hk.1 (mu:=o.mu) (ac:=ac) (qb5 s ops.size _ env U hk.2.1 hk.2.2 h)
 | .loop c,_,_,_,hk,h=>by
  simp only[vcC]at h;obtain⟨I,n,h0,hr⟩:=h;exact AWp.loop I n h0 fun n env U hI=>j8 hm c hk (hr n env U hI)
 | .rangeFunc g ps x y,env,U,Q,hk,h=>by
  simp only[jC,qqi]at hk;obtain⟨⟨hk1,hk2⟩,hk3⟩:=hk;simp only[vcC]at h;split at h
  . rename_i pi pe gb b hps hg;obtain⟨k,hX,hbw,h⟩:=h;rw[hps]at hk1;simp only[qqi,decide_eq_true_eq]at hk1;split at h
    . rename_i sz rows tok hb;have:ps = #[pi,pe]:=by rw[<- qr8 (xs:=ps),hps]
      subst this;exact AWp.range hX hk1.1 hk1.2 hk2 hk3 hg hbw h.1 hb h.2
    . exact h.elim
  . rename_i pe gb cap hps hg;obtain⟨pre,vals,J,hX,hfw,hpre,hJ,hs,hq⟩:=h;rw[hps]at hk1;simp only[decide_eq_true_eq]at hk1;have:ps = #[pe]:=by rw[<- qr8 (xs:=ps),hps]
    subst this;exact AWp.rangeF hX hk1 hk2 hk3 hg hfw hpre hJ hs hq
  . exact h.elim
 | .scope c,env,U,Q,hk,h=>by
  simp only[jC]at hk;intro w0 ro0 K a w hw he;refine wp_scope_straight (wp_mono (j8 hm c hk (by simpa only[vcC] using h) w0 ro0 K a w hw he) ?_);rintro e a' w' (⟨K',env',U',h1,h2,h3,hd,h4⟩|⟨ch,K',U',rfl,hp⟩)
  . cases e with
    | goto l=>exact h4.elim
    | _=>exact .inl ⟨K',env',U',h1,h2,h3,hd,h4⟩
  . exact .inr ⟨ch,K',U',rfl,hp⟩
 | .label l,env,U,Q,hk,h=>fun w0 ro0 K a w hw he=>wp_label (.inl ⟨K,env,U,Kn.le_refl K,hw,he,.same rfl,h⟩)
 | .goto l,_,_,_,hk,h=>by simp[jC]at hk
 | .refuse w,_,_,_,hk,h=>by simp[jC]at hk
section
variable {P:Program}{G:Glo}{U:St}{f:FuncId}{args args':List AV}{r r':AV}
theorem Pure.sub (h:Pure P G f args' r')(ha:zu args args')(hr:Leq r' r):Pure P G f args r :=
 ⟨h.1,fun w0 ro vs hg hro hvs=>(h.2 w0 ro vs hg hro (zu.rel _ _ ha hvs)).mono fun e w' ⟨v,ro',h1,h2,h3,h4,h5,h6⟩=>⟨v,ro',h1,h2,h3,h4,h5,Leq.rel _ _ hr h6⟩⟩
theorem Pure.less (h:Pure P G f args' r)(ha:zu args args'):Pure P G f args r:=h.sub ha (Leq.refl r)
theorem qf.pure {Q:AV->St->Prop}(h:Pure P G f args' r)(hno:qv (args.map plain)=true)(ha:zu (args.map plain) args')(hq:Q r U):qf P G f args U Q :=
 Qf.acall (.inl ⟨hno,h.less ha⟩) hq
theorem Qf.pure (h:Pure P G f args' r)(hno:qv (args.map plain)=true)(ha:zu (args.map plain) args'):Qf P G f args U r:=.inl ⟨hno,h.less ha⟩
theorem Qf.lent (h:Pure P G f args' r)(hb:bare r=true)(ha:zu (args.map (frz U.H 8)) args'):Qf P G f args U r:=.inr ⟨hb,h.less ha⟩
theorem qb.of {d:Bool}{Q:AV->St->Prop}(h:Qf P G f args U r)(hq:Q r U):qb P G d f args U Q:=by
 cases d
 . exact h.acall hq
 . exact⟨r,h,hq⟩
theorem qb.pure {d:Bool}{Q:AV->St->Prop}(h:Pure P G f args' r)(hno:qv (args.map plain)=true)(ha:zu (args.map plain) args')(hq:Q r U):qb P G d f args U Q:=.of (.pure h hno ha) hq
theorem qb.lent {d:Bool}{Q:AV->St->Prop}(h:Pure P G f args' r)(hb:bare r=true)(ha:zu (args.map (frz U.H 8)) args')(hq:Q r U):qb P G d f args U Q:=.of (.lent h hb ha) hq
def qir (P:Program)(deep:Bool)(rs:List ResultVar)(r:AV)(env:Env)(U:St):Prop :=
 match qdR (Dof P) rs env U with
 | some l=>match deep with
  | false=>qR (fin U.H (KM l))=true/\Leq (fin U.H (KM l)) r
  | true=>qR (frz U.H 8 (KM l))=true/\Leq (frz U.H 8 (KM l)) r
 | none=>False
def qbr (P:Program)(deep:Bool)(rs:List ResultVar)(r:AV):Exit->Env->St->Prop
 | .ret,env,U=>qir P deep rs r env U
 | .normal,env,U=>qir P deep rs r env U
 | _,_,_=>False
theorem Pure.vcO {G : Nat → AV} {fn : Func} {c : Code} (o : Opts) (deep : Bool) (hm : P.follows .mixedOrders = true) (hf : P.funcs[f]? = some fn) (hb : fn.body = some c) (hk : (jC fn.ntmps o c && decide (args.length ≤ fn.ntmps) && fn.name != "runtime.NumGoroutine") = true)
 (h:vcC P G o c (ZH args) ⟨[],[]⟩ (qbr P deep fn.results.toList r)):Pure P G f args r:=by
 simp only[qqi,decide_eq_true_eq,bne_iff_ne,ne_eq]at hk;refine Pure.of_body (qaF G) hf hb hk.2 hk.1.2 (AWp.mono (j8 hm c hk.1.1 h) fun e env U hq=>?_);have key:qir P deep fn.results.toList r env U->∃ l,qdR (Dof P) fn.results.toList env U=some l/\((qR (fin U.H (KM l))=true/\Leq (fin U.H (KM l)) r)\/(qR (frz U.H 8 (KM l))=true/\Leq (frz U.H 8 (KM l)) r)):=fun h=>by
  unfold qir at h;split at h
  . rename_i l hl;cases deep
    . exact⟨l,hl,.inl h⟩
    . exact⟨l,hl,.inr h⟩
  . exact h.elim
 cases e with
 | ret=>exact⟨.inl rfl,key hq⟩
 | normal=>exact⟨.inr rfl,key hq⟩
 | _=>exact hq.elim
theorem Pure.vc {G : Nat → AV} {fn : Func} {c : Code} (hm : P.follows .mixedOrders = true) (hf : P.funcs[f]? = some fn) (hb : fn.body = some c) (hk : (jC fn.ntmps o0 c && decide (args.length ≤ fn.ntmps) && fn.name != "runtime.NumGoroutine") = true)
 (h:vcC P G o0 c (ZH args) ⟨[],[]⟩ (qbr P false fn.results.toList r)):Pure P G f args r:=Pure.vcO o0 false hm hf hb hk h
end
end
end Go.Abs
end
section
namespace Go.Abs
open Go Go.RowKit
theorem zN {p q:Prop}(h:p=q):p=q:=by rw[h]
@[congr]theorem qmF {P:Program}{G:Glo}{d:Bool}{f:FuncId}{args args':List AV}{U:St}{Q:AV->St->Prop}(h:args=args'):qb P G d f args U Q=qb P G d f args' U Q:=by rw[h]
def qy (P:Program)(G:Glo)(o:Opts)(c:Code)(env:Env)(U:St)(Q:Exit->Env->St->Prop):Prop :=
 ∃ (I:Nat->Env->St->Prop) (n:Nat),I n env U/\∀ n env U,I n env U->vcC P G o c env U (wo (fun env' U'=>∃ n',n' < n/\I n' env' U') Q)
@[congr]theorem vcIf_congr {c c':Bool}{A B:Prop}(h:c=c'):qe8 c A B=qe8 c' A B:=by rw[h]
@[simp]theorem vcIf_true {A B:Prop}:qe8 true A B=A:=by simp[qe8]
@[simp]theorem vcIf_false {A B:Prop}:qe8 false A B=B:=by simp[qe8]
@[simp low]theorem vcIf_both {c:Bool}{A B:Prop}:qe8 c A B=((c=true->A)/\(c=false->B)):=zN rfl
@[simp]theorem upd_some {env:Env}{d i:Nat}{v:AV}:upd env (some d) v i=if i=d then v else env i:=rfl
@[simp]theorem upd_none {env:Env}{v:AV}:upd env none v=env:=rfl
section
variable {P:Program}{G:Glo}{o:Opts}{env:Env}{U:St}{Q:Exit->Env->St->Prop}
@[simp]theorem vc_skip:vcC P G o .skip env U Q=Q .normal env U:=by simp only[vcC]
@[simp]theorem vc_ret:vcC P G o .ret env U Q=Q .ret env U:=by simp only[vcC]
@[simp]theorem vc_exit {id:Nat}:vcC P G o (.exit id) env U Q=Q (.exit id) env U:=by simp only[vcC]
@[simp]theorem vc_seq {x y:Code}:vcC P G o (.seq x y) env U Q=vcC P G o x env U (wo (fun env U=>vcC P G o y env U Q) Q):=by simp only[vcC]
@[simp]theorem vc_block {id:Nat}{x:Code}:vcC P G o (.block id x) env U Q=vcC P G o x env U (wq id Q):=by simp only[vcC]
@[simp]theorem vc_loop {x:Code}:vcC P G o (.loop x) env U Q=qy P G o x env U Q:=by simp only[vcC]<;>rfl
@[simp]theorem vc_region {id:Nat}{ops:Array Oper}:vcC P G o (.region id ops false) env U Q=vcR P G o.mu ops false (o.lw.contains id) ops.toList env U (fun env U=>Q .normal env U):=by simp only[vcC]
@[simp]theorem vc_draw0 {id:Nat}{ops:Array Oper}:vcC P G o0 (.region id ops true) env U Q=vcR P G false ops true false ops.toList env U (fun env U=>Q .normal env U):=by simp[vcC,o0]
@[simp]theorem vc_cond {c:Operand}{x y:Code}{b:Bool}(h:ev G env c=.bool b):vcC P G o (.cond c x y) env U Q=qe8 b (vcC P G o x env U Q) (vcC P G o y env U Q):=by simp only[vcC,h]
@[simp]theorem o0_mu:o0.mu=false:=rfl
@[simp]theorem o0_lw:o0.lw=[]:=rfl
end
end Go.Abs
namespace Go.Abs
section
variable {P:Program}{G:Glo}{mu:Bool}{ops:Array Oper}{d lw:Bool}{env:Env}{U:St}{Q:Env->St->Prop}
@[simp]theorem vcR_nil:vcR P G mu ops d lw [] env U Q=Q env U:=zN rfl
@[simp]theorem qnW {dst:Option Nat}{op:Op}{type:TypeId}{pos:String}{after:Array Edge}{rest:List Oper} :
 vcR P G mu ops d false ({ dst:=dst,op:=op,type:=type,pos:=pos,after:=after,guard:=none }::rest) env U Q=jw P G mu d op env U (fun v U'=>vcR P G mu ops d false rest (upd env dst v) U' Q):=by
 rw[vcR,vcG];simp
def vg (P:Program)(G:Glo)(mu:Bool)(ops:Array Oper)(d:Bool)(x:Option Nat)(b:Bool)(dst:Option Nat)(op:Op)(rest:List Oper)(env:Env)(U:St)(Q:Env->St->Prop):Prop :=
 match x with
 | some t=>match env t with
  | .bool c=>qe8 (c==b) (jw P G mu d op (upd env (some t) (.bool b)) U (fun v U'=>vcR P G mu ops d false rest (upd (upd env (some t) (.bool b)) dst v) U' Q))
   (vcR P G mu ops d false rest (upd (upd env (some t) (.bool (!b))) dst (.tup [])) U Q)
  | .tup []=>vcR P G mu ops d false rest (upd env dst (.tup [])) U Q
  | _=>False
 | none=>vcR P G mu ops d false rest (upd env dst (.tup [])) U Q
@[congr]theorem qjV {x x':Option Nat}{b:Bool}{dst:Option Nat}{op:Op}{rest:List Oper}(h:x=x'):vg P G mu ops d x b dst op rest env U Q=vg P G mu ops d x' b dst op rest env U Q:=by rw[h]
@[simp]theorem qgy {dst:Option Nat}{op:Op}{type:TypeId}{pos:String}{after:Array Edge}{rest:List Oper}{j:Nat}{b:Bool} :
 vcR P G mu ops d false ({ dst:=dst,op:=op,type:=type,pos:=pos,after:=after,guard:=some (j,b) }::rest) env U Q=vg P G mu ops d ((ops[j]?).bind (·.dst)) b dst op rest env U Q:=by
 rw[vcR,vcG];simp only[qrV,qtO,qsu];rfl
@[simp]theorem qmE {t:Nat}{b c:Bool}{dst:Option Nat}{op:Op}{rest:List Oper}(h:env t=.bool c):vg P G mu ops d (some t) b dst op rest env U Q =
 qe8 (c==b) (jw P G mu d op (upd env (some t) (.bool b)) U (fun v U'=>vcR P G mu ops d false rest (upd (upd env (some t) (.bool b)) dst v) U' Q)) (vcR P G mu ops d false rest (upd (upd env (some t) (.bool (!b))) dst (.tup [])) U Q):=by
 simp only[vg,h]
@[simp]theorem qnX {t:Nat}{b:Bool}{dst:Option Nat}{op:Op}{rest:List Oper}(h:env t=.tup []):vg P G mu ops d (some t) b dst op rest env U Q=vcR P G mu ops d false rest (upd env dst (.tup [])) U Q:=by
 simp only[vg,h]
end
section
variable {P:Program}{G:Glo}{mu d:Bool}{env:Env}{U:St}{Q:AV->St->Prop}
def jp (x:Option (AV×St))(Q:AV->St->Prop):Prop:=match x with
 | some (v,U)=>Q v U
 | none=>False
@[congr]theorem qnV {x x':Option (AV×St)}(h:x=x'):jp x Q=jp x' Q:=by rw[h]
@[simp]theorem vcSem_some {v:AV}{U:St}:jp (some (v,U)) Q=Q v U:=zN rfl
@[simp]theorem vcSem_none:jp none Q=False:=zN rfl
@[congr]theorem vcX_congr {l l':Option (List (AV×St))}{s s':Option (AV×St)}(h:l=l')(h':s=s'):vcX l s Q=vcX l' s' Q:=by rw[h,h']
@[simp]theorem WI {s:Option (AV×St)}:vcX none s Q=jp s Q:=by simp only[vcX,jp];rfl
@[simp]theorem qnU {v:AV}{τ:St}{s:Option (AV×St)}:vcX (some [(v,τ)]) s Q=Q v τ:=by simp[vcX]
@[simp]theorem qnT {v v':AV}{τ τ':St}{s:Option (AV×St)}:vcX (some [(v,τ),(v',τ')]) s Q=(Q v τ/\Q v' τ'):=by
 simp only[vcX,eq_iff_iff];constructor
 . exact fun h=>⟨h _ _ (by simp),h _ _ (by simp)⟩
 . rintro⟨h1,h2⟩ a b hm;simp only[qqE,Prod.mk.injEq,qrA,or_false]at hm;rcases hm with ⟨rfl,rfl⟩|⟨rfl,rfl⟩
   . exact h1
   . exact h2
def vcFn (P:Program)(G:Glo)(d:Bool)(f:AV)(args:List AV)(U:St)(Q:AV->St->Prop):Prop:=match f with
 | .fn g first cap=>qb P G d g (jS first args cap) U Q
 | _=>False
@[simp]theorem vcFn_fn {g:FuncId}{first args cap:List AV}:vcFn P G d (.fn g first cap) args U Q=qb P G d g (jS first args cap) U Q:=zN rfl
@[simp]theorem vcOp_call {f:Operand}{a:Array Operand}{t:Array TypeId}:jw P G mu d (.call { callee:=.value f,args:=a,argTypes:=t }) env U Q=vcFn P G d (ev G env f) (Wc G env a.toList) U Q:=zN rfl
@[simp]theorem qgB {x:Operand}:jw P G mu d (.move x) env U Q=jp (sem (Dof P) G env U (.move x)) Q:=by cases d<;>rfl
@[simp]theorem qb8 {x:Operand}:jw P G mu d (.assign x) env U Q=jp (sem (Dof P) G env U (.assign x)) Q:=by cases d<;>rfl
@[simp]theorem qgA {a b c:Operand}:jw P G mu d (.pick a b c) env U Q=jp (sem (Dof P) G env U (.pick a b c)) Q:=by cases d<;>rfl
@[simp]theorem qe7 {t:TypeId}:jw P G mu d (.alloc t) env U Q=jp (sem (Dof P) G env U (.alloc t)) Q:=by cases d<;>rfl
@[simp]theorem qjU {t:TypeId}{x:Operand}:jw P G mu d (.box t x) env U Q=jp (sem (Dof P) G env U (.box t x)) Q:=by cases d<;>rfl
@[simp]theorem qe5 {t:TypeId}{p:Array (Nat×Operand)}:jw P G mu d (.build t p) env U Q=jp (sem (Dof P) G env U (.build t p)) Q:=by cases d<;>rfl
@[simp]theorem J1 {t:TypeId}{n:Nat}{p:Array (Nat×Operand)}:jw P G mu d (.buildSlice t n p) env U Q=jp (sem (Dof P) G env U (.buildSlice t n p)) Q:=by cases d<;>rfl
@[simp]theorem qgC {t:TypeId}{x:Operand}:jw P G mu d (.load t x) env U Q=jp (sem (Dof P) G env U (.load t x)) Q:=by cases d<;>rfl
@[simp]theorem qe1 {t:TypeId}{x y:Operand}:jw P G mu d (.store t x y) env U Q=jp (sem (Dof P) G env U (.store t x y)) Q:=by cases d<;>rfl
@[simp]theorem WJ {x:Operand}:jw P G mu d (.nilCheck x) env U Q=jp (sem (Dof P) G env U (.nilCheck x)) Q:=by cases d<;>rfl
theorem JX {s:Option (AV×St)}:vcX (qcA d none) s Q=jp s Q:=by cases d<;>exact WI
@[simp]theorem qe6 {o:BinOp}{t u:TypeId}{x y:Operand}(h:o≠.eql)(h':o≠.neq):jw P G mu d (.binOp o t x y u) env U Q=jp (sem (Dof P) G env U (.binOp o t x y u)) Q:=by
 have:qay (Dof P) G mu env U (.binOp o t x y u)=none:=by cases o<;>first | rfl | exact absurd rfl h | exact absurd rfl h'
 simp only[jw,this];exact JX
def qhJ (d neg:Bool)(D:Nat->Option TI)(t:Nat)(x y:AV)(U:St):Option (List (AV×St)):=match d with
 | true=>none
 | false=>Wh D neg t x y U
@[simp]theorem qjS {t u:TypeId}{x y:Operand}:jw P G mu d (.binOp .eql t x y u) env U Q=vcX (qhJ d false (Dof P) t (ev G env x) (ev G env y) U) (sem (Dof P) G env U (.binOp .eql t x y u)) Q:=by cases d<;>rfl
@[simp]theorem qjP {t u:TypeId}{x y:Operand}:jw P G mu d (.binOp .neq t x y u) env U Q=vcX (qhJ d true (Dof P) t (ev G env x) (ev G env y) U) (sem (Dof P) G env U (.binOp .neq t x y u)) Q:=by cases d<;>rfl
@[simp]theorem qgz {o:UnOp}{t:TypeId}{x:Operand}:jw P G mu d (.unOp o t x) env U Q=jp (sem (Dof P) G env U (.unOp o t x)) Q:=by cases d<;>rfl
@[simp]theorem qae {t u:TypeId}{x:Operand}:jw P G mu d (.convert t u x) env U Q=jp (sem (Dof P) G env U (.convert t u x)) Q:=by cases d<;>rfl
@[simp]theorem WK {f:Fn}{a b:Array Operand}:jw P G mu d (.makeFunc f a b) env U Q=jp (sem (Dof P) G env U (.makeFunc f a b)) Q:=by cases d<;>rfl
@[simp]theorem qac {t:TypeId}{r:Option Operand}:jw P G mu d (.makeMap t r) env U Q=jp (sem (Dof P) G env U (.makeMap t r)) Q:=by cases d<;>rfl
@[simp]theorem J0 {t:TypeId}{x y:Operand}:jw P G mu true (.makeSlice t x y) env U Q=jp (sem (Dof P) G env U (.makeSlice t x y)) Q:=by rfl
@[simp]theorem Qg {t:TypeId}{x y:Operand}:jw P G mu false (.makeSlice t x y) env U Q=vcX (mkX (Dof P) mu U t (ev G env x) (ev G env y)) (sem (Dof P) G env U (.makeSlice t x y)) Q:=by rfl
@[simp]theorem qe2 {t:TypeId}{x:Operand}{lo hi mx:Option Operand}:jw P G mu d (.slice t x lo hi mx) env U Q=jp (sem (Dof P) G env U (.slice t x lo hi mx)) Q:=by cases d<;>rfl
@[simp]theorem Kr {t:TypeId}{x:Operand}{i:Nat}:jw P G mu d (.fieldAddr t x i) env U Q=jp (sem (Dof P) G env U (.fieldAddr t x i)) Q:=by cases d<;>rfl
@[simp]theorem qe4 {t:TypeId}{x:Operand}{i:Nat}:jw P G mu d (.field t x i) env U Q=jp (sem (Dof P) G env U (.field t x i)) Q:=by cases d<;>rfl
@[simp]theorem Kq {t:TypeId}{x y:Operand}:jw P G mu d (.indexAddr t x y) env U Q=jp (sem (Dof P) G env U (.indexAddr t x y)) Q:=by cases d<;>rfl
@[simp]theorem qe3 {t:TypeId}{x y:Operand}:jw P G mu d (.index t x y) env U Q=jp (sem (Dof P) G env U (.index t x y)) Q:=by cases d<;>rfl
@[simp]theorem qb7 {t:TypeId}{x y:Operand}{k:Bool}:jw P G mu d (.lookup t x y k) env U Q=jp (sem (Dof P) G env U (.lookup t x y k)) Q:=by cases d<;>rfl
@[simp]theorem Kp {t:TypeId}{x y z:Operand}:jw P G mu d (.mapUpdate t x y z) env U Q=jp (sem (Dof P) G env U (.mapUpdate t x y z)) Q:=by cases d<;>rfl
@[simp]theorem vcOp_range {t:TypeId}{x:Operand}:jw P G mu d (.range t x) env U Q=jp (sem (Dof P) G env U (.range t x)) Q:=by cases d<;>rfl
@[simp]theorem vcOp_next {x:Operand}:jw P G mu d (.next x true) env U Q=jp (sem (Dof P) G env U (.next x true)) Q:=by cases d<;>rfl
@[simp]theorem qad {x:Operand}{i:Nat}:jw P G mu d (.extract x i) env U Q=jp (sem (Dof P) G env U (.extract x i)) Q:=by cases d<;>rfl
@[simp]theorem qjR {a:Array Operand}{t:Array TypeId}:jw P G mu d (.call { callee:=.builtin .len,args:=a,argTypes:=t }) env U Q=jp (sem (Dof P) G env U (.call { callee:=.builtin .len,args:=a,argTypes:=t })) Q:=by
 have:qay (Dof P) G mu env U (.call { callee:=.builtin .len,args:=a,argTypes:=t })=none:=by simp only[qay]
 simp only[jw,this];exact JX
@[simp]theorem qjQ {a:Array Operand}{t:Array TypeId}:jw P G mu d (.call { callee:=.builtin .min,args:=a,argTypes:=t }) env U Q=jp (sem (Dof P) G env U (.call { callee:=.builtin .min,args:=a,argTypes:=t })) Q:=by
 have:qay (Dof P) G mu env U (.call { callee:=.builtin .min,args:=a,argTypes:=t })=none:=by simp only[qay]
 simp only[jw,this];exact JX
@[simp]theorem vcOp_max {a:Array Operand}{t:Array TypeId}:jw P G mu d (.call { callee:=.builtin .max,args:=a,argTypes:=t }) env U Q=jp (sem (Dof P) G env U (.call { callee:=.builtin .max,args:=a,argTypes:=t })) Q:=by
 have:qay (Dof P) G mu env U (.call { callee:=.builtin .max,args:=a,argTypes:=t })=none:=by simp only[qay]
 simp only[jw,this];exact JX
@[simp]theorem qb9 {a:Array Operand}{t:Array TypeId}:jw P G false d (.call { callee:=.builtin .append,args:=a,argTypes:=t }) env U Q=jp (sem (Dof P) G env U (.call { callee:=.builtin .append,args:=a,argTypes:=t })) Q:=by
 have:qay (Dof P) G false env U (.call { callee:=.builtin .append,args:=a,argTypes:=t })=none:=by
  simp only[qay];split<;>first | rfl | (rename_i h _ _;cases h;done) | (simp_all;done)
 simp only[jw,this];exact JX
@[simp]theorem qaf {s x:Operand}{t u:TypeId}:jw P G true false (.call { callee:=.builtin .append,args:=#[s,x],argTypes:=#[t,u] }) env U Q=vcX ((zx (Dof P) U t u (ev G env s) (ev G env x)).map fun p=>[p]) (sem (Dof P) G env U (.call { callee:=.builtin .append,args:=#[s,x],argTypes:=#[t,u] })) Q:=zN rfl
@[simp]theorem qgD {x y:Operand}{t u:TypeId}:jw P G mu false (.call { callee:=.builtin .copy,args:=#[x,y],argTypes:=#[t,u] }) env U Q=vcX ((yJ (Dof P) U t (ev G env x) (ev G env y)).map fun p=>[p]) none Q:=zN rfl
@[simp]theorem vcOp_cap {x:Operand}{t:TypeId}:jw P G mu false (.call { callee:=.builtin .cap,args:=#[x],argTypes:=#[t] }) env U Q=vcX ((capA (Dof P) t (ev G env x)).map fun v=>[(v,U)]) none Q:=zN rfl
end
attribute [simp] qhJ Wh qk0 sem ev Wc qQ yR JG zB qmf zp qn8 zs qep vY qeF wX cut QC TD.agg ofV ofAtom ZH qdR KM fin ZD kN pl1 qR plain pl2 qbr qir jS JL unA St.push KR zj AV.atom qv zl
section
variable {next:Env->St->Prop}{Q:Exit->Env->St->Prop}{env:Env}{U:St}
@[simp]theorem qnF:wo next Q .normal env U=next env U:=zN rfl
@[simp]theorem aThen_ret:wo next Q .ret env U=Q .ret env U:=zN rfl
@[simp]theorem aThen_exit {i:Nat}:wo next Q (.exit i) env U=Q (.exit i) env U:=zN rfl
@[simp]theorem qmv {n:Nat}:wq n Q .normal env U=Q .normal env U:=zN rfl
@[simp]theorem aBlock_ret {n:Nat}:wq n Q .ret env U=Q .ret env U:=zN rfl
@[simp]theorem qdk {n i:Nat}:wq n Q (.exit i) env U=if i=n then Q .normal env U else Q (.exit i) env U:=zN rfl
theorem qy.intro {P:Program}{G:Glo}{o:Opts}{c:Code}(I:Nat->Env->St->Prop)(n:Nat)(h:I n env U)(hr:∀ n env U,I n env U->vcC P G o c env U (wo (fun env' U'=>∃ n',n' < n/\I n' env' U') Q)):qy P G o c env U Q:=⟨I,n,h,hr⟩
end
attribute [simp] Leq zu Leq.refl zu.refl Ko.refl j7.refl
end Go.Abs
end
section
namespace Go.Abs
open Go Go.RowKit
section
theorem wr {n:Int}(h : -9223372036854775808<=n)(h':n<9223372036854775808):IntKind.i64.wrap n=n:=by
 simp[IntKind.wrap,IntKind.bits,IntKind.signed];omega
theorem zA {α:Type}{l:List α}{i:Nat}{v:α}(h:l[i]?=some v):l.drop i=v::l.drop (i+1):=by
 obtain⟨h1,h2⟩:=qqc.1 h;rw[qqu h1,h2]
theorem Yt {a:AV}(h:qR a=true):pl1 a=a:=by
 unfold pl1;split
 . simp[qR]at h
 . rfl
theorem K9:∀ {l:List AV},qv l=true->l.map pl1=l
 | [],_=>rfl
 | a::r,h=>by
  simp only[qv,qqi]at h;rw[qqp,Yt h.1,K9 h.2]
theorem qaK {a:AV}(h:qR a=true):pl2 a=a:=by
 unfold pl2;split
 . simp only[qR]at h;simp[K9 h]
 . exact Yt h
theorem K8:∀ {l:List AV},qv l=true->l.map pl2=l
 | [],_=>rfl
 | a::r,h=>by
  simp only[qv,qqi]at h;rw[qqp,qaK h.1,K8 h.2]
theorem Qu {a:AV}(h:qR a=true):plain a=a:=by
 unfold plain;split
 . simp only[qR]at h;simp[K8 h]
 . exact qaK h
theorem jF:∀ {l:List AV},qv l=true->l.map plain=l
 | [],_=>rfl
 | a::r,h=>by
  simp only[qv,qqi]at h;rw[qqp,Qu h.1,jF h.2]
theorem qI {H:List Blk}{n:Nat}{a:AV}(h:qR a=true):frz H n a=a:=by
 cases n<;>simp[frz,h]
theorem vX {H:List Blk}{a:AV}(h:qR a=true):kN H a=a:=by
 unfold kN;split
 . simp[qR]at h
 . exact Yt h
theorem yd:∀ {l m:List AV},qv (l++m)=(qv l&&qv m)
 | [],m=>by simp[qv]
 | a::r,m=>by simp[qv,yd (l:=r),Bool.and_assoc]
theorem zy {α:Type}{f:α->List AV}(h:∀ x,qv (f x)=true):∀ (l:List α),zl (l.map f)=true
 | []=>rfl
 | a::r=>by simp[zl,h,zy h r]
theorem Kx {l m:List (List AV)}:zl (l++m)=(zl l&&zl m):=by
 simp[Wg]
theorem Leq.sl {sz:Nat}{l m:List (List AV)}{tok:Tok}(h:l=m):Leq (.sl sz l tok) (.sl sz m .none):=by
 subst h;simp[Leq,j7.refl]
section
variable {P:Program}{G:Glo}{U:St}{f:FuncId}{args args':List AV}{r r':AV}{Q:AV->St->Prop}
theorem qf.call (h:Pure P G f args r)(hno:qv args=true)(hq:Q r U):qf P G f args U Q :=
 qf.pure h (by rw[jF hno];exact hno) (by rw[jF hno];exact zu.refl _) hq
theorem qb.call {d:Bool}(h:Pure P G f args r)(hno:qv args=true)(hq:Q r U):qb P G d f args U Q :=
 qb.pure h (by rw[jF hno];exact hno) (by rw[jF hno];exact zu.refl _) hq
theorem qb.less {d:Bool}(h:Pure P G f args' r)(hno:qv args=true)(ha:zu args args')(hq:Q r U):qb P G d f args U Q :=
 qb.pure h (by rw[jF hno];exact hno) (by rw[jF hno];exact ha) hq
end
end
section
section
variable {P:Program}{G:Glo}{mu d lw:Bool}{ops:Array Oper}
theorem qb6 {Q Q':Env->St->Prop}(hq:∀ env U,Q env U->Q' env U):∀ (l:List Oper) {env:Env} {U:St},vcR P G mu ops d lw l env U Q->vcR P G mu ops d lw l env U Q'
 | [],env,U,h=>hq _ _ h
 | o::r,env,U,h=>by
  simp only[vcR]at h ⊢;exact vcG.imp h fun env v U h=>qb6 hq r h
mutual
theorem qb4 {ac:List Nat}{Q Q':Env->St->Prop}(hq:∀ env U,Q env U->Q' env U):∀ (s:Sch) {env:Env} {U:St},vcS P G mu ac ops s env U Q->vcS P G mu ac ops s env U Q'
 | .done,env,U,h=>by simp only[vcS]at h ⊢;exact hq _ _ h
 | .step k dp s,env,U,h=>by
  simp only[vcS]at h ⊢;split at h
  . rename_i o ho;exact vcG.imp h fun env v U h=>qb4 hq s h
  . exact h.elim
 | .fork a,env,U,h=>by
  simp only[vcS]at h ⊢;exact KG hq a h
theorem KG {ac:List Nat}{Q Q':Env->St->Prop}(hq:∀ env U,Q env U->Q' env U):∀ (a:Alts) {env:Env} {U:St},vk P G mu ac ops a env U Q->vk P G mu ac ops a env U Q'
 | .nil,env,U,h=>by simp only[vk]
 | .cons k s r,env,U,h=>by
  simp only[vk]at h ⊢;refine⟨?_,KG hq r h.2⟩;have h1:=h.1;split at h1
  . rename_i o ho;exact vcG.imp h1 fun env v U h=>qb4 hq s h
  . exact h1.elim
end
theorem kh {n n':Env->St->Prop}{Q Q':Exit->Env->St->Prop}(hn:∀ env U,n env U->n' env U)(hq:∀ e env U,Q e env U->Q' e env U):∀ e env U,wo n Q e env U->wo n' Q' e env U:=by
 intro e env U h;cases e<;>first | exact hn _ _ h | exact hq _ _ _ h
theorem qgk {id:Nat}{Q Q':Exit->Env->St->Prop}(hq:∀ e env U,Q e env U->Q' e env U):∀ e env U,wq id Q e env U->wq id Q' e env U:=by
 intro e env U h
 cases e with
 | exit i=>
  simp only[qdk]at h ⊢;split at h
  . rename_i hi;rw[if_pos hi];exact hq _ _ _ h
  . rename_i hi;rw[if_neg hi];exact hq _ _ _ h
 | _=>exact hq _ _ _ h
def jQ:Code->Bool
 | .seq x y=>jQ x&&jQ y
 | .cond _ x y=>jQ x&&jQ y
 | .block _ c=>jQ c
 | .loop c=>jQ c
 | .scope c=>jQ c
 | .rangeFunc .. =>false
 | _=>true
theorem yF {o:Opts}:∀ (c:Code) {env:Env} {U:St} {Q Q':Exit->Env->St->Prop},jQ c=true->(∀ e env U,Q e env U->Q' e env U)->vcC P G o c env U Q->vcC P G o c env U Q'
 | .skip,_,_,_,_,_,hq,h=>hq _ _ _ h
 | .ret,_,_,_,_,_,hq,h=>hq _ _ _ h
 | .exit _,_,_,_,_,_,hq,h=>hq _ _ _ h
 | .seq x y,env,U,Q,Q',hp,hq,h=>by
  simp only[jQ,qqi]at hp;simp only[vcC]at h ⊢;exact yF x hp.1 (kh (fun env U h=>yF y hp.2 hq h) hq) h
 | .cond c x y,env,U,Q,Q',hp,hq,h=>by
  simp only[jQ,qqi]at hp;simp only[vcC]at h ⊢;split at h
  . exact⟨fun e=>yF x hp.1 hq (h.1 e),fun e=>yF y hp.2 hq (h.2 e)⟩
  . exact h.elim
 | .block id c,env,U,Q,Q',hp,hq,h=>by
  simp only[jQ]at hp;simp only[vcC]at h ⊢;exact yF c hp (qgk hq) h
 | .region id ops false,env,U,Q,Q',hp,hq,h=>by
  simp only[vcC]at h ⊢;exact qb6 (fun env U h=>hq _ _ _ h) _ h
 | .region id ops true,env,U,Q,Q',hp,hq,h=>by
  simp only[vcC]at h ⊢;split at h
  . exact qb4 (fun env U h=>hq _ _ _ h) _ h
  . exact qb6 (fun env U h=>hq _ _ _ h) _ h
 | .loop c,env,U,Q,Q',hp,hq,h=>by
  simp only[jQ]at hp;simp only[vcC]at h ⊢;obtain⟨I,n,h0,hr⟩:=h;exact⟨I,n,h0,fun n env U hI=>yF c hp (kh (fun _ _ h=>h) hq) (hr n env U hI)⟩
 | .rangeFunc ..,_,_,_,_,hp,_,_=>by simp[jQ]at hp
 | .scope c,_,_,_,_,hp,hq,h=>by
  simp only[jQ]at hp;simp only[vcC]at h ⊢;refine yF c hp (fun e env U h=>?_) h
  cases e with
  | goto l=>exact h
  | _=>exact hq _ _ _ h
 | .label l,_,_,_,_,_,hq,h=>by
  simp only[vcC]at h ⊢;exact hq _ _ _ h
 | .goto l,_,_,_,_,_,_,h=>by simp only[vcC]at h
 | .refuse w,_,_,_,_,_,_,h=>by simp only[vcC]at h
theorem KF {o:Opts}{x y:Code}{env:Env}{U:St}{Q:Exit->Env->St->Prop}(I:Env->St->Prop)(hp:jQ x=true)(h1:vcC P G o x env U (wo I Q))(h2:∀ env U,I env U->vcC P G o y env U Q):vcC P G o (.seq x y) env U Q:=by
 simp only[vcC];exact yF x hp (kh h2 fun _ _ _ h=>h) h1
end
end
section
section
variable {P:Program}{G:Glo}{o:Opts}{c:Code}{env:Env}{U:St}{Q:Exit->Env->St->Prop}{α:Type}
theorem qy.list (l:List α)(J:List α->Env->St->Prop)(h0:J [] env U)
 (hs:∀ d v r env U,l=d++v::r->l[d.length]?=some v->d.length<l.length->J d env U->vcC P G o c env U (wo (J (d++[v])) Q))
 (he:∀ env U,J l env U->vcC P G o c env U (wo (fun _ _=>False) Q)) (hp:jQ c=true:=by rfl):qy P G o c env U Q:=by
 refine qy.intro (fun n ev U=>∃ d r,l=d++r/\n=r.length/\J d ev U) l.length ⟨[],l,rfl,rfl,h0⟩ ?_;rintro n ev U ⟨d,r,hl,rfl,hJ⟩
 cases r with
 | nil=>
  rw[qqV]at hl;subst hl;exact yF c hp (fun e env U h=>kh (fun _ _ h=>h.elim) (fun _ _ _ h=>h) e env U h) (he ev U hJ)
 | cons v r=>
  refine yF c hp (fun e env U h=>kh (fun env U h=>?_) (fun _ _ _ h=>h) e env U h) (hs d v r ev U hl (by rw[hl];simp) (by rw[hl];simp) hJ);exact⟨r.length,by simp,d++[v],r,by rw[hl];simp,rfl,h⟩
theorem qy.count (n:Nat)(J:Nat->Env->St->Prop)(h0:J 0 env U)
 (hs:∀ i env U,i<n->J i env U->vcC P G o c env U (wo (J (i+1)) Q))
 (he:∀ env U,J n env U->vcC P G o c env U (wo (fun _ _=>False) Q)) (hp:jQ c=true:=by rfl):qy P G o c env U Q:=by
 refine qy.intro (fun m ev U=>∃ i,i<=n/\m=n-i/\J i ev U) n ⟨0,by omega,by omega,h0⟩ ?_;rintro m ev U ⟨i,hi,rfl,hJ⟩;by_cases hn:i=n
 . subst hn;exact yF c hp (fun e env U h=>kh (fun _ _ h=>h.elim) (fun _ _ _ h=>h) e env U h) (he ev U hJ)
 . refine yF c hp (fun e env U h=>kh (fun env U h=>?_) (fun _ _ _ h=>h) e env U h) (hs i ev U (by omega) hJ);exact⟨n-(i+1),by omega,i+1,by omega,rfl,h⟩
end
def qhv {α:Type}(sz:Nat)(en:α->List AV)(t:Nat)(s:List α):AV:=match s with
 | []=>.sl 0 [] .nil
 | a::r=>.sl sz ((a::r).map en) (.chain t (r.length+1))
def Kv {α:Type}(T:List (Option Nat))(s:List α):List (Option Nat):=match s with
 | []=>T
 | _::r=>T++[some (r.length+1)]
section
variable {α:Type}{sz t:Nat}{en:α->List AV}{T:List (Option Nat)}{s m:List α}
@[simp]theorem outC_nil:qhv sz en t ([]:List α)=.sl 0 [] .nil:=rfl
@[simp]theorem outCT_nil:Kv T ([]:List α)=T:=rfl
theorem qoD (h:s≠[]):qhv sz en t s=.sl sz (s.map en) (.chain t s.length):=by
 cases s with
 | nil=>exact absurd rfl h
 | cons a r=>rfl
theorem qkU (h:s≠[]):Kv T s=T++[some s.length]:=by
 cases s with
 | nil=>exact absurd rfl h
 | cons a r=>rfl
theorem qde {D:Nat->Option TI}{H:List Blk}{ty e:Nat}{i j:TI}{tok:Tok}(hi:D ty=some i)(hd:i.d=.sl e)(hj:D e=some j)(hsz:j.size=sz)(h0:0<sz)(hz:j.zero.length=sz)(hb:j.bytes<=256)(hlen:s.length+m.length<=549755813888)(sz2:Nat)(h2:sz2=sz\/m=[]) :
 qO D ⟨H,Kv T s⟩ ty (qhv sz en T.length s) (.sl sz2 (m.map en) tok)=some (qhv sz en T.length (s++m),⟨H,Kv T (s++m)⟩):=by
 subst hsz;by_cases hm:m=[]
 . subst hm;rw[qqV]
   cases s with
   | nil=>simp[qO,hi,hd,hj,h0,hz,hb,zL]
   | cons a r=>
    have:r.length+1<=549755813888:=by simpa using hlen
    simp[qO,hi,hd,hj,h0,hz,hb,zL,qhv,Kv,this]
 . have h2:sz2=j.size:=h2.resolve_right hm;subst h2
   cases s with
   | nil=>
    have:m.length<=549755813888:=by simpa using hlen
    simp[qO,hi,hd,hj,h0,hz,hb,zL,qkU hm,qoD hm,this,hm]
   | cons a r=>
    have:r.length+1+m.length<=549755813888:=by simpa using hlen
    simp only[qqz,qhv,Kv];simp[qO,hi,hd,hj,h0,hz,hb,zL,this,hm];omega
def outR {α:Type}(sz:Nat)(en:α->List AV)(s:List α):AV:=match s with
 | []=>.sl 0 [] .nil
 | a::r=>.sl sz ((a::r).map en) .none
@[simp high]theorem K4:plain (qhv sz en t s)=outR sz en s:=by cases s<;>rfl
@[simp high]theorem qfD (hn:∀ x,qv (en x)=true):qR (outR sz en s)=true:=by
 cases s with
 | nil=>rfl
 | cons a r=>simpa[outR] using zy hn (a::r)
theorem qk9:Leq (outR sz en s) (.sl sz (s.map en) .none):=by
 cases s with
 | nil=>simp[outR,Leq]
 | cons a r=>exact Leq.sl rfl
end
end
end Go.Abs
end
section
namespace Go.Abs
def qjE (b:Nat->Bool)(L:Nat)(v:Bool):Nat->Bool:=fun l=>if l=L then v else b l
theorem JM {d:List Nd}(h:DagOk d){i L:Nat}(hi:i<d.length)(hL:L<lvD d i)(b:Nat->Bool)(v:Bool):evD d (qjE b L v) i=evD d b i :=
 Y4 h hi fun l hl=>if_neg (by omega)
theorem Wt {d:List Nd}(h:DagOk d){i:Nat}{n:Nd}(h2:2<=i)(hn:d[i]?=some n)(b:Nat->Bool):evD d (qjE b n.1 false) i=evD d b n.2.1:=by
 obtain⟨g1,g2,g3,g4,g5,g6⟩:=h.node i n h2 hn;have hi:=(List.getElem?_eq_some_iff.1 hn).1;rw[vZ h _ h2 hn];have:qjE b n.1 false n.1=false:=by simp[qjE]
 rw[this];exact JM h (by omega) g5 b false
theorem Wu {d:List Nd}(h:DagOk d){i:Nat}{n:Nd}(h2:2<=i)(hn:d[i]?=some n)(b:Nat->Bool):evD d (qjE b n.1 true) i=evD d b n.2.2:=by
 obtain⟨g1,g2,g3,g4,g5,g6⟩:=h.node i n h2 hn;have hi:=(List.getElem?_eq_some_iff.1 hn).1;rw[vZ h _ h2 hn];have:qjE b n.1 true n.1=true:=by simp[qjE]
 rw[this];exact JM h (by omega) g6 b true
theorem qiN {d:List Nd}(h:DagOk d):∀ (m i j:Nat),i<=m->j<=m->i<d.length->j<d.length->(∀ b,evD d b i=evD d b j)->i=j:=by
 intro m
 induction m with
 | zero=>intro i j hm hm' _ _ _;omega
 | succ m ih=>
  intro i j hm hm' hi hj he
  -- a node above another one
  have above:∀ (i j:Nat),i<=m+1->j<=m+1->i<d.length->j<d.length->(∀ b,evD d b i=evD d b j)->lvD d i<lvD d j->False:=by
   intro i j hm hm' hi hj he hl;have h2:2<=i:=by
    apply Classical.byContradiction;intro hc;have:i=0\/i=1:=by omega
    have h1:=qef h j;rcases this with rfl|rfl
    . rw[qfM h]at hl;omega
    . rw[qfL h]at hl;omega
   obtain⟨n,hn⟩:∃ n,d[i]?=some n:=⟨_,List.getElem?_eq_getElem hi⟩;obtain⟨g1,g2,g3,g4,g5,g6⟩:=h.node i n h2 hn;rw[zJ hn]at hl;refine g4 (ih _ _ (by omega) (by omega) (by omega) (by omega) fun b=>?_);rw[<- Wt h h2 hn b,<- Wu h h2 hn b,he,he,JM h hj hl,JM h hj hl]
  by_cases h1:lvD d i<lvD d j
  . exact (above i j hm hm' hi hj he h1).elim
  by_cases h2:lvD d j<lvD d i
  . exact (above j i hm' hm hj hi (fun b=>(he b).symm) h2).elim
  have hll:lvD d i=lvD d j:=by omega
  by_cases hi2:2<=i
  . have hl20:=qhS h hi2 hi;have hj2:2<=j:=by
     apply Classical.byContradiction;intro hc;have:j=0\/j=1:=by omega
     rcases this with rfl|rfl
     . rw[qfM h]at hll;omega
     . rw[qfL h]at hll;omega
    obtain⟨n,hn⟩:∃ n,d[i]?=some n:=⟨_,List.getElem?_eq_getElem hi⟩;obtain⟨k,hk⟩:∃ k,d[j]?=some k:=⟨_,List.getElem?_eq_getElem hj⟩;obtain⟨g1,g2,g3,g4,g5,g6⟩:=h.node i n hi2 hn;obtain⟨k1,k2,k3,k4,k5,k6⟩:=h.node j k hj2 hk;rw[zJ hn,zJ hk]at hll;have e1:n.2.1=k.2.1:=ih _ _ (by omega) (by omega) (by omega) (by omega) fun b=>by
     rw[<- Wt h hi2 hn b,<- Wt h hj2 hk b,he,hll]
    have e2:n.2.2=k.2.2:=ih _ _ (by omega) (by omega) (by omega) (by omega) fun b=>by
     rw[<- Wu h hi2 hn b,<- Wu h hj2 hk b,he,hll]
    have e:n=k:=Prod.ext hll (Prod.ext e1 e2);subst e;exact (List.getElem?_inj hi h.nodup).1 (hn.trans hk.symm)
  . by_cases hj2:2<=j
    . have hl20:=qhS h hj2 hj;have:i=0\/i=1:=by omega
      rcases this with rfl|rfl
      . rw[qfM h]at hll;omega
      . rw[qfL h]at hll;omega
    . have e:=he fun _=>false
      rw[ZF h _ (by omega),ZF h _ (by omega)]at e;have a:i=0\/i=1:=(by omega);have b:j=0\/j=1:=(by omega);rcases a with rfl|rfl<;>rcases b with rfl|rfl<;>simp_all
def Kz (d:List Nd)(e0 e1:Int)(comb:Nd->Int->Int->Int):Nat->Nat->Int
 | 0,k=>if k=0 then e0 else e1
 | m+1,k=>if k=0 then e0 else if k=1 then e1 else match d[k]? with
  | some n=>comb n (Kz d e0 e1 comb m n.2.1) (Kz d e0 e1 comb m n.2.2)
  | none=>0
def Vp (d:List Nd)(e0 e1:Int)(comb:Nd->Int->Int->Int)(k:Nat):Int:=Kz d e0 e1 comb (k+1) k
theorem JI {d:List Nd}(h:DagOk d){e0 e1:Int}{comb:Nd->Int->Int->Int}:∀ (m m' k:Nat),k<m->k<m'->Kz d e0 e1 comb m k=Kz d e0 e1 comb m' k
 | 0,_,k,hk,_=>by omega
 | m+1,0,k,_,hk=>by omega
 | m+1,m'+1,k,h1,h2=>by
  by_cases hk2:2<=k
  . unfold Kz;rw[if_neg (by omega),if_neg (by omega),if_neg (by omega),if_neg (by omega)]
    cases hn:d[k]? with
    | none=>rfl
    | some n=>
     obtain⟨g1,g2,g3,-⟩:=h.node k n hk2 hn;dsimp only;rw[JI h m m' _ (by omega) (by omega),JI h m m' n.2.2 (by omega) (by omega)]
  . have:k=0\/k=1:=by omega
    rcases this with rfl|rfl<;>simp[Kz]
theorem qip {d:List Nd}{e0 e1:Int}{comb:Nd->Int->Int->Int}:Vp d e0 e1 comb 0=e0:=by simp[Vp,Kz]
theorem qio {d:List Nd}{e0 e1:Int}{comb:Nd->Int->Int->Int}:Vp d e0 e1 comb 1=e1:=by simp[Vp,Kz]
theorem wj {d:List Nd}(h:DagOk d){e0 e1:Int}{comb:Nd->Int->Int->Int}{k:Nat}{n:Nd}(h2:2<=k)(hn:d[k]?=some n):Vp d e0 e1 comb k=comb n (Vp d e0 e1 comb n.2.1) (Vp d e0 e1 comb n.2.2):=by
 obtain⟨g1,g2,g3,-⟩:=h.node k n h2 hn;unfold Vp;rw[Kz,if_neg (by omega),if_neg (by omega),hn];dsimp only;rw[JI h k (n.2.1+1) _ (by omega) (by omega),JI h k (n.2.2+1) n.2.2 (by omega) (by omega)]
def Zc (n:Nd)(lo hi:Int):Int:=max (max (n.1:Int) lo) hi
def yg (d:List Nd)(k:Nat):Int:=Vp d (-1) (-1) Zc k
theorem qpF {d:List Nd}(h:DagOk d)(N:Nat):∀ (m k:Nat),k<m->k<d.length->(∀ b c:Nat->Bool,(∀ l,l<N->b l=c l)->evD d b k=evD d c k)->yg d k<N:=by
 intro m
 induction m with
 | zero=>intro k hk;omega
 | succ m ih=>
  intro k hkm hk hb;by_cases h2:2<=k
  . obtain⟨n,hn⟩:∃ n,d[k]?=some n:=⟨_,List.getElem?_eq_getElem hk⟩;obtain⟨g1,g2,g3,g4,g5,g6⟩:=h.node k n h2 hn;have hlv:n.1<N:=by
     apply Classical.byContradiction;intro hc;refine g4 (qiN h (n.2.1+n.2.2) _ _ (by omega) (by omega) (by omega) (by omega) fun b=>?_);rw[<- Wt h h2 hn b,<- Wu h h2 hn b];refine hb _ _ fun l hl=>?_
     unfold qjE;rw[if_neg (by omega),if_neg (by omega)]
    have l1:=ih n.2.1 (by omega) (by omega) fun b c hbc=>by
     rw[<- Wt h h2 hn b,<- Wt h h2 hn c];refine hb _ _ fun l hl=>?_
     unfold qjE;split
     . rfl
     . exact hbc l hl
    have l2:=ih n.2.2 (by omega) (by omega) fun b c hbc=>by
     rw[<- Wu h h2 hn b,<- Wu h h2 hn c];refine hb _ _ fun l hl=>?_
     unfold qjE;split
     . rfl
     . exact hbc l hl
    unfold yg at *;rw[wj h h2 hn];unfold Zc at *;omega
  . unfold yg;have:k=0\/k=1:=by omega
    rcases this with rfl|rfl
    . rw[qip];omega
    . rw[qio];omega
def Wy (d:List Nd):Nat->Nat->Nat->Nat
 | _,0,k=>if k=1 then 1 else 0
 | l,m+1,k=>Wy d (l+1) m (jR d k l false)+Wy d (l+1) m (jR d k l true)
theorem Wl {d:List Nd}{k l:Nat}(h:l<lvD d k)(v:Bool):jR d k l v=k:=by
 unfold jR;unfold lvD at h
 cases hn:d[k]? with
 | none=>rfl
 | some n=>
  rw[hn]at h;dsimp only at h⊢;rw[if_neg (by omega)]
theorem qbF {d:List Nd}{k:Nat}:∀ (j l m:Nat),l+j<=lvD d k->j<=m->Wy d l m k=Wy d (l+j) (m-j) k*2 ^ j
 | 0,l,m,_,_=>by simp
 | j+1,l,0,_,h=>by omega
 | j+1,l,m+1,h,hj=>by
  rw[Wy,Wl (by omega),Wl (by omega),qbF j (l+1) m (by omega) (by omega),show l+1+j=l+(j+1) by omega,show m+1-(j+1)=m-j by omega,Nat.pow_succ];generalize Wy d (l+(j+1)) (m-j) k=x;rw[<- Nat.mul_assoc,Nat.mul_two]
theorem VD (d:List Nd):∀ (m l k:Nat),Wy d l m k<=2 ^ m
 | 0,l,k=>by unfold Wy;split<;>simp
 | m+1,l,k=>by
  have h1:=VD d m (l+1) (jR d k l false);have h2:=VD d m (l+1) (jR d k l true);rw[Wy,Nat.pow_succ];omega
def qbT:Nat->List (List Bool)
 | 0=>[[]]
 | n+1=>(qbT n).map (false::·)++(qbT n).map (true::·)
theorem JS:∀ {n:Nat} {l:List Bool},l∈qbT n↔l.length=n
 | 0,l=>by simp[qbT]
 | n+1,[]=>by simp[qbT]
 | n+1,b::l=>by
  cases b<;>simp[qbT,JS]
theorem WC:∀ n,(qbT n).Nodup
 | 0=>by simp[qbT]
 | n+1=>by
  have h:=WC n;rw[qbT,List.nodup_append];refine⟨?_,?_,?_⟩
  . exact List.Pairwise.map _ (fun a b hab e=>hab (List.cons.inj e).2) h
  . exact List.Pairwise.map _ (fun a b hab e=>hab (List.cons.inj e).2) h
  . intro a ha b hb e;obtain⟨x,-,rfl⟩:=List.mem_map.1 ha;obtain⟨y,-,rfl⟩:=List.mem_map.1 hb;cases e
def qnw (l:List Bool):Nat->Bool:=fun i=>l.getD i false
theorem qiM {d:List Nd}(h:DagOk d){k N l:Nat}(hk:k<d.length)(hd:yg d k<N)(v:Bool):yg d (jR d k l v)<N:=by
 unfold jR;have hn:=List.getElem?_eq_getElem hk;rw[hn];dsimp only;split
 . rename_i hl;by_cases h2:2<=k
   . unfold yg at *;rw[wj h h2 hn]at hd;unfold Zc at *;split<;>omega
   . have:k=0\/k=1:=by omega
     rcases this with rfl|rfl
     . have e:=h.n0;rw[hn]at e;rw[Option.some.inj e];simp only[ite_self];exact hd
     . have e:=h.n1;rw[hn]at e;rw[Option.some.inj e];simp only[ite_self];exact hd
 . exact hd
theorem qiL {d:List Nd}(h:DagOk d){k N:Nat}(h2:2<=k)(hk:k<d.length)(hd:yg d k<N):lvD d k<N:=by
 have hn:=List.getElem?_eq_getElem hk;unfold yg at hd;rw[wj h h2 hn]at hd;rw[zJ hn];unfold Zc at hd;omega
theorem qbE {d:List Nd}(h:DagOk d):∀ (m l k:Nat) (pre:List Bool),pre.length=l->l+m<=20->k<d.length->l<=lvD d k->yg d k<(l+m:Nat)->Wy d l m k=(qbT m).countP fun s=>evD d (qnw (pre++s)) k
 | 0,l,k,pre,hp,hlm,hk,hl,hd=>by
  have hk2:¬ 2<=k:=fun h2=>by have:=qiL h h2 hk hd;omega
  unfold Wy;simp only[qbT,List.countP_singleton,List.append_nil];rw[ZF h _ (by omega)];by_cases h1:k=1
  . simp[h1]
  . simp[h1]
 | m+1,l,k,pre,hp,hlm,hk,hl,hd=>by
  have half:∀ v:Bool,Wy d (l+1) m (jR d k l v)=((qbT m).map (v::·)).countP fun s=>evD d (qnw (pre++s)) k:=fun v=>by
   obtain⟨a1,a2,a3⟩:=yC h hk (by omega:l<20) hl v;rw[qbE h m (l+1) (jR d k l v) (pre++[v]) (by simp[hp]) (by omega) a1 (by omega) (by have:=qiM h hk hd (l:=l) v;omega),List.countP_map];congr 1;funext s;simp only[Function.comp_apply];rw[List.append_assoc,List.singleton_append];exact (a3 _ (by unfold qnw;rw[List.getD_eq_getElem?_getD,List.getElem?_append_right (by omega),hp,Nat.sub_self];rfl)).symm
  rw[Wy,half,half,qbT,List.countP_append]
theorem ql3 {d:List Nd}(h:DagOk d){n k:Nat}(hn:n<=20)(hk:k<d.length)(hd:yg d k<n):Wy d 0 n k=(qbT n).countP fun s=>evD d (qnw s) k:=by
 have:=qbE h n 0 k [] rfl (by omega) hk (Nat.zero_le _) (by omega);simpa using this
def wv (d:List Nd)(n k:Nat):Nat:=min (lvD d k) n
def JP (d:List Nd)(n k:Nat):Nat:=Wy d (wv d n k) (n-wv d n k) k
theorem cntV_0 {d:List Nd}(h:DagOk d){n:Nat}(hn:n<=20):JP d n 0=0:=by
 have:wv d n 0=n:=by unfold wv;rw[qfM h];omega
 unfold JP;rw[this,Nat.sub_self];rfl
theorem cntV_1 {d:List Nd}(h:DagOk d){n:Nat}(hn:n<=20):JP d n 1=1:=by
 have:wv d n 1=n:=by unfold wv;rw[qfL h];omega
 unfold JP;rw[this,Nat.sub_self];rfl
theorem Kc {d:List Nd}{n k l:Nat}(hl:l<=wv d n k):Wy d l (n-l) k=JP d n k*2 ^ (wv d n k-l):=by
 unfold JP;have h1:wv d n k<=lvD d k:=Nat.min_le_left _ _;have h2:wv d n k<=n:=Nat.min_le_right _ _;rw[qbF (wv d n k-l) l (n-l) (by omega) (by omega),show l+(wv d n k-l)=wv d n k by omega,show n-l-(wv d n k-l)=n-wv d n k by omega]
theorem qbC {d:List Nd}(h:DagOk d){n k:Nat}{x:Nd}(hn:n<=20)(h2:2<=k)(hx:d[k]?=some x)(hd:yg d k<n) :
 x.1<n/\x.1+1<=wv d n x.2.1/\x.1+1<=wv d n x.2.2/\yg d x.2.1<n/\yg d x.2.2<n/\JP d n k=JP d n x.2.1*2 ^ (wv d n x.2.1-(x.1+1))+JP d n x.2.2*2 ^ (wv d n x.2.2-(x.1+1)):=by
 have hk:=(List.getElem?_eq_some_iff.1 hx).1;obtain⟨g1,g2,g3,g4,g5,g6⟩:=h.node k x h2 hx;have hl:=qiL h h2 hk hd;rw[zJ hx]at hl;have e1:x.1+1<=wv d n x.2.1:=by unfold wv;omega
 have e2:x.1+1<=wv d n x.2.2:=by unfold wv;omega
 have hd':=hd;unfold yg at hd';rw[wj h h2 hx]at hd';unfold Zc at hd';refine⟨hl,e1,e2,by unfold yg Zc;omega,by unfold yg Zc;omega,?_⟩;rw[<- Kc e1,<- Kc e2];have hlk:wv d n k=x.1:=by unfold wv;rw[zJ hx];omega
 unfold JP;rw[hlk,show n-x.1=(n-(x.1+1))+1 by omega,Wy];have f1:jR d k x.1 false=x.2.1:=by unfold jR;rw[hx];simp
 have f2:jR d k x.1 true=x.2.2:=by unfold jR;rw[hx];simp
 rw[f1,f2]
theorem qiS (d:List Nd)(n k:Nat):JP d n k<=2 ^ (n-wv d n k):=VD d _ _ _
end Go.Abs
end
