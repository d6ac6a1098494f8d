import Derived.Test.YtimecmegnocamaaGreatDoorPq07
import Derived.TacticsIn
import Derived.OrdersIn
import Derived.RangeFuncIn
import Derived.RangeFuncRecord
import Derived.Scope
set_option linter.all false
set_option linter.defProp false
namespace Go.Abs
open Go Go.RowKit
section
structure Opts where
 mu:Bool
 fk:List (Nat×Sch×List Nat)
 lw:List Nat
 bw:List (Nat×Nat):=[]
def o0:Opts:=⟨false,[],[],[]⟩
def je(N:Nat):Code->Bool
 |.skip|.exit _=>true
 |.region _ ops false=>vZ N ops
 |.seq x y=>je N x&&je N y
 |.cond _ x y=>je N x&&je N y
 |.block _ c=>je N c
 |_=>false
def jX(N:Nat)(o:Opts):Code->Bool
 |.skip|.ret|.exit _=>true
 | .region id ops d=>vZ N ops&&(!d||(match o.fk.lookup id with
  |some (s,ac)=>qd8 ops o.mu ac s (Array.replicate ops.size false)&&decide (Vm s<=ops.size)
  |none=>qqh ops o.mu (o.lw.contains id)))
 |.seq x y=>jX N o x&&jX N o y
 |.cond _ x y=>jX N o x&&jX N o y
 |.block _ c=>jX N o c
 |.loop c=>jX N o c
 | .rangeFunc _ ps x y=>(match ps.toList with
  |[p,q]=>decide (p<N)&&decide (q<N)
  |[p]=>decide (p<N)
  |_=>false)&&je N x&&je N y
 |.scope c=>jX N o c
 |.label _=>true
 |_=>false
def qhd(c:Bool)(A B:Prop):Prop:=(c=true->A)/\(c=false->B)
def vcG(P:Program)(G:Glo)(mu d:Bool)(ops:Array Oper)(o:Oper)(env:Env)(U:St)(k:Env->AV->St->Prop):Prop :=
 match o.guard with
 |none=>jP P G mu d o.op env U (k env)
 | some (j,b)=>match(ops[j]?).bind (·.dst) with
  | some t=>match env t with
   |.bool c=>qhd (c==b) (jP P G mu d o.op (upd env (some t) (.bool b)) U (k (upd env (some t) (.bool b)))) (k (upd env (some t) (.bool (!b))) (.tup []) U)
   |.tup []=>k env (.tup []) U
   |_=>False
  |none=>k env (.tup []) U
def qex:Op->Bool
 |.call {callee:=.value _,.. }=>true
 |_=>false
def qsj{α:Type}:List α->Bool
 |[]=>true
 |_=>false
def vcR(P:Program)(G:Glo)(mu:Bool)(ops:Array Oper)(d lw:Bool):List Oper->Env->St->(Env->St->Prop)->Prop
 |[],env,U,Q=>Q env U
 |o::rest,env,U,Q=>vcG P G mu (d&&!(lw&&qsj rest&&qex o.op)) ops o env U (fun env v U'=>vcR P G mu ops d lw rest (upd env o.dst v) U' Q)
mutual
def vcS(P:Program)(G:Glo)(mu:Bool)(ac:List Nat)(ops:Array Oper):Sch->Env->St->(Env->St->Prop)->Prop
 |.done,env,U,Q=>Q env U
 | .step k _ s,env,U,Q=>match ops[k]? with
  |some o=>vcG P G mu (zg mu ac k o.op != 9) ops o env U (fun env v U'=>vcS P G mu ac ops s (upd env o.dst v) U' Q)
  |none=>False
 |.fork a,env,U,Q=>vR P G mu ac ops a env U Q
def vR(P:Program)(G:Glo)(mu:Bool)(ac:List Nat)(ops:Array Oper):Alts->Env->St->(Env->St->Prop)->Prop
 |.nil,_,_,_=>True
 | .cons k s r,env,U,Q=>(match ops[k]? with
  |some o=>vcG P G mu (zg mu ac k o.op != 9) ops o env U (fun env v U'=>vcS P G mu ac ops s (upd env o.dst v) U' Q)
  |none=>False)/\vR P G mu ac ops r env U Q
end
abbrev FR(ro:Option Nat):Fence:={Fence.wide with round:=ro}
def qfk{env t v}(h:env t=v):upd env (some t) v=env:=by
 funext i;simp only[upd];split
 . rename_i e;rw[e,h]
 rfl
section
variable {P:Program}{G:Glo}{N:Nat}{env:Env}{U U':St}{w0:World}{ro0:Nat->Nat->Option Value}{K:Kn}{a:Act}{w:World}{ops:Array Oper}{o:Oper}{v:AV}{mu d:Bool}{ac:List Nat}
def wq{k}(h:vcG P G mu d ops o env U k):(jy ops env o=some false/\k env (.tup []) U)\/(jy ops env o=some true/\jP P G mu d o.op env U (k env)):=by
 unfold vcG at h;split at h
 . rename_i hg;exact .inr ⟨by simp[jy,hg],h⟩
 rename_i j b hg;split at h
 . rename_i t ht;split at h
   . rename_i c hc;by_cases hcb:c=b
     . have:=h.1 (by simp[hcb]);rw[hcb]at hc;rw[qfk hc]at this;exact .inr ⟨by simp[*,jy],this⟩
     have hcb':c = !b:=(by cases c<;>cases b<;>simp_all);have:=h.2 (by simp[hcb]);rw[hcb']at hc;rw[qfk hc]at this;exact .inl ⟨by simp[*,jy],this⟩
   . rename_i hc;exact .inl ⟨by simp[*,jy],h⟩
   exact h.elim
 rename_i ht;exact .inl ⟨by simp[*,jy],h⟩
def qbD(hs:vZ N ops=true){lw Q}:∀(l) (env) (U) (K) (a) (w),(∀o∈l,o∈ops.toList)->vcR P G mu ops false lw l env U Q->WRel G w0 ro0 K U w->ERel K N env a ->
 ∀{Q':Exit->Act->World->Prop},(∀K' env' U' a' w',K.le K'->WRel G w0 ro0 K' U' w'->ERel K' N env' a'->a'.defers=a.defers->Q env' U'->Q' .normal a' w') ->
 (∀c K' U' a' w',K.le K'->WRel G w0 ro0 K' U' w'->a'.defers=a.defers->G.X c U'->Q' (.panic c) a' w')->wpList P ops Q' l a w
 |[],env,U,K,a,w,_,h,hw,he,Q',hq,_=>hq K env U a w (qFG K) hw he rfl h
 | o::rest,env,U,K,a,w,hm,h,hw,he,Q',hq,hp=>by
  have hd:=ZF hs (hm o (by simp));have hgd:=Ze hs o;have hrest:∀x∈rest,x∈ops.toList:=fun x hx=>hm x (by simp[hx])
  have cont:∀(v) (U') (K1) (a1) (w1),vcR P G mu ops false lw rest (upd env o.dst v) U' Q->K.le K1->WRel G w0 ro0 K1 U' w1->ERel K1 N (upd env o.dst v) a1->a1.defers=a.defers->wpList P ops Q' rest a1 w1 :=
   fun v U' K1 a1 w1 hv hle h1 h2 hds=>qbD hs rest _ U' K1 a1 w1 hrest hv h1 h2 (fun K' env' U'' a' w' hle' x1 x2 xd=>hq K' env' U'' a' w' (qFH hle hle') x1 x2 (xd.trans hds)) fun c K' U'' a' w' hle' x1 xd=>hp c K' U'' a' w' (qFH hle hle') x1 (xd.trans hds)
  simp only[vcR,qDf]at h;unfold wpList;rcases wq h with⟨hwant,h⟩|⟨hwant,h⟩
  . have:=yV he hgd hwant;rw[if_neg (by simp[this])];exact cont _ U K _ w h (qFG K) hw (he.put hd (by simp only[qk];exact⟨#[],rfl,by simp[ql]⟩)) qFh
  have:=yV he hgd hwant;rw[if_pos this];exact .inl (qj3 hw he hd h (fun v U' K' a' w' hv h1 h2 h3 hds=>cont v U' K' a' w' hv h1 h2 h3 hds) fun c U' K' w' hx h1 h2=>hp c K' U' _ w' h1 h2 rfl hx)
def qj2(hX:G.NoX){ro n}(hw:WRel G w0 ro0 K U w)(he:ERel K N env a)(hd:∀d,o.dst=some d->d<N){R}(h:jP P G mu false o.op env U R){next Q}
 (hn:∀v v' U' K' w',R v U'->K.le K'->WRel G w0 ro0 K' U' w'->ERel K' N (upd env o.dst v) (a.put o.dst v')->next (a.put o.dst v') w'):o.wpIn (FR ro) n P a w next Q:=by
 have hnd:∀c,o.op≠.defer c:=by
  intro c e;rw[e]at h;simp[jP,vcX,qem,qb8,sem]at h
 refine⟨fun _ _=>trivial,?_⟩;rw[Oper.semAt_eq _ _ _ hnd];have did:∀v U',R v U'->Did P G w0 ro0 K w (execOp a.eval o) v U'->o.uponIn (FR ro) n P a next Q ((execOp a.eval o).run P w):=by
  intro v U' hr hdid;obtain⟨v',w',K',hrun,h1,h2,h3⟩:=hdid;rcases hrun with hrun|⟨hrun,rfl⟩
  . rw[hrun];exact hn v v' U' K' w' hr h1 h2 ((he.mono h1).put hd h3)
  rw[hrun];exact hn v _ U' K' w' hr h1 h2 ((he.mono h1).put hd h3)
 unfold jP at h;split at h
 . rename_i f args ts hop;split at h
   . rename_i g first cap hf
     have hac:=h;obtain⟨vs,hr,hvs⟩:=Wl hw he hop hf hac.1;rw[hr,Oper.uponIn_enter];refine⟨fun e=>by simp[Fence.wide]at e,?_⟩;refine CallsIn.mono (F:=FR ro) (show CallsIn (FR ro) (n-1) P g vs w _ from(callsIn_wide (n:=n-1)).2 (hac.2 w0 ro0 K w vs hw hvs)) ?_;rintro e w' (⟨v',v,U',K',rfl,h1,h2,h3,h4⟩|⟨c,U',K',rfl,h1,h2,h3⟩)
     . exact hn v v' U' K' w' h4 h1 h2 ((he.mono h1).put hd h3)
     exact(hX c U' h3).elim
   exact h.elim
 simp only[vcX,qem]at h;split at h
 . rename_i l hl;obtain⟨v,U',h1,h2⟩:=Vl hw he o hl;exact did v U' (h v U' h1) h2
 split at h
 . rename_i v U' hs;exact did v U' h (Kg hw he o hs)
 exact h.elim
def YY(hX:G.NoX)(hs:vZ N ops=true){ro n lw Q more}:∀(l) (env) (U) (K) (a) (w),(∀o∈l,o∈ops.toList)->vcR P G mu ops false lw l env U Q->WRel G w0 ro0 K U w->ERel K N env a ->
 ∀{Q':Exit->Act->World->Prop},(∀K' env' U' a' w',K.le K'->WRel G w0 ro0 K' U' w'->ERel K' N env' a'->a'.defers=a.defers->(∀t,(∀o∈l,o.dst≠some t)->a'.tmps.getD t undef=a.tmps.getD t undef)->Q env' U'->wpListIn (FR ro) n P ops Q' more a' w')->wpListIn (FR ro) n P ops Q' (l++more) a w
 |[],env,U,K,a,w,_,h,hw,he,Q',hq=>hq K env U a w (qFG K) hw he rfl (fun _ _=>rfl) h
 | o::rest,env,U,K,a,w,hm,h,hw,he,Q',hq=>by
  have hd:=ZF hs (hm o (by simp));have hgd:=Ze hs o;have hrest:∀x∈rest,x∈ops.toList:=fun x hx=>hm x (by simp[hx])
  have cont:∀(v) (v') (U') (K1) (w1),vcR P G mu ops false lw rest (upd env o.dst v) U' Q->K.le K1->WRel G w0 ro0 K1 U' w1->ERel K1 N (upd env o.dst v) (a.put o.dst v')->wpListIn (FR ro) n P ops Q' (rest++more) (a.put o.dst v') w1 :=
   fun v v' U' K1 w1 hv hle h1 h2=>YY hX hs rest _ U' K1 _ w1 hrest hv h1 h2 fun K' env' U'' a' w' hle' x1 x2 xd xk=>hq K' env' U'' a' w' (qFH hle hle') x1 x2 (xd.trans qFh) fun t ht=>by
    rw[xk t fun x hx=>ht x (by simp[hx])];have hne:=ht o (by simp);unfold Act.put;split
    . rename_i d hdd;have:d≠t:=fun e=>hne (by rw[hdd,e])
      simp[this]
    rfl
  simp only[vcR,qDf]at h;rw[qBl];unfold wpListIn;rcases wq h with⟨hwant,h⟩|⟨hwant,h⟩
  . have:=yV he hgd hwant;rw[if_neg (by simp[this])];exact⟨fun _ _=>trivial,cont _ _ U K w h (qFG K) hw (he.put hd (by simp only[qk];exact⟨#[],rfl,by simp[ql]⟩))⟩
  have:=yV he hgd hwant;rw[if_pos this];exact qj2 hX hw he hd h fun v v' U' K' w' hv h1 h2 h3=>cont v v' U' K' w' hv h1 h2 h3
def YZ{R}(h:jP P G mu true o.op env U R):∃v U',OpA P G o env U v U'/\R v U':=by
 unfold jP at h;split at h
 . rename_i f args ts hop;split at h
   . rename_i g first cap hf
     obtain⟨r,h1,h2⟩:=h;exact⟨r,U,.inr ⟨f,args,ts,g,first,cap,hop,hf,h1,rfl⟩,h2⟩
   exact h.elim
 simp only[vcX,qem]at h;split at h
 . rename_i v U' hs;exact⟨v,U',.inl hs,h⟩
 exact h.elim
def qjW{R i oi dp}(hi:ops[i]?=some oi){fuel listed}(hs:qb3 ops mu ac listed i dp=true)
 (h:vcG P G mu (zg mu ac i oi.op != 9) ops oi env U (fun env v U'=>Yr P G ops mu ac R fuel (listed.setIfInBounds i true) (upd env oi.dst v) U')):Yr P G ops mu ac R (fuel+1) listed env U:=by
 simp only[qb3,hi,qA1]at hs;obtain⟨⟨hr,hd⟩,hall⟩:=hs;have hr':i∈Region.ready .any ops listed:=by simpa using hr
 have rest:∀(j:Nat) (oj:Oper),ops[j]?=some oj->j≠i->listed.getD j true=false->j∉dp->zg mu ac i oi.op≠9/\qc0 ops oi oj (zg mu ac i oi.op) (zg mu ac j oj.op)=true/\(zg mu ac j oj.op≠9\/zg mu ac i oi.op=0):=by
  intro j oj hoj hji hun hnd;have:=qA3.1 hall j (qCd.2 (qBR.1 hoj).1);simp only[hoj,qC7,beq_iff_eq,qA1,bne_iff_ne,ne_eq]at this;rcases this with((h1|h1)|h1)|h1
  . exact absurd h1 hji
  . rw[hun]at h1;cases h1
  . exact absurd (by simpa using h1) hnd
  exact⟨h1.1,h1.2.1,h1.2.2⟩
 by_cases h9:zg mu ac i oi.op=9
 . have solo:∀(j:Nat) (oj:Oper),ops[j]?=some oj->j≠i->listed.getD j true=false->j∈dp:=by
    intro j oj hoj hji hun;apply Classical.byContradiction;intro hnd;exact(rest j oj hoj hji hun hnd).1 h9
   rw[h9]at h;refine Yr.solo hi hd solo hr' ?_;rcases wq h with⟨hwant,h⟩|⟨hwant,h⟩
   . exact .inl ⟨_,U,.inl ⟨hwant,rfl,rfl⟩,h⟩
   exact .inr ⟨h9,hwant,h⟩
 have hd1:(zg mu ac i oi.op != 9)=true:=by simpa using h9
 rw[hd1]at h;rcases wq h with⟨hwant,h⟩|⟨hwant,h⟩
 . exact Yr.first hi fuel listed env U U hd (fun j oj a b c e=>(rest j oj a b c e).2) hr' (.inl ⟨hwant,rfl,rfl⟩) h
 obtain⟨v,U',h1,h2⟩:=YZ h;exact Yr.first hi fuel listed env U U' hd (fun j oj a b c e=>(rest j oj a b c e).2) hr' (.inr ⟨hwant,h1⟩) h2
def vcG.imp{k k'}(h:vcG P G mu d ops o env U k)(hk:∀env v U,k env v U->k' env v U):vcG P G mu d ops o env U k':=by
 unfold vcG at h⊢
 cases hg:o.guard with
 |none=>simp only[hg]at h⊢;exact jP.imp h (hk _)
 | some p=>
  obtain⟨j,b⟩:=p;simp only[hg]at h⊢
  cases ht:(ops[j]?).bind (·.dst) with
  |none=>simp only[ht]at h⊢;exact hk _ _ _ h
  | some t=>
   simp only[ht]at h⊢;generalize env t=x at h⊢
   match x,h with
   |.bool c,h=>exact⟨fun e=>jP.imp (h.1 e) (hk _),fun e=>hk _ _ _ (h.2 e)⟩
   |.tup [],h=>exact hk _ _ _ h
def qks{lw:Bool}{Q:Env->St->Prop}{mu:Bool}:∀(l:List Oper) (k:Nat) (listed:Array Bool) (env:Env) (U:St),(∀j:Nat,l[j]?=ops[k+j]?)->k+l.length=ops.size->qu5 ops mu (if lw then [ops.size-1] else []) l.length k listed=true ->
 vcR P G mu ops true lw l env U Q->Yr P G ops mu (if lw then [ops.size-1] else []) Q l.length listed env U
 |[],k,listed,env,U,_,_,hB,h=>⟨by simpa[qu5] using hB,h⟩
 | o::l,k,listed,env,U,hl,hlen,hB,h=>by
  have h0:ops[k]?=some o:=by simpa using(hl 0).symm
  simp only[qBc,qu5,qA1]at hB;obtain⟨hst,hB'⟩:=hB;simp only[vcR,qB7]at h;have ih:=fun env U h=>qks (lw:=lw) (Q:=Q) (mu:=mu) l (k+1) (listed.setIfInBounds k true) env U (fun j=>by have:=hl (j+1);simpa[qC0,qCX 1 j] using this) (by simp only[qBc]at hlen;omega) hB' h
  have hst0:=hst;simp only[qb3,h0,qA1]at hst;obtain⟨⟨hr,hd⟩,hall⟩:=hst;have hr':k∈Region.ready .any ops listed:=by simpa using hr
  have rest:∀(j:Nat) (oj:Oper),ops[j]?=some oj->j≠k->listed.getD j true=false->j∉qzJ ops k->zg mu (if lw then [ops.size-1] else []) k o.op≠9/\qc0 ops o oj (zg mu (if lw then [ops.size-1] else []) k o.op) (zg mu (if lw then [ops.size-1] else []) j oj.op)=true/\(zg mu (if lw then [ops.size-1] else []) j oj.op≠9\/zg mu (if lw then [ops.size-1] else []) k o.op=0):=by
   intro j oj hoj hji hun hnd;have:=qA3.1 hall j (qCd.2 (qBR.1 hoj).1);simp only[hoj,qC7,beq_iff_eq,qA1,bne_iff_ne,ne_eq]at this;rcases this with((h1|h1)|h1)|h1
   . exact absurd h1 hji
   . rw[hun]at h1;cases h1
   . exact absurd (by simpa using h1) hnd
   exact⟨h1.1,h1.2.1,h1.2.2⟩
  have stp:∀v U',wM P G ops o env U v U'->Yr P G ops mu (if lw then [ops.size-1] else []) Q l.length (listed.setIfInBounds k true) (upd env o.dst v) U'->Yr P G ops mu (if lw then [ops.size-1] else []) Q (l.length+1) listed env U:=by
   intro v U' h1 h2;by_cases h9:zg mu (if lw then [ops.size-1] else []) k o.op=9
   . refine Yr.solo h0 hd (fun j oj hoj hji hun=>?_) hr' (.inl ⟨v,U',h1,h2⟩);apply Classical.byContradiction;intro hnd;exact(rest j oj hoj hji hun hnd).1 h9
   exact Yr.first h0 l.length listed env U U' hd (fun j oj a b c e=>(rest j oj a b c e).2) hr' h1 h2
  cases hdd:!(lw&&qsj l&&qex o.op) with
  | true=>
   rw[hdd]at h;rcases wq h with⟨hwant,h⟩|⟨hwant,h⟩
   . exact stp _ _ (.inl ⟨hwant,rfl,rfl⟩) (ih _ _ h)
   obtain⟨v,U',h1,h2⟩:=YZ h;exact stp _ _ (.inr ⟨hwant,h1⟩) (ih _ _ h2)
  | false=>
   rw[hdd]at h;simp only[Bool.not_eq_false',qA1]at hdd;obtain⟨⟨hlw,hnil⟩,hcall⟩:=hdd;have hnil:l=[]:=(by cases l with|nil=>rfl|cons _ _=>simp[qsj]at hnil);rcases wq h with⟨hwant,h⟩|⟨hwant,h⟩
   . exact stp _ _ (.inl ⟨hwant,rfl,rfl⟩) (ih _ _ h)
   -- the last operation
   have h9:zg mu (if lw then [ops.size-1] else []) k o.op=9:=by
    subst hnil;simp only[qBc,qB8]at hlen;have hk1:k=ops.size-1:=(by omega);unfold qex at hcall;split at hcall
    . rename_i f args ts e;rw[e];simp[zg,hlw,hk1]
    cases hcall
   refine Yr.solo h0 hd (fun j oj hoj hji hun=>?_) hr' (.inr ⟨h9,hwant,jP.imp h fun v U' hv=>ih _ _ hv⟩);apply Classical.byContradiction;intro hnd;exact(rest j oj hoj hji hun hnd).1 h9
mutual
def qdP{Q}:∀(s) (fuel) (listed) (env) (U),qd8 ops mu ac s listed=true->Vm s<=fuel->vcS P G mu ac ops s env U Q->Yr P G ops mu ac Q fuel listed env U
 | .done,fuel,listed,env,U,hk,_,h=>by
  simp only[qd8]at hk;have hr:Region.ready .any ops listed=[]:=by simpa using hk
  cases fuel with
  |zero=>exact⟨hr,h⟩
  |succ fuel=>exact⟨fun _=>h,fun i hi=>by rw[hr]at hi;cases hi⟩
 | .step k dp s,fuel,listed,env,U,hk,hf,h=>by
  simp only[Vm]at hf;obtain⟨f,rfl⟩:∃f,fuel=f+1:=⟨fuel-1,by omega⟩;simp only[qd8,qA1]at hk;simp only[vcS]at h;split at h
  . rename_i o ho;exact qjW ho hk.1 (vcG.imp h fun env v U' hv=>qdP s f _ _ _ hk.2 (by omega) hv)
  exact h.elim
 | .fork al,fuel,listed,env,U,hk,hf,h=>by
  simp only[Vm]at hf;obtain⟨f,rfl⟩:∃f,fuel=f+1:=⟨fuel-1,by omega⟩;simp only[qd8,qA1,qCn]at hk;simp only[vcS]at h;refine⟨fun h0=>by rw[h0]at hk;simp at hk,fun i hi=>?_⟩;exact W9 al f listed env U _ hk.2 (by omega) h i hi
def W9{Q}:∀(al) (fuel) (listed) (env) (U) (need),qdz ops mu ac al listed need=true->qbm al<=fuel->vR P G mu ac ops al env U Q->∀i∈need,∃o,ops[i]?=some o /\
 ((∃v U',wM P G ops o env U v U'/\Yr P G ops mu ac Q fuel (listed.setIfInBounds i true) (upd env o.dst v) U') \/
  (zg mu ac i o.op=9/\jy ops env o=some true/\jP P G mu false o.op env U (fun v U'=>Yr P G ops mu ac Q fuel (listed.setIfInBounds i true) (upd env o.dst v) U')))
 | .nil,fuel,listed,env,U,need,hk,_,_,i,hi=>by
  simp only[qdz]at hk;have:need=[]:=by simpa using hk
  rw[this]at hi;cases hi
 | .cons k s r,fuel,listed,env,U,need,hk,hf,h,i,hi=>by
  simp only[qbm]at hf;simp only[qdz,qA1]at hk;simp only[vR]at h;by_cases hik:i=k
  . subst hik;obtain⟨h,_⟩:=h;split at h
    . rename_i o ho;refine⟨o,ho,?_⟩;have h':=vcG.imp h fun env v U' hv=>qdP s fuel _ _ _ hk.1.2 (by omega) hv
      by_cases h9:zg mu ac i o.op=9
      . rw[h9]at h';rcases wq h' with⟨hwant,h'⟩|⟨hwant,h'⟩
        . exact .inl ⟨_,U,.inl ⟨hwant,rfl,rfl⟩,h'⟩
        exact .inr ⟨h9,hwant,h'⟩
      have hd1:(zg mu ac i o.op != 9)=true:=(by simpa using h9);rw[hd1]at h';rcases wq h' with⟨hwant,h'⟩|⟨hwant,h'⟩
      . exact .inl ⟨_,U,.inl ⟨hwant,rfl,rfl⟩,h'⟩
      obtain⟨v,U',h1,h2⟩:=YZ h';exact .inl ⟨v,U',.inr ⟨hwant,h1⟩,h2⟩
    exact h.elim
  exact W9 r fuel listed env U _ hk.2 (by omega) h.2 i (qCc.2 ⟨hi,by simpa using hik⟩)
end
end
def qzR(P:Program)(G:Glo)(gb:FuncId)(k:Nat):Prop :=
 bodied P gb=true/\∀(w0) (ro0) (b L B) (K) (U) (w) (sz) (rows:List (List AV)) (tok) (S:Nat->St->Prop),
  WRel G w0 ro0 K U w->K.m b=some B->U.H[b]?=some (.cells [.sl sz rows tok])->rows.length<2^62->S rows.length U ->
  (∀ i U' K' w',S (i+1) U'->K.le K'->WRel G w0 ro0 K' U' w'->∃rows tok r,U'.H[b]?=some (.cells [.sl k rows tok])/\rows[i]?=some r/\∀v,qk K' (.agg r) v ->
    ∃ f tmps asn body,(Instr.yield L #[.int .i64 i,v]).run P w'=.ok (.round L f tmps asn body) w' /\
     RoundIn Fence.wide 0 P L f tmps asn body w' (fun e w''=>e=.returned (.bool true)/\∃K'' U'',K'.le K''/\WRel G w0 ro0 K'' U'' w''/\S i U'')) ->
  CallsIn Fence.wide 0 P gb #[.func (.yield L) #[] #[],.pointer (some ⟨B,0,none⟩)] w (fun e w'=>(∃v,e=.returned v)/\∃K' U',K.le K'/\WRel G w0 ro0 K' U' w'/\S 0 U')
def qxD(P:Program)(G:Glo)(gb:FuncId)(cap:List AV)(pre:St->Prop)(vals:List AV):Prop :=
 bodied P gb=true/\∀(w0) (ro0) (L) (K) (U) (w) (vcap) (S:Nat->St->Prop),
  WRel G w0 ro0 K U w->ql K cap vcap.toList->(∀i U,S i U->pre U)->S 0 U ->
  (∀ i x U' K' w',vals[i]?=some x->S i U'->K.le K'->WRel G w0 ro0 K' U' w'->∀v,qk K' x v ->
    ∃ f tmps asn body,(Instr.yield L #[v]).run P w'=.ok (.round L f tmps asn body) w' /\
     RoundIn Fence.wide 0 P L f tmps asn body w' (fun e w''=>e=.returned (.bool true)/\∃K'' U'',K'.le K''/\WRel G w0 ro0 K'' U'' w''/\S (i+1) U'')) ->
  CallsIn Fence.wide 0 P gb (#[.func (.yield L) #[] #[]]++vcap) w (fun e w'=>(∃v,e=.returned v)/\∃K' U',K.le K'/\WRel G w0 ro0 K' U' w'/\S vals.length U')
def qqy(Q:Exit->Env->St->Prop):Exit->Env->St->Prop
 |.goto _,_,_=>False
 |e,env,U=>Q e env U
def JZ(A B:Env->St->(Exit->Env->St->Prop)->Prop)(k b pi pe:Nat)(env:Env):Nat->St->(St->Prop)->Prop
 |0,U,Q=>Q U
 | i+1,U,Q=>match U.H[b]? with
  | some (.cells [.sl sz rows _])=>sz=k/\match rows[i]? with
   |some r=>A (upd (upd env (some pi) (.int .i64 i)) (some pe) (.agg r)) U (fun e env' U'=>e=.normal/\B env' U' (fun e _ U''=>e=.normal/\JZ A B k b pi pe env i U'' Q))
   |none=>False
  |_=>False
def vcC(P:Program)(G:Glo)(o:Opts):Code->Env->St->(Exit->Env->St->Prop)->Prop
 |.skip,env,U,Q=>Q .normal env U
 |.ret,env,U,Q=>Q .ret env U
 |.exit id,env,U,Q=>Q (.exit id) env U
 |.seq x y,env,U,Q=>vcC P G o x env U (w9 (fun env U=>vcC P G o y env U Q) Q)
 | .cond c x y,env,U,Q=>match ev G env c with
  |.bool b=>qhd b (vcC P G o x env U Q) (vcC P G o y env U Q)
  |_=>False
 |.block id c,env,U,Q=>vcC P G o c env U (vd id Q)
 | .region id ops d,env,U,Q=>match d,o.fk.lookup id with
  |true,some (s,ac)=>vcS P G o.mu ac ops s env U (fun env U=>Q .normal env U)
  |d,_=>vcR P G o.mu ops d (o.lw.contains id) ops.toList env U (fun env U=>Q .normal env U)
 |.loop c,env,U,Q=>∃(I:Nat->Env->St->Prop) (n:Nat),I n env U/\∀n env U,I n env U->vcC P G o c env U (w9 (fun env' U'=>∃n',n'<n/\I n' env' U') Q)
 | .rangeFunc g ps x y,env,U,Q=>match ps.toList,ev G env g with
  | [pi,pe],.fn gb [] [.ptr b 0]=>∃k,G.NoX/\qzR P G gb k/\(match U.H[b]? with
   |some (.cells [.sl _ rows _])=>rows.length<2^62/\JZ (fun env U Q=>vcC P G o x env U Q) (fun env U Q=>vcC P G o y env U Q) k b pi pe env rows.length U (fun U=>Q .normal env U)
   |_=>False)
  | [pe],.fn gb [] cap=>∃(pre:St->Prop) (vals:List AV) (J:Nat->St->Prop),G.NoX/\qxD P G gb cap pre vals/\(∀i U,J i U->pre U)/\J 0 U /\
   (∀i v U,vals[i]?=some v->J i U->vcC P G o x (upd env (some pe) v) U (fun e env' U'=>e=.normal/\vcC P G o y env' U' (fun e _ U''=>e=.normal/\J (i+1) U''))) /\
   ∀U,J vals.length U->Q .normal env U
  |_,_=>False
 |.scope c,env,U,Q=>vcC P G o c env U (qqy Q)
 |.label _,env,U,Q=>Q .normal env U
 |_,_,_,_=>False
section
variable {P:Program}{G:Glo}{N:Nat}{env:Env}{U:St}{ops:Array Oper}{mu:Bool}{ac:List Nat}
def AWp.any{id Q}(hm:P.follows .mixedOrders=true)(hs:vZ N ops=true)(h:Yr P G ops mu ac (fun env U=>Q .normal env U) ops.size (Array.replicate ops.size false) env U):
 AWp P G N (.region id ops true) env U Q:=by
 intro w0 ro0 K a w hw he;refine wp_region_any hm ?_;exact QX hs (Q:=JU G w0 ro0 K N a.defers Q) ops.size (Array.replicate ops.size false) env U K a {w with drawn:=w.drawn+1}
  (fun K' env' U' a' w' h1 h2 h3 hd h4=>.inl ⟨K',env',U',h1,h2,h3,.same hd,h4⟩) (fun c K' U' a' w' h1 h2 hd hx=>.inr ⟨c,K',U',rfl,h1,h2,.same hd,hx⟩) hw.drew he h
end
def qgZ(ro:Option Nat)(P:Program)(G:Glo)(N:Nat)(c:Code)(env:Env)(U:St)(Q:Exit->Env->St->Prop):Prop :=
 ∀(w0) (ro0) (K) (a) (w),WRel G w0 ro0 K U w->ERel K N env a->c.wpIn (FR ro) 0 P (JU G w0 ro0 K N a.defers Q) a w
section
variable {P:Program}{G:Glo}{N:Nat}{ro:Option Nat}{env:Env}{U:St}{Q:Exit->Env->St->Prop}
def qgZ.seq{x y}(h:qgZ ro P G N x env U (w9 (fun env U=>qgZ ro P G N y env U Q) Q)):qgZ ro P G N (.seq x y) env U Q:=by
 intro w0 ro0 K a w hw he;refine wpIn_seq (wpIn_mono (h w0 ro0 K a w hw he) ?_);intro e a' w' hp;rcases hp with⟨K',env',U',h1,h2,h3,hd,h4⟩|⟨c,K',U',rfl,hp⟩
 case inr=>exact .inr ⟨c,K',U',rfl,hp⟩
 cases e with
 |normal=>exact wpIn_mono (h4 w0 ro0 K' a' w' h2 h3) fun e a w x=>x.after h1 hd
 |_=>exact .inl ⟨K',env',U',h1,h2,h3,hd,h4⟩
def qgZ.block{id c}(h:qgZ ro P G N c env U (vd id Q)):qgZ ro P G N (.block id c) env U Q:=by
 intro w0 ro0 K a w hw he;refine wpIn_block (wpIn_mono (h w0 ro0 K a w hw he) ?_);intro e a' w' hp;rcases hp with⟨K',env',U',h1,h2,h3,hd,h4⟩|⟨c,K',U',rfl,hp⟩
 case inr=>exact .inr ⟨c,K',U',rfl,hp⟩
 cases e with
 | exit id'=>
  simp only[vd]at h4;simp only[Exit.inBlock];split
  . rename_i e;rw[if_pos e]at h4;exact .inl ⟨K',env',U',h1,h2,h3,hd,h4⟩
  rename_i e;rw[if_neg e]at h4;exact .inl ⟨K',env',U',h1,h2,h3,hd,h4⟩
 |_=>exact .inl ⟨K',env',U',h1,h2,h3,hd,h4⟩
def qgZ.mono{c Q'}(h:qgZ ro P G N c env U Q)(hq:∀e env U,Q e env U->Q' e env U):qgZ ro P G N c env U Q' :=
 fun w0 ro0 K a w hw he=>wpIn_mono (h w0 ro0 K a w hw he) fun e a w x=>x.mono hq
end
def yc{P G N ro o}(hX:G.NoX):∀(c){env:Env}{U:St}{Q:Exit->Env->St->Prop},je N c=true->vcC P G o c env U Q->qgZ ro P G N c env U Q
 |.skip,env,U,_,_,h=>fun w0 ro0 K a w hw he=>wpIn_skip (.inl ⟨K,env,U,qFG K,hw,he,.same rfl,h⟩)
 |.exit id,env,U,_,_,h=>fun w0 ro0 K a w hw he=>wpIn_exit (.inl ⟨K,env,U,qFG K,hw,he,.same rfl,h⟩)
 | .seq x y,env,U,Q,hk,h=>by
  simp only[je,qA1]at hk;exact qgZ.seq (qgZ.mono (yc hX x hk.1 (by simpa only[vcC] using h)) fun e env U hq=>by
   cases e<;>first|exact yc hX y hk.2 hq|exact hq)
 | .cond c x y,env,U,Q,hk,h=>by
  simp only[je,qA1]at hk;simp only[vcC]at h;split at h
  . rename_i b hb;intro w0 ro0 K a w hw he;have:=Z4 hw he c;rw[hb]at this;simp only[qk]at this;exact wpIn_cond_split this (fun e=>yc hX x hk.1 (h.1 e) w0 ro0 K a w hw he) (fun e=>yc hX y hk.2 (h.2 e) w0 ro0 K a w hw he)
  exact h.elim
 |.block id c,_,_,_,hk,h=>qgZ.block (yc hX c hk (by simpa only[vcC] using h))
 | .region id ops false,env,U,Q,hk,h=>by
  have h':vcR P G o.mu ops false (o.lw.contains id) ops.toList env U (fun env U=>Q .normal env U):=by
   simp only[vcC]at h;exact h
  intro w0 ro0 K a w hw he;have:=wpIn_region_list (F:=FR ro) (n:=0) (P:=P) (id:=id) (ops:=ops) (a:=a) (w:=w) (Q:=JU G w0 ro0 K N a.defers Q) (by
   have:=YY hX (w0:=w0) (ro0:=ro0) (by simpa only[je] using hk) (ro:=ro) (n:=0) (more:=[]) ops.toList env U K a w (by simp) h' hw he (Q':=JU G w0 ro0 K N a.defers Q) fun K' env' U' a' w' h1 h2 h3 hd _ h4=>.inl ⟨K',env',U',h1,h2,h3,.same hd,h4⟩
   simpa using this)
  exact this
 |.region id ops true,_,_,_,hk,_=>by simp[je]at hk
 |.ret,_,_,_,hk,_=>by simp[je]at hk
 |.loop c,_,_,_,hk,_=>by simp[je]at hk
 |.rangeFunc ..,_,_,_,hk,h=>by simp[je]at hk
 |.scope c,_,_,_,hk,h=>by simp[je]at hk
 |.label l,_,_,_,hk,h=>by simp[je]at hk
 |.goto l,_,_,_,hk,h=>by simp[je]at hk
 |.refuse w,_,_,_,hk,h=>by simp[je]at hk
def JO{P g}(hb:bodied P g=true)(args w):(callFunc g args).run P w=.ok (.enter g args) w:=by
 cases hg:P.funcs[g]? with
 |none=>simp[bodied,hg]at hb
 | some fn=>
  simp[bodied,hg]at hb;obtain⟨b1,b2⟩:=hb;simp[*,callFunc,show ¬fn.body=none by intro e;simp[e]at b1]
def AWp.range{P:Program}{G:Glo}(hX:G.NoX){N:Nat}{env:Env}{U:St}{Q:Exit->Env->St->Prop}{o:Opts}{g:Operand}{pi pe:Nat}{x y:Code}{gb b k:Nat}{sz:Nat}{rows:List (List AV)}{tok:Tok}
 (hpi:pi<N) (hpe:pe<N) (hx:je N x=true) (hy:je N y=true) (hg:ev G env g=.fn gb [] [.ptr b 0]) (hbw:qzR P G gb k) (hlen:rows.length<2^62) (hb:U.H[b]?=some (.cells [.sl sz rows tok]))
 (h:JZ (fun env U Q=>vcC P G o x env U Q) (fun env U Q=>vcC P G o y env U Q) k b pi pe env rows.length U (fun U=>Q .normal env U)):AWp P G N (.rangeFunc g #[pi,pe] x y) env U Q:=by
 intro w0 ro0 K a w hw he;refine(wpIn_wide (n:=0)).1 (wpIn_rangeFunc fun fn hfn=>?_);have hv:=Z4 hw he g;rw[hg]at hv;simp only[qk,ql]at hv;obtain⟨va,vb,e1,e2,v1,vr,e3,⟨B,hB,e4⟩,e5⟩:=hv;have ea:=qCG (by rw[<- qCs,e2];rfl);have eb:vb = #[.pointer (some ⟨B,0,none⟩)]:=by rw[<- qC9 (xs:=vb),e3,e4,e5]
 subst ea eb;obtain⟨rec,hrec⟩:∃rec:LoopState->Option Code->Loop,rec=fun st pe'=>{state:=st,pending:=pe',fn,tmps:=a.tmps,params:=#[pi,pe],assign:=x,body:=y,defers:=w.heap.size}:=⟨_,rfl⟩
 obtain⟨W1,hW1⟩:∃W1,(w.alloc (.deferred (some []))).alloc (.loop (rec .ready none))=W1:=⟨_,rfl⟩;have hw1:=hw.allocFix (.deferred (some []));have hw2:=hw1.allocFix (.loop (rec .ready none));rw[hW1,World.size_alloc]at hw2;obtain⟨K2,hK2⟩:∃K2,((K.withFx fun b=>if b=w.heap.size then some (.deferred (some [])) else K.fx b).withFx fun b=>if b=w.heap.size+1 then some (.loop (rec .ready none)) else(K.withFx fun b=>if b=w.heap.size then some (.deferred (some [])) else K.fx b).fx b)=K2:=⟨_,rfl⟩;rw[hK2]at hw2;have hleK:K.le K2:=by
  rw[<- hK2];refine qFH (Kn.le_fx fun B o e=>?_) (Kn.le_fx fun B o e=>?_)
  . have:=hw.fx_lt e;rw[if_neg (by omega)];exact e
  have:=hw1.fx_lt e;rw[World.size_alloc]at this;rw[if_neg (by omega)];exact e
 have hL2:K2.fx (w.heap.size+1)=some (.loop (rec .ready none)):=by rw[<- hK2];simp[Kn.withFx]
 refine⟨w.heap.size+1,[qwQ w.heap.size],W1,{target:=.fn (.func gb) #[.pointer (some ⟨B,0,none⟩)],args:=#[.func (.yield (w.heap.size+1)) #[] #[]]},W1,gb,
  #[.func (.yield (w.heap.size+1)) #[] #[]]++#[.pointer (some ⟨B,0,none⟩)],W1,?_,?_,fun _ _=>trivial,?_,fun e=>by simp[Fence.wide]at e,?_⟩
 . rw[<- hW1,hrec];exact run_enterLoop_outer _ _ _ _ _
 . simp only[resolve,e1];simp[go_sem]
 . simp[invoke,go_sem,JO hbw.1]
 refine CallsIn.mono (hbw.2 w0 ro0 b (w.heap.size+1) B K2 U W1 sz rows tok (fun i U=>JZ (fun env U Q=>vcC P G o x env U Q) (fun env U Q=>vcC P G o y env U Q) k b pi pe env i U (fun U=>Q .normal env U)) hw2 (hleK.m _ _ hB) hb hlen h ?_) ?_
 . -- one round
   intro i U' K' w' hr hle' hw';simp only[JZ]at hr;split at hr
   . rename_i sz' rows' tok' hb';obtain⟨hszk,hr⟩:=hr;subst hszk;split at hr
     . rename_i r hri;refine⟨rows',tok',r,hb',hri,fun v hv=>?_⟩;have hLf:=hle'.fx _ _ hL2;have hl:=(hw'.fx _ _ hLf).1;refine⟨fn,_,x,y,by have:=run_yield (P:=P) (args:=#[.int .i64 i,v]) hl (by rw[hrec];rfl);rw[hrec]at this;exact this,roundIn_of_wpIn hfn ?_⟩;have he':ERel K' N (upd (upd env (some pi) (.int .i64 i)) (some pe) (.agg r)) {tmps:=(a.tmps.setIfInBounds pi (.int .i64 i)).setIfInBounds pe v,defers:=[]}:=by
        have h0:=he.mono (qFH hleK hle');have h1:=(h0.put (dst:=some pi) (fun d hd=>by cases hd;exact hpi) (v:=.int .i64 i) (v':=.int .i64 i) (by simp[qk])).put (dst:=some pe) (fun d hd=>by cases hd;exact hpe) hv;exact⟨h1.size,h1.val⟩
       have hasn:=yc hX (ro:=some (w.heap.size+1)) x hx hr w0 ro0 K' _ w' hw' he';refine wpIn_mono (F:=FR (some (w.heap.size+1))) (show Code.wpIn (FR (some (w.heap.size+1))) 0 P x _ _ w' from by simpa using hasn) ?_;rintro e a1 w1 (⟨K3,env3,U3,g1,g2,g3,_,rfl,g4⟩|⟨_,_,U3,_,_,_,_,g⟩)
       case inr=>exact(hX _ U3 g).elim
       have hL3:=g1.fx _ _ hLf;have hl3:=(g2.fx _ _ hL3).1;refine⟨_,run_beginRound hl3 (by rw[hrec]),?_⟩;have hw4:=g2.refix hL3 (by intros;intro e;cases e) (.loop {rec .ready none with state:=.busy});have hbody:=yc hX (ro:=some (w.heap.size+1)) y hy g4 w0 ro0 _ a1 _ hw4 (g3.refx _);refine wpIn_mono (F:=FR (some (w.heap.size+1))) hbody ?_;rintro e a5 w5 (⟨K5,env5,U5,k1,k2,k3,_,rfl,k4⟩|⟨_,_,U5,_,_,_,_,g⟩)
       case inr=>exact(hX _ U5 g).elim
       have hL5:K5.fx (w.heap.size+1)=some (.loop {rec .ready none with state:=.busy}):=k1.fx _ _ (by simp[Kn.withFx]);have hl5:=(k2.fx _ _ hL5).1;have hw6:=k2.refix hL5 (by intros;intro e;cases e) (.loop (rec .ready none));refine⟨.bool true,w5.putObj (w.heap.size+1) (.loop (rec .ready none)),?_,rfl,_,U5,?_,hw6,k4⟩
       . have:=run_endRound (P:=P) none hl5;rw[hrec]at this⊢;exact this
       refine qFH g1 (qFB k1 fun B o e=>?_);by_cases hBL:B=w.heap.size+1
       . subst hBL;rw[hL3]at e;simp[e]
       rw[if_neg hBL];refine k1.fx B o ?_;simp only[Kn.withFx,if_neg hBL];exact e
     exact hr.elim
   exact hr.elim
 -- behind the JZ
 rintro e w' ⟨⟨v,rfl⟩,K',U',hle',hw',hS⟩;have hLf:=hle'.fx _ _ hL2;have hl:=(hw'.fx _ _ hLf).1;have hw3:=(hw'.refix hLf (by intros;intro e;cases e) (.loop {rec .ready none with state:=.exhausted})).unfix (f:=fun B=>if B=w.heap.size+1 then none else K'.fx B) (by
  intro B o e;by_cases hBL:B=w.heap.size+1
  . rw[if_pos hBL]at e;cases e
  rw[if_neg hBL]at e;simp only[Kn.withFx,if_neg hBL];exact e)
 refine⟨none,w'.putObj (w.heap.size+1) (.loop {rec .ready none with state:=.exhausted}),?_,?_⟩
 . have:=run_endLoop (P:=P) hl (by rw[hrec];simp);rw[hrec]at this⊢;exact this
 have hle3:K.le (K'.withFx fun B=>if B=w.heap.size+1 then none else K'.fx B):=by
  have:=qFH hleK hle';refine qFB this fun B o e=>?_
  have:=hw.fx_lt e;rw[if_neg (by omega)];exact hle'.fx _ _ (hleK.fx _ _ e)
 have hfin:=hS;simp only[JZ]at hfin;refine .inl ⟨_,env,U',hle3,hw3,⟨he.size,(he.mono hle3).val⟩,⟨[w.heap.size],by simp,rfl,fun D hD=>?_⟩,hfin⟩;simp at hD;subst hD;refine⟨?_,?_⟩
 . cases e:K.fx w.heap.size with
   |none=>rfl
   |some o=>have:=hw.fx_lt e;omega
 simp only[Kn.withFx];rw[if_neg (by omega)];exact hle'.fx _ _ (by rw[<- hK2];simp[Kn.withFx])
def AWp.rangeF{P:Program}{G:Glo}(hX:G.NoX){N:Nat}{env:Env}{U:St}{Q:Exit->Env->St->Prop}{o:Opts}{g:Operand}{pe:Nat}{x y:Code}{gb:Nat}{cap vals:List AV}{pre:St->Prop}{J:Nat->St->Prop}
 (hpe:pe<N) (hx:je N x=true) (hy:je N y=true) (hg:ev G env g=.fn gb [] cap) (hfw:qxD P G gb cap pre vals) (hpre:∀i U,J i U->pre U) (hJ:J 0 U)
 (hs:∀i v U,vals[i]?=some v->J i U->vcC P G o x (upd env (some pe) v) U (fun e env' U'=>e=.normal/\vcC P G o y env' U' (fun e _ U''=>e=.normal/\J (i+1) U'')))
 (hq:∀U,J vals.length U->Q .normal env U):AWp P G N (.rangeFunc g #[pe] x y) env U Q:=by
 intro w0 ro0 K a w hw he;refine(wpIn_wide (n:=0)).1 (wpIn_rangeFunc fun fn hfn=>?_);have hv:=Z4 hw he g;rw[hg]at hv;simp only[qk,ql]at hv;obtain⟨va,vb,e1,e2,e3⟩:=hv;have ea:=qCG (by rw[<- qCs,e2];rfl);subst ea;obtain⟨rec,hrec⟩:∃rec:LoopState->Option Code->Loop,rec=fun st pe'=>{state:=st,pending:=pe',fn,tmps:=a.tmps,params:=#[pe],assign:=x,body:=y,defers:=w.heap.size}:=⟨_,rfl⟩
 obtain⟨W1,hW1⟩:∃W1,(w.alloc (.deferred (some []))).alloc (.loop (rec .ready none))=W1:=⟨_,rfl⟩;have hw1:=hw.allocFix (.deferred (some []));have hw2:=hw1.allocFix (.loop (rec .ready none));rw[hW1,World.size_alloc]at hw2;obtain⟨K2,hK2⟩:∃K2,((K.withFx fun b=>if b=w.heap.size then some (.deferred (some [])) else K.fx b).withFx fun b=>if b=w.heap.size+1 then some (.loop (rec .ready none)) else(K.withFx fun b=>if b=w.heap.size then some (.deferred (some [])) else K.fx b).fx b)=K2:=⟨_,rfl⟩;rw[hK2]at hw2;have hleK:K.le K2:=by
  rw[<- hK2];refine qFH (Kn.le_fx fun B o e=>?_) (Kn.le_fx fun B o e=>?_)
  . have:=hw.fx_lt e;rw[if_neg (by omega)];exact e
  have:=hw1.fx_lt e;rw[World.size_alloc]at this;rw[if_neg (by omega)];exact e
 have hL2:K2.fx (w.heap.size+1)=some (.loop (rec .ready none)):=by rw[<- hK2];simp[Kn.withFx]
 refine⟨w.heap.size+1,[qwQ w.heap.size],W1,{target:=.fn (.func gb) vb,args:=#[.func (.yield (w.heap.size+1)) #[] #[]]},W1,gb,
  #[.func (.yield (w.heap.size+1)) #[] #[]]++vb,W1,?_,?_,fun _ _=>trivial,?_,fun e=>by simp[Fence.wide]at e,?_⟩
 . rw[<- hW1,hrec];exact run_enterLoop_outer _ _ _ _ _
 . simp only[resolve,e1];simp[go_sem]
 . simp[invoke,go_sem,JO hfw.1]
 refine CallsIn.mono (hfw.2 w0 ro0 (w.heap.size+1) K2 U W1 vb J hw2 (ql.mono hleK _ e3) hpre hJ ?_) ?_
 . -- one round
   intro i xv U' K' w' hxv hr0 hle' hw' v hv;have hr:=hs i xv U' hxv hr0;have hLf:=hle'.fx _ _ hL2;have hl:=(hw'.fx _ _ hLf).1;refine⟨fn,_,x,y,by have:=run_yield (P:=P) (args:=#[v]) hl (by rw[hrec];rfl);rw[hrec]at this;exact this,roundIn_of_wpIn hfn ?_⟩
   . have he':ERel K' N (upd env (some pe) xv) {tmps:=a.tmps.setIfInBounds pe v,defers:=[]}:=by
      have h0:=he.mono (qFH hleK hle');have h1:=h0.put (dst:=some pe) (fun d hd=>by cases hd;exact hpe) hv;exact⟨h1.size,h1.val⟩
     have hasn:=yc hX (ro:=some (w.heap.size+1)) x hx hr w0 ro0 K' _ w' hw' he';refine wpIn_mono (F:=FR (some (w.heap.size+1))) (show Code.wpIn (FR (some (w.heap.size+1))) 0 P x _ _ w' from by simpa using hasn) ?_;rintro e a1 w1 (⟨K3,env3,U3,g1,g2,g3,_,rfl,g4⟩|⟨_,_,U3,_,_,_,_,g⟩)
     case inr=>exact(hX _ U3 g).elim
     have hL3:=g1.fx _ _ hLf;have hl3:=(g2.fx _ _ hL3).1;refine⟨_,run_beginRound hl3 (by rw[hrec]),?_⟩;have hw4:=g2.refix hL3 (by intros;intro e;cases e) (.loop {rec .ready none with state:=.busy});have hbody:=yc hX (ro:=some (w.heap.size+1)) y hy g4 w0 ro0 _ a1 _ hw4 (g3.refx _);refine wpIn_mono (F:=FR (some (w.heap.size+1))) hbody ?_;rintro e a5 w5 (⟨K5,env5,U5,k1,k2,k3,_,rfl,k4⟩|⟨_,_,U5,_,_,_,_,g⟩)
     case inr=>exact(hX _ U5 g).elim
     have hL5:K5.fx (w.heap.size+1)=some (.loop {rec .ready none with state:=.busy}):=k1.fx _ _ (by simp[Kn.withFx]);have hl5:=(k2.fx _ _ hL5).1;have hw6:=k2.refix hL5 (by intros;intro e;cases e) (.loop (rec .ready none));refine⟨.bool true,w5.putObj (w.heap.size+1) (.loop (rec .ready none)),?_,rfl,_,U5,?_,hw6,k4⟩
     . have:=run_endRound (P:=P) none hl5;rw[hrec]at this⊢;exact this
     refine qFH g1 (qFB k1 fun B o e=>?_);by_cases hBL:B=w.heap.size+1
     . subst hBL;rw[hL3]at e;simp[e]
     rw[if_neg hBL];refine k1.fx B o ?_;simp only[Kn.withFx,if_neg hBL];exact e
 -- behind the JZ
 rintro e w' ⟨⟨v,rfl⟩,K',U',hle',hw',hS⟩;have hLf:=hle'.fx _ _ hL2;have hl:=(hw'.fx _ _ hLf).1;have hw3:=(hw'.refix hLf (by intros;intro e;cases e) (.loop {rec .ready none with state:=.exhausted})).unfix (f:=fun B=>if B=w.heap.size+1 then none else K'.fx B) (by
  intro B o e;by_cases hBL:B=w.heap.size+1
  . rw[if_pos hBL]at e;cases e
  rw[if_neg hBL]at e;simp only[Kn.withFx,if_neg hBL];exact e)
 refine⟨none,w'.putObj (w.heap.size+1) (.loop {rec .ready none with state:=.exhausted}),?_,?_⟩
 . have:=run_endLoop (P:=P) hl (by rw[hrec];simp);rw[hrec]at this⊢;exact this
 have hle3:K.le (K'.withFx fun B=>if B=w.heap.size+1 then none else K'.fx B):=by
  have:=qFH hleK hle';refine qFB this fun B o e=>?_
  have:=hw.fx_lt e;rw[if_neg (by omega)];exact hle'.fx _ _ (hleK.fx _ _ e)
 have hfin:=hq U' hS;refine .inl ⟨_,env,U',hle3,hw3,⟨he.size,(he.mono hle3).val⟩,⟨[w.heap.size],by simp,rfl,fun D hD=>?_⟩,hfin⟩;simp at hD;subst hD;refine⟨?_,?_⟩
 . cases e:K.fx w.heap.size with
   |none=>rfl
   |some o=>have:=hw.fx_lt e;omega
 simp only[Kn.withFx];rw[if_neg (by omega)];exact hle'.fx _ _ (by rw[<- hK2];simp[Kn.withFx])
def yF{P:Program}{G:Glo}{N:Nat}{o:Opts}(hm:P.follows .mixedOrders=true):∀(c:Code){env:Env}{U:St}{Q:Exit->Env->St->Prop},jX N o c=true->vcC P G o c env U Q->AWp P G N c env U Q
 |.skip,_,_,_,_,h=>AWp.skip h
 |.ret,_,_,_,_,h=>AWp.ret h
 |.exit id,_,_,_,_,h=>AWp.exit h
 | .seq x y,env,U,Q,hk,h=>by
  simp only[jX,qA1]at hk;exact AWp.seq (AWp.mono (yF hm x hk.1 (by simpa only[vcC] using h)) fun e env U hq=>by
   cases e<;>first|exact yF hm y hk.2 hq|exact hq)
 | .cond c x y,env,U,Q,hk,h=>by
  simp only[jX,qA1]at hk;simp only[vcC]at h;split at h
  . rename_i b hb;exact AWp.cond hb (fun e=>yF hm x hk.1 (h.1 e)) (fun e=>yF hm y hk.2 (h.2 e))
  exact h.elim
 |.block id c,_,_,_,hk,h=>AWp.block (yF hm c hk (by simpa only[vcC] using h))
 | .region id ops false,env,U,Q,hk,h=>by
  simp only[jX,qA1]at hk;have h':vcR P G o.mu ops false (o.lw.contains id) ops.toList env U (fun env U=>Q .normal env U):=by
   simp only[vcC]at h;exact h
  intro w0 ro0 K a w hw he;have:=wp_region_lit (P:=P) (id:=id) (l:=ops.toList) (a:=a) (w:=w) (Q:=JU G w0 ro0 K N a.defers Q) (qbD (by simpa using hk.1) ops.toList env U K a w (by simp) (by simpa using h') hw he (fun K' env' U' a' w' h1 h2 h3 hd h4=>.inl ⟨K',env',U',h1,h2,h3,.same hd,h4⟩) fun c K' U' a' w' h1 h2 hd hx=>.inr ⟨c,K',U',rfl,h1,h2,.same hd,hx⟩);simpa using this
 | .region id ops true,env,U,Q,hk,h=>by
  simp only[jX,qA1,qC7,qFc,qBz,false_or]at hk;simp only[vcC]at h
  cases hl:o.fk.lookup id with
  | none=>
   rw[hl]at hk h;simp only at hk h;refine AWp.any hm hk.1 (mu:=o.mu) (ac:=if o.lw.contains id then [ops.size-1] else []) ?_;have:=qks (P:=P) (G:=G) (ops:=ops) (lw:=o.lw.contains id) (mu:=o.mu) ops.toList 0 (Array.replicate ops.size false) env U (by simp) (by simp) (by simpa[qqh] using hk.2) h;simpa using this
  | some p=>
   obtain⟨s,ac⟩:=p;rw[hl]at hk h;simp only[qA1,decide_eq_true_eq]at hk h;exact AWp.any hm hk.1 (mu:=o.mu) (ac:=ac) (qdP s ops.size _ env U hk.2.1 hk.2.2 h)
 | .loop c,_,_,_,hk,h=>by
  simp only[vcC]at h;obtain⟨I,n,h0,hr⟩:=h;exact AWp.loop I n h0 fun n env U hI=>yF hm c hk (hr n env U hI)
 | .rangeFunc g ps x y,env,U,Q,hk,h=>by
  simp only[jX,qA1]at hk;obtain⟨⟨hk1,hk2⟩,hk3⟩:=hk;simp only[vcC]at h;split at h
  . rename_i pi pe gb b hps hg;obtain⟨k,hX,hbw,h⟩:=h;rw[hps]at hk1;simp only[qA1,decide_eq_true_eq]at hk1;split at h
    . rename_i sz rows tok hb;have:ps = #[pi,pe]:=by rw[<- qC9 (xs:=ps),hps]
      subst this;exact AWp.range hX hk1.1 hk1.2 hk2 hk3 hg hbw h.1 hb h.2
    exact h.elim
  . rename_i pe gb cap hps hg;obtain⟨pre,vals,J,hX,hfw,hpre,hJ,hs,hq⟩:=h;rw[hps]at hk1;simp only[decide_eq_true_eq]at hk1;have:ps = #[pe]:=by rw[<- qC9 (xs:=ps),hps]
    subst this;exact AWp.rangeF hX hk1 hk2 hk3 hg hfw hpre hJ hs hq
  exact h.elim
 | .scope c,env,U,Q,hk,h=>by
  simp only[jX]at hk;intro w0 ro0 K a w hw he;refine wp_scope_straight (wp_mono (yF hm c hk (by simpa only[vcC] using h) w0 ro0 K a w hw he) ?_);rintro e a' w' (⟨K',env',U',h1,h2,h3,hd,h4⟩|⟨ch,K',U',rfl,hp⟩)
  . cases e with
    |goto l=>exact h4.elim
    |_=>exact .inl ⟨K',env',U',h1,h2,h3,hd,h4⟩
  exact .inr ⟨ch,K',U',rfl,hp⟩
 |.label l,env,U,Q,hk,h=>fun w0 ro0 K a w hw he=>wp_label (.inl ⟨K,env,U,qFG K,hw,he,.same rfl,h⟩)
 |.goto l,_,_,_,hk,h=>by simp[jX]at hk
 |.refuse w,_,_,_,hk,h=>by simp[jX]at hk
section
variable {P:Program}{G:Glo}{U:St}{f:FuncId}{args args':List AV}{r r':AV}
def Pure.sub(h:Pure P G f args' r')(ha:zm args args')(hr:Leq r' r):Pure P G f args r :=
 ⟨h.1,fun w0 ro vs hg hro hvs=>(h.2 w0 ro vs hg hro (zm.rel _ _ ha hvs)).mono fun e w' ⟨v,ro',h1,h2,h3,h4,h5,h6⟩=>⟨v,ro',h1,h2,h3,h4,h5,qFv _ _ hr h6⟩⟩
def Pure.less(h:Pure P G f args' r)(ha:zm args args'):Pure P G f args r:=h.sub ha (qFw r)
def qj.pure{Q}(h:Pure P G f args' r)(hno:qw (args.map plain)=true)(ha:zm (args.map plain) args')(hq:Q r U):qj P G f args U Q :=
 Q6.acall (.inl ⟨hno,h.less ha⟩) hq
def Q6.pure(h:Pure P G f args' r)(hno:qw (args.map plain)=true)(ha:zm (args.map plain) args'):Q6 P G f args U r:=.inl ⟨hno,h.less ha⟩
def Q6.lent(h:Pure P G f args' r)(hb:qtS r=true)(ha:zm (args.map (frz U.H 8)) args'):Q6 P G f args U r:=.inr ⟨hb,h.less ha⟩
def qa.of{d Q}(h:Q6 P G f args U r)(hq:Q r U):qa P G d f args U Q:=by
 cases d
 . exact h.acall hq
 exact⟨r,h,hq⟩
def qa.pure{d Q}(h:Pure P G f args' r)(hno:qw (args.map plain)=true)(ha:zm (args.map plain) args')(hq:Q r U):qa P G d f args U Q:=.of (.pure h hno ha) hq
def qFO:=@qa.pure
def qa.lent{d Q}(h:Pure P G f args' r)(hb:qtS r=true)(ha:zm (args.map (frz U.H 8)) args')(hq:Q r U):qa P G d f args U Q:=.of (.lent h hb ha) hq
def qkZ(P:Program)(deep:Bool)(rs:List ResultVar)(r:AV)(env:Env)(U:St):Prop :=
 match qfF (Dof P) rs env U with
 | some l=>match deep with
  |false=>qO (fin U.H (Vf l))=true/\Leq (fin U.H (Vf l)) r
  |true=>qO (frz U.H 8 (Vf l))=true/\Leq (frz U.H 8 (Vf l)) r
 |none=>False
def qc5(P:Program)(deep:Bool)(rs:List ResultVar)(r:AV):Exit->Env->St->Prop
 |.ret,env,U=>qkZ P deep rs r env U
 |.normal,env,U=>qkZ P deep rs r env U
 |_,_,_=>False
def Pure.vcO {G : Nat → AV} {fn : Func} {c : Code} (o : Opts) (deep : Bool) (hm : P.follows .mixedOrders = true) (hf : P.funcs[f]? = some fn) (hb : fn.body = some c) (hk : (jX fn.ntmps o c && decide (args.length ≤ fn.ntmps) && fn.name != "runtime.NumGoroutine") = true)
 (h:vcC P G o c (JD args) ⟨[],[]⟩ (qc5 P deep fn.results.toList r)):Pure P G f args r:=by
 simp at hk;refine Pure.of_body (qch G) hf hb hk.2 hk.1.2 (AWp.mono (yF hm c hk.1.1 h) fun e env U hq=>?_);have key:qkZ P deep fn.results.toList r env U->∃l,qfF (Dof P) fn.results.toList env U=some l/\((qO (fin U.H (Vf l))=true/\Leq (fin U.H (Vf l)) r)\/(qO (frz U.H 8 (Vf l))=true/\Leq (frz U.H 8 (Vf l)) r)):=fun h=>by
  unfold qkZ at h;split at h
  . rename_i l hl;cases deep
    . exact⟨l,hl,.inl h⟩
    exact⟨l,hl,.inr h⟩
  exact h.elim
 cases e with
 |ret=>exact⟨.inl rfl,key hq⟩
 |normal=>exact⟨.inr rfl,key hq⟩
 |_=>exact hq.elim
def Pure.vc {G : Nat → AV} {fn : Func} {c : Code} (hm : P.follows .mixedOrders = true) (hf : P.funcs[f]? = some fn) (hb : fn.body = some c) (hk : (jX fn.ntmps o0 c && decide (args.length ≤ fn.ntmps) && fn.name != "runtime.NumGoroutine") = true)
 (h:vcC P G o0 c (JD args) ⟨[],[]⟩ (qc5 P false fn.results.toList r)):Pure P G f args r:=Pure.vcO o0 false hm hf hb hk h
def qFP:=@Pure.vc
end
end
def z4{p q:Prop}(h:p=q):p=q:=by rw[h]
@[congr]def qpr{P G d f args args' U Q}(h:args=args'):qa P G d f args U Q=qa P G d f args' U Q:=by rw[h]
def qE(P:Program)(G:Glo)(o:Opts)(c:Code)(env:Env)(U:St)(Q:Exit->Env->St->Prop):Prop :=
 ∃(I:Nat->Env->St->Prop) (n:Nat),I n env U/\∀n env U,I n env U->vcC P G o c env U (w9 (fun env' U'=>∃n',n'<n/\I n' env' U') Q)
@[congr]def qtt{c c'}{A B:Prop}(h:c=c'):qhd c A B=qhd c' A B:=by rw[h]
@[simp]def qua{A B:Prop}:qhd true A B=A:=by simp[qhd]
@[simp]def qts{A B:Prop}:qhd false A B=B:=by simp[qhd]
@[simp low]def qub{c}{A B:Prop}:qhd c A B=((c=true->A)/\(c=false->B)):=z4 rfl
@[simp]def qwr{env d i v}:upd env (some d) v i=if i=d then v else env i:=rfl
@[simp]def qws{env v}:upd env none v=env:=rfl
section
variable {P:Program}{G:Glo}{o:Opts}{env:Env}{U:St}{Q:Exit->Env->St->Prop}
@[simp]def qxO:vcC P G o .skip env U Q=Q .normal env U:=by simp only[vcC]
@[simp]def qzf:vcC P G o .ret env U Q=Q .ret env U:=by simp only[vcC]
@[simp]def qxQ{id}:vcC P G o (.exit id) env U Q=Q (.exit id) env U:=by simp only[vcC]
@[simp]def qze{x y}:vcC P G o (.seq x y) env U Q=vcC P G o x env U (w9 (fun env U=>vcC P G o y env U Q) Q):=by simp only[vcC]
@[simp]def qwo{id x}:vcC P G o (.block id x) env U Q=vcC P G o x env U (vd id Q):=by simp only[vcC]
@[simp]def qxP{x}:vcC P G o (.loop x) env U Q=qE P G o x env U Q:=by simp only[vcC]<;>rfl
@[simp]def qt6{id ops}:vcC P G o (.region id ops false) env U Q=vcR P G o.mu ops false (o.lw.contains id) ops.toList env U (fun env U=>Q .normal env U):=by simp only[vcC]
@[simp]def qwn{id ops}:vcC P G o0 (.region id ops true) env U Q=vcR P G false ops true false ops.toList env U (fun env U=>Q .normal env U):=by simp[vcC,o0]
@[simp]def qxR{c x y b}(h:ev G env c=.bool b):vcC P G o (.cond c x y) env U Q=qhd b (vcC P G o x env U Q) (vcC P G o y env U Q):=by simp only[vcC,h]
@[simp]def qzV:o0.mu=false:=rfl
@[simp]def qzW:o0.lw=[]:=rfl
end
section
variable {P:Program}{G:Glo}{mu:Bool}{ops:Array Oper}{d lw:Bool}{env:Env}{U:St}{Q:Env->St->Prop}
@[simp]def qxS:vcR P G mu ops d lw [] env U Q=Q env U:=z4 rfl
@[simp]def qqQ{dst:Option Nat}{op:Op}{type:TypeId}{pos:String}{after:Array Edge}{rest:List Oper}:
 vcR P G mu ops d false ({dst:=dst,op:=op,type:=type,pos:=pos,after:=after,guard:=none}::rest) env U Q=jP P G mu d op env U (fun v U'=>vcR P G mu ops d false rest (upd env dst v) U' Q):=by
 rw[vcR,vcG];simp
def vQ(P:Program)(G:Glo)(mu:Bool)(ops:Array Oper)(d:Bool)(x:Option Nat)(b:Bool)(dst:Option Nat)(op:Op)(rest:List Oper)(env:Env)(U:St)(Q:Env->St->Prop):Prop :=
 match x with
 | some t=>match env t with
  | .bool c=>qhd (c==b) (jP P G mu d op (upd env (some t) (.bool b)) U (fun v U'=>vcR P G mu ops d false rest (upd (upd env (some t) (.bool b)) dst v) U' Q))
   (vcR P G mu ops d false rest (upd (upd env (some t) (.bool (!b))) dst (.tup [])) U Q)
  |.tup []=>vcR P G mu ops d false rest (upd env dst (.tup [])) U Q
  |_=>False
 |none=>vcR P G mu ops d false rest (upd env dst (.tup [])) U Q
@[congr]def qmC{x x' b dst op rest}(h:x=x'):vQ P G mu ops d x b dst op rest env U Q=vQ P G mu ops d x' b dst op rest env U Q:=by rw[h]
@[simp]def qiW{dst:Option Nat}{op:Op}{type:TypeId}{pos:String}{after:Array Edge}{rest:List Oper}{j:Nat}{b:Bool}:
 vcR P G mu ops d false ({dst:=dst,op:=op,type:=type,pos:=pos,after:=after,guard:=some (j,b)}::rest) env U Q=vQ P G mu ops d ((ops[j]?).bind (·.dst)) b dst op rest env U Q:=by
 rw[vcR,vcG];simp only[qDf,qE6,qC2];rfl
@[simp]def qpq{t b c dst op rest}(h:env t=.bool c):vQ P G mu ops d (some t) b dst op rest env U Q =
 qhd (c==b) (jP P G mu d op (upd env (some t) (.bool b)) U (fun v U'=>vcR P G mu ops d false rest (upd (upd env (some t) (.bool b)) dst v) U' Q)) (vcR P G mu ops d false rest (upd (upd env (some t) (.bool (!b))) dst (.tup [])) U Q):=by
 simp only[vQ,h]
@[simp]def qqR{t b dst op rest}(h:env t=.tup []):vQ P G mu ops d (some t) b dst op rest env U Q=vcR P G mu ops d false rest (upd env dst (.tup [])) U Q:=by
 simp only[vQ,h]
end
section
variable {P:Program}{G:Glo}{mu d:Bool}{env:Env}{U:St}{Q:AV->St->Prop}
def jJ(x:Option (AV×St))(Q:AV->St->Prop):Prop:=match x with
 |some (v,U)=>Q v U
 |none=>False
@[congr]def qqP{x x'}(h:x=x'):jJ x Q=jJ x' Q:=by rw[h]
@[simp]def qtp{v U}:jJ (some (v,U)) Q=Q v U:=z4 rfl
@[simp]def qtq:jJ none Q=False:=z4 rfl
@[congr]def qt7{l l' s s'}(h:l=l')(h':s=s'):vcX l s Q=vcX l' s' Q:=by rw[h,h']
@[simp]def qab{s}:vcX none s Q=jJ s Q:=by simp only[vcX,jJ];try rfl
@[simp]def qqO{v τ s}:vcX (some [(v,τ)]) s Q=Q v τ:=by simp[vcX]
@[simp]def qqN{v v' τ τ' s}:vcX (some [(v,τ),(v',τ')]) s Q=(Q v τ/\Q v' τ'):=by
 simp only[vcX,eq_iff_iff];constructor
 . exact fun h=>⟨h _ _ (by simp),h _ _ (by simp)⟩
 rintro⟨h1,h2⟩ a b hm;simp only[qBt,qBh,qDg,or_false]at hm;rcases hm with⟨rfl,rfl⟩|⟨rfl,rfl⟩
 . exact h1
 exact h2
def qxU(P:Program)(G:Glo)(d:Bool)(f:AV)(args:List AV)(U:St)(Q:AV->St->Prop):Prop:=match f with
 |.fn g first cap=>qa P G d g (ke first args cap) U Q
 |_=>False
@[simp]def qxT{g first args cap}:qxU P G d (.fn g first cap) args U Q=qa P G d g (ke first args cap) U Q:=z4 rfl
@[simp]def qt9{f a t}:jP P G mu d (.call {callee:=.value f,args:=a,argTypes:=t}) env U Q=qxU P G d (ev G env f) (qbs G env a.toList) U Q:=z4 rfl
@[simp]def qiZ{x}:jP P G mu d (.move x) env U Q=jJ (sem (Dof P) G env U (.move x)) Q:=by cases d<;>rfl
@[simp]def qdS{x}:jP P G mu d (.assign x) env U Q=jJ (sem (Dof P) G env U (.assign x)) Q:=by cases d<;>rfl
@[simp]def qiY{a b c}:jP P G mu d (.pick a b c) env U Q=jJ (sem (Dof P) G env U (.pick a b c)) Q:=by cases d<;>rfl
@[simp]def qhc{t}:jP P G mu d (.alloc t) env U Q=jJ (sem (Dof P) G env U (.alloc t)) Q:=by cases d<;>rfl
@[simp]def qmB{t x}:jP P G mu d (.box t x) env U Q=jJ (sem (Dof P) G env U (.box t x)) Q:=by cases d<;>rfl
@[simp]def qha{t p}:jP P G mu d (.build t p) env U Q=jJ (sem (Dof P) G env U (.build t p)) Q:=by cases d<;>rfl
@[simp]def Y1{t n p}:jP P G mu d (.buildSlice t n p) env U Q=jJ (sem (Dof P) G env U (.buildSlice t n p)) Q:=by cases d<;>rfl
@[simp]def qi0{t x}:jP P G mu d (.load t x) env U Q=jJ (sem (Dof P) G env U (.load t x)) Q:=by cases d<;>rfl
@[simp]def qg6{t x y}:jP P G mu d (.store t x y) env U Q=jJ (sem (Dof P) G env U (.store t x y)) Q:=by cases d<;>rfl
@[simp]def qac{x}:jP P G mu d (.nilCheck x) env U Q=jJ (sem (Dof P) G env U (.nilCheck x)) Q:=by cases d<;>rfl
def YX{s}:vcX (qem d none) s Q=jJ s Q:=by cases d<;>exact qab
@[simp]def qhb{o t u x y}(h:o≠.eql)(h':o≠.neq):jP P G mu d (.binOp o t x y u) env U Q=jJ (sem (Dof P) G env U (.binOp o t x y u)) Q:=by
 have:qb8 (Dof P) G mu env U (.binOp o t x y u)=none:=by cases o<;>first|rfl|exact absurd rfl h|exact absurd rfl h'
 simp only[jP,this];exact YX
def qkg(d neg:Bool)(D:Nat->Option TI)(t:Nat)(x y:AV)(U:St):Option (List (AV×St)):=match d with
 |true=>none
 |false=>VI D neg t x y U
@[simp]def qmz{t u x y}:jP P G mu d (.binOp .eql t x y u) env U Q=vcX (qkg d false (Dof P) t (ev G env x) (ev G env y) U) (sem (Dof P) G env U (.binOp .eql t x y u)) Q:=by cases d<;>rfl
@[simp]def qmw{t u x y}:jP P G mu d (.binOp .neq t x y u) env U Q=vcX (qkg d true (Dof P) t (ev G env x) (ev G env y) U) (sem (Dof P) G env U (.binOp .neq t x y u)) Q:=by cases d<;>rfl
@[simp]def qiX{o t x}:jP P G mu d (.unOp o t x) env U Q=jJ (sem (Dof P) G env U (.unOp o t x)) Q:=by cases d<;>rfl
@[simp]def qbG{t u x}:jP P G mu d (.convert t u x) env U Q=jJ (sem (Dof P) G env U (.convert t u x)) Q:=by cases d<;>rfl
@[simp]def qad{f:Fn}{a b}:jP P G mu d (.makeFunc f a b) env U Q=jJ (sem (Dof P) G env U (.makeFunc f a b)) Q:=by cases d<;>rfl
@[simp]def qbE{t r}:jP P G mu d (.makeMap t r) env U Q=jJ (sem (Dof P) G env U (.makeMap t r)) Q:=by cases d<;>rfl
@[simp]def Y0{t x y}:jP P G mu true (.makeSlice t x y) env U Q=jJ (sem (Dof P) G env U (.makeSlice t x y)) Q:=by rfl
@[simp]def Q7{t x y}:jP P G mu false (.makeSlice t x y) env U Q=vcX (mkX (Dof P) mu U t (ev G env x) (ev G env y)) (sem (Dof P) G env U (.makeSlice t x y)) Q:=by rfl
@[simp]def qg7{t x lo hi mx}:jP P G mu d (.slice t x lo hi mx) env U Q=jJ (sem (Dof P) G env U (.slice t x lo hi mx)) Q:=by cases d<;>rfl
@[simp]def WT{t x i}:jP P G mu d (.fieldAddr t x i) env U Q=jJ (sem (Dof P) G env U (.fieldAddr t x i)) Q:=by cases d<;>rfl
@[simp]def qg9{t x i}:jP P G mu d (.field t x i) env U Q=jJ (sem (Dof P) G env U (.field t x i)) Q:=by cases d<;>rfl
@[simp]def WS{t x y}:jP P G mu d (.indexAddr t x y) env U Q=jJ (sem (Dof P) G env U (.indexAddr t x y)) Q:=by cases d<;>rfl
@[simp]def qg8{t x y}:jP P G mu d (.index t x y) env U Q=jJ (sem (Dof P) G env U (.index t x y)) Q:=by cases d<;>rfl
@[simp]def qdR{t x y k}:jP P G mu d (.lookup t x y k) env U Q=jJ (sem (Dof P) G env U (.lookup t x y k)) Q:=by cases d<;>rfl
@[simp]def WR{t x y z}:jP P G mu d (.mapUpdate t x y z) env U Q=jJ (sem (Dof P) G env U (.mapUpdate t x y z)) Q:=by cases d<;>rfl
@[simp]def qtr{t x}:jP P G mu d (.range t x) env U Q=jJ (sem (Dof P) G env U (.range t x)) Q:=by cases d<;>rfl
@[simp]def qt8{x}:jP P G mu d (.next x true) env U Q=jJ (sem (Dof P) G env U (.next x true)) Q:=by cases d<;>rfl
@[simp]def qbF{x i}:jP P G mu d (.extract x i) env U Q=jJ (sem (Dof P) G env U (.extract x i)) Q:=by cases d<;>rfl
@[simp]def qmy{a t}:jP P G mu d (.call {callee:=.builtin .len,args:=a,argTypes:=t}) env U Q=jJ (sem (Dof P) G env U (.call {callee:=.builtin .len,args:=a,argTypes:=t})) Q:=by
 have:qb8 (Dof P) G mu env U (.call {callee:=.builtin .len,args:=a,argTypes:=t})=none:=by simp only[qb8]
 simp only[jP,this];exact YX
@[simp]def qmx{a t}:jP P G mu d (.call {callee:=.builtin .min,args:=a,argTypes:=t}) env U Q=jJ (sem (Dof P) G env U (.call {callee:=.builtin .min,args:=a,argTypes:=t})) Q:=by
 have:qb8 (Dof P) G mu env U (.call {callee:=.builtin .min,args:=a,argTypes:=t})=none:=by simp only[qb8]
 simp only[jP,this];exact YX
@[simp]def qwp{a t}:jP P G mu d (.call {callee:=.builtin .max,args:=a,argTypes:=t}) env U Q=jJ (sem (Dof P) G env U (.call {callee:=.builtin .max,args:=a,argTypes:=t})) Q:=by
 have:qb8 (Dof P) G mu env U (.call {callee:=.builtin .max,args:=a,argTypes:=t})=none:=by simp only[qb8]
 simp only[jP,this];exact YX
@[simp]def qdT{a t}:jP P G false d (.call {callee:=.builtin .append,args:=a,argTypes:=t}) env U Q=jJ (sem (Dof P) G env U (.call {callee:=.builtin .append,args:=a,argTypes:=t})) Q:=by
 have:qb8 (Dof P) G false env U (.call {callee:=.builtin .append,args:=a,argTypes:=t})=none:=by
  simp only[qb8];split<;>first|rfl|(rename_i h _ _;cases h;done)|(simp_all;done)
 simp only[jP,this];exact YX
@[simp]def qbH{s x t u}:jP P G true false (.call {callee:=.builtin .append,args:=#[s,x],argTypes:=#[t,u]}) env U Q=vcX ((zx (Dof P) U t u (ev G env s) (ev G env x)).map fun p=>[p]) (sem (Dof P) G env U (.call {callee:=.builtin .append,args:=#[s,x],argTypes:=#[t,u]})) Q:=z4 rfl
@[simp]def qi1{x y t u}:jP P G mu false (.call {callee:=.builtin .copy,args:=#[x,y],argTypes:=#[t,u]}) env U Q=vcX ((kq (Dof P) U t (ev G env x) (ev G env y)).map fun p=>[p]) none Q:=z4 rfl
@[simp]def qwq{x t}:jP P G mu false (.call {callee:=.builtin .cap,args:=#[x],argTypes:=#[t]}) env U Q=vcX ((qtQ (Dof P) t (ev G env x)).map fun v=>[(v,U)]) none Q:=z4 rfl
end
attribute [simp] qkg VI qnN sem ev qbs qZ kD YD zL qoY zz qq7 zH qgm QR qgB w7 cut Zt TD.agg ofV ofAtom JD qfF Vf fin yP yb pl1 qO plain pl2 qc5 qkZ ke YJ unA St.push Vk zA AV.atom qw qX
section
variable {next:Env->St->Prop}{Q:Exit->Env->St->Prop}{env:Env}{U:St}
@[simp]def qqx:w9 next Q .normal env U=next env U:=z4 rfl
@[simp]def qwa:w9 next Q .ret env U=Q .ret env U:=z4 rfl
@[simp]def qtX{i}:w9 next Q (.exit i) env U=Q (.exit i) env U:=z4 rfl
@[simp]def qpg{n}:vd n Q .normal env U=Q .normal env U:=z4 rfl
@[simp]def qtY{n}:vd n Q .ret env U=Q .ret env U:=z4 rfl
@[simp]def qe9{n i}:vd n Q (.exit i) env U=if i=n then Q .normal env U else Q (.exit i) env U:=z4 rfl
def qE.intro{P G o c}(I:Nat->Env->St->Prop)(n)(h:I n env U)(hr:∀n env U,I n env U->vcC P G o c env U (w9 (fun env' U'=>∃n',n'<n/\I n' env' U') Q)):qE P G o c env U Q:=⟨I,n,h,hr⟩
def qFM:=@qE.intro
end
attribute [simp] Leq zm Leq.refl zm.refl WP.refl yp.refl
def wr{n}(h:-9223372036854775808<=n)(h':n<9223372036854775808):IntKind.i64.wrap n=n:=by
 simp[IntKind.wrap,IntKind.bits,IntKind.signed];omega
def zf{α:Type}{l:List α}{i:Nat}{v:α}(h:l[i]?=some v):l.drop i=v::l.drop (i+1):=by
 obtain⟨h1,h2⟩:=qAU.1 h;rw[qA9 h1,h2]
def KA{a}(h:qO a=true):pl1 a=a:=by
 unfold pl1;split
 . simp[qO]at h
 rfl
def Vy:∀{l:List AV},qw l=true->l.map pl1=l
 |[],_=>rfl
 | a::r,h=>by
  simp only[qw,qA1]at h;rw[qA7,KA h.1,Vy h.2]
def qcl{a}(h:qO a=true):pl2 a=a:=by
 unfold pl2;split
 . simp only[qO]at h;simp[Vy h]
 exact KA h
def Vx:∀{l:List AV},qw l=true->l.map pl2=l
 |[],_=>rfl
 | a::r,h=>by
  simp only[qw,qA1]at h;rw[qA7,qcl h.1,Vx h.2]
def yr{a}(h:qO a=true):plain a=a:=by
 unfold plain;split
 . simp only[qO]at h;simp[Vx h]
 exact qcl h
def j8:∀{l:List AV},qw l=true->l.map plain=l
 |[],_=>rfl
 | a::r,h=>by
  simp only[qw,qA1]at h;rw[qA7,yr h.1,j8 h.2]
def qF{H n a}(h:qO a=true):frz H n a=a:=by
 cases n<;>simp[frz,h]
def QQ{H a}(h:qO a=true):yb H a=a:=by
 unfold yb;split
 . simp[qO]at h
 exact KA h
def yJ:∀{l m:List AV},qw (l++m)=(qw l&&qw m)
 |[],m=>by simp[qw]
 |a::r,m=>by simp[qw,yJ (l:=r),Bool.and_assoc]
def zn{α:Type}{f:α->List AV}(h:∀x,qw (f x)=true):∀(l:List α),qX (l.map f)=true
 |[]=>rfl
 |a::r=>by simp[qX,h,zn h r]
def WX{l m}:qX (l++m)=(qX l&&qX m):=by
 simp[VF]
def Leq.sl{sz l m tok}(h:l=m):Leq (.sl sz l tok) (.sl sz m .none):=by
 subst h;simp[Leq,qFy]
def Leq.slnil{sz sz' tok}:Leq (.sl sz [] tok) (.sl sz' [] .none):=by simp[Leq]
section
variable {P:Program}{G:Glo}{U:St}{f:FuncId}{args args':List AV}{r r':AV}{Q:AV->St->Prop}
def qj.call(h:Pure P G f args r)(hno:qw args=true)(hq:Q r U):qj P G f args U Q :=
 qj.pure h (by rwa[j8 hno]) (by rw[j8 hno];exact qFx _) hq
def qa.call{d}(h:Pure P G f args r)(hno:qw args=true)(hq:Q r U):qa P G d f args U Q :=
 qFO h (by rwa[j8 hno]) (by rw[j8 hno];exact qFx _) hq
def qFz:=@qa.call
def qa.less{d}(h:Pure P G f args' r)(hno:qw args=true)(ha:zm args args')(hq:Q r U):qa P G d f args U Q :=
 qFO h (by rwa[j8 hno]) (by rwa[j8 hno]) hq
def qFA:=@qa.less
end
