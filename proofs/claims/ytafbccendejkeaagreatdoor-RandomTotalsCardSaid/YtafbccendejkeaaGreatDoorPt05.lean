import Derived.Test.YtafbccendejkeaaGreatDoorPt04
import Derived.TacticsIn
import Derived.OrdersIn
import Derived.RangeFuncIn
import Derived.RangeFuncRecord
import Derived.Scope
set_option linter.all false
set_option linter.defProp false
namespace Go.Abs
open Go Go.RowKit
section
structure Opts where
 mu:Bool
 fk:List (Nat×Sch×List Nat)
 lw:List Nat
 bw:List (Nat×Nat):=[]
def o0:Opts:=⟨false,[],[],[]⟩
def z9(N:Nat):Code->Bool
 |.skip|.exit _=>true
 |.region _ ops false=>vT N ops
 |.seq x y=>z9 N x&&z9 N y
 |.cond _ x y=>z9 N x&&z9 N y
 |.block _ c=>z9 N c
 |_=>false
def jT(N:Nat)(o:Opts):Code->Bool
 |.skip|.ret|.exit _=>true
 | .region id ops d=>vT N ops&&(!d||(match o.fk.lookup id with
  |some (s,ac)=>qd5 ops o.mu ac s (Array.replicate ops.size false)&&decide (Vc s<=ops.size)
  |none=>qpX ops o.mu (o.lw.contains id)))
 |.seq x y=>jT N o x&&jT N o y
 |.cond _ x y=>jT N o x&&jT N o y
 |.block _ c=>jT N o c
 |.loop c=>jT N o c
 | .rangeFunc _ ps x y=>(match ps.toList with
  |[p,q]=>decide (p<N)&&decide (q<N)
  |[p]=>decide (p<N)
  |_=>false)&&z9 N x&&z9 N y
 |.scope c=>jT N o c
 |.label _=>true
 |_=>false
def qg7(c:Bool)(A B:Prop):Prop:=(c=true->A)/\(c=false->B)
def vcG(P:Program)(G:Glo)(mu d:Bool)(ops:Array Oper)(o:Oper)(env:Env)(U:St)(k:Env->AV->St->Prop):Prop :=
 match o.guard with
 |none=>jN P G mu d o.op env U (k env)
 | some (j,b)=>match(ops[j]?).bind (·.dst) with
  | some t=>match env t with
   |.bool c=>qg7 (c==b) (jN P G mu d o.op (upd env (some t) (.bool b)) U (k (upd env (some t) (.bool b)))) (k (upd env (some t) (.bool (!b))) (.tup []) U)
   |.tup []=>k env (.tup []) U
   |_=>False
  |none=>k env (.tup []) U
def qeu:Op->Bool
 |.call { callee:=.value _,.. }=>true
 |_=>false
def qr1{α:Type}:List α->Bool
 |[]=>true
 |_=>false
def vcR(P:Program)(G:Glo)(mu:Bool)(ops:Array Oper)(d lw:Bool):List Oper->Env->St->(Env->St->Prop)->Prop
 |[],env,U,Q=>Q env U
 |o::rest,env,U,Q=>vcG P G mu (d&&!(lw&&qr1 rest&&qeu o.op)) ops o env U (fun env v U'=>vcR P G mu ops d lw rest (upd env o.dst v) U' Q)
mutual
def vcS(P:Program)(G:Glo)(mu:Bool)(ac:List Nat)(ops:Array Oper):Sch->Env->St->(Env->St->Prop)->Prop
 |.done,env,U,Q=>Q env U
 | .step k _ s,env,U,Q=>match ops[k]? with
  |some o=>vcG P G mu (ze mu ac k o.op != 9) ops o env U (fun env v U'=>vcS P G mu ac ops s (upd env o.dst v) U' Q)
  |none=>False
 |.fork a,env,U,Q=>vL P G mu ac ops a env U Q
def vL(P:Program)(G:Glo)(mu:Bool)(ac:List Nat)(ops:Array Oper):Alts->Env->St->(Env->St->Prop)->Prop
 |.nil,_,_,_=>True
 | .cons k s r,env,U,Q=>(match ops[k]? with
  |some o=>vcG P G mu (ze mu ac k o.op != 9) ops o env U (fun env v U'=>vcS P G mu ac ops s (upd env o.dst v) U' Q)
  |none=>False)/\vL P G mu ac ops r env U Q
end
abbrev FR(ro:Option Nat):Fence:={ Fence.wide with round:=ro }
def qfk{env t v}(h:env t=v):upd env (some t) v=env:=by
 funext i;simp only[upd];split
 . rename_i e;rw[e,h]
 rfl
section
variable {P:Program}{G:Glo}{N:Nat}{env:Env}{U U':St}{w0:World}{ro0:Nat->Nat->Option Value}{K:Kn}{a:Act}{w:World}{ops:Array Oper}{o:Oper}{v:AV}{mu d:Bool}{ac:List Nat}
def wj{k}(h:vcG P G mu d ops o env U k):(jt ops env o=some false/\k env (.tup []) U)\/(jt ops env o=some true/\jN P G mu d o.op env U (k env)):=by
 unfold vcG at h;split at h
 . rename_i hg;exact .inr ⟨by simp[jt,hg],h⟩
 rename_i j b hg;split at h
 . rename_i t ht;split at h
   . rename_i c hc;by_cases hcb:c=b
     . have:=h.1 (by simp[hcb]);rw[hcb]at hc;rw[qfk hc]at this;exact .inr ⟨by simp[jt,hg,ht,hc],this⟩
     have hcb':c = !b:=(by cases c<;>cases b<;>simp_all);have:=h.2 (by simp[hcb]);rw[hcb']at hc;rw[qfk hc]at this;exact .inl ⟨by simp[jt,hg,ht,hc],this⟩
   . rename_i hc;exact .inl ⟨by simp[jt,hg,ht,hc],h⟩
   exact h.elim
 rename_i ht;exact .inl ⟨by simp[jt,hg,ht],h⟩
def qbz(hs:vT N ops=true){lw Q}:∀(l) (env) (U) (K) (a) (w),(∀o∈l,o∈ops.toList)->vcR P G mu ops false lw l env U Q->WRel G w0 ro0 K U w->ERel K N env a ->
 ∀{Q':Exit->Act->World->Prop},(∀K' env' U' a' w',K.le K'->WRel G w0 ro0 K' U' w'->ERel K' N env' a'->a'.defers=a.defers->Q env' U'->Q' .normal a' w') ->
 (∀c K' U' a' w',K.le K'->WRel G w0 ro0 K' U' w'->a'.defers=a.defers->G.X c U'->Q' (.panic c) a' w')->wpList P ops Q' l a w
 |[],env,U,K,a,w,_,h,hw,he,Q',hq,_=>hq K env U a w (qE0 K) hw he rfl h
 | o::rest,env,U,K,a,w,hm,h,hw,he,Q',hq,hp=>by
  have hd:=ZB hs (hm o (by simp));have hgd:=Za hs o;have hrest:∀x∈rest,x∈ops.toList:=fun x hx=>hm x (by simp[hx])
  have cont:∀(v) (U') (K1) (a1) (w1),vcR P G mu ops false lw rest (upd env o.dst v) U' Q->K.le K1->WRel G w0 ro0 K1 U' w1->ERel K1 N (upd env o.dst v) a1->a1.defers=a.defers->wpList P ops Q' rest a1 w1 :=
   fun v U' K1 a1 w1 hv hle h1 h2 hds=>qbz hs rest _ U' K1 a1 w1 hrest hv h1 h2 (fun K' env' U'' a' w' hle' x1 x2 xd=>hq K' env' U'' a' w' (qE1 hle hle') x1 x2 (xd.trans hds)) fun c K' U'' a' w' hle' x1 xd=>hp c K' U'' a' w' (qE1 hle hle') x1 (xd.trans hds)
  simp only[vcR,qCA]at h;unfold wpList;rcases wj h with⟨hwant,h⟩|⟨hwant,h⟩
  . have:=yM he hgd hwant;rw[if_neg (by simp[this])];exact cont _ U K _ w h (qE0 K) hw (he.put hd (by simp only[qi];exact⟨#[],rfl,by simp[qj]⟩)) qEB
  have:=yM he hgd hwant;rw[if_pos this];exact .inl (qjM hw he hd h (fun v U' K' a' w' hv h1 h2 h3 hds=>cont v U' K' a' w' hv h1 h2 h3 hds) fun c U' K' w' hx h1 h2=>hp c K' U' _ w' h1 h2 rfl hx)
def qjL(hX:G.NoX){ro n}(hw:WRel G w0 ro0 K U w)(he:ERel K N env a)(hd:∀d,o.dst=some d->d<N){R}(h:jN P G mu false o.op env U R){next Q}
 (hn:∀v v' U' K' w',R v U'->K.le K'->WRel G w0 ro0 K' U' w'->ERel K' N (upd env o.dst v) (a.put o.dst v')->next (a.put o.dst v') w'):o.wpIn (FR ro) n P a w next Q:=by
 have hnd:∀c,o.op≠.defer c:=by
  intro c e;rw[e]at h;simp[jN,vcX,qej,qb2,sem]at h
 refine⟨fun _ _=>trivial,?_⟩;rw[Oper.semAt_eq _ _ _ hnd];have did:∀v U',R v U'->Did P G w0 ro0 K w (execOp a.eval o) v U'->o.uponIn (FR ro) n P a next Q ((execOp a.eval o).run P w):=by
  intro v U' hr hdid;obtain⟨v',w',K',hrun,h1,h2,h3⟩:=hdid;rcases hrun with hrun|⟨hrun,rfl⟩
  . rw[hrun];exact hn v v' U' K' w' hr h1 h2 ((he.mono h1).put hd h3)
  rw[hrun];exact hn v _ U' K' w' hr h1 h2 ((he.mono h1).put hd h3)
 unfold jN at h;split at h
 . rename_i f args ts hop;split at h
   . rename_i g first cap hf
     have hac:=h;obtain⟨vs,hr,hvs⟩:=Wd hw he hop hf hac.1;rw[hr,Oper.uponIn_enter];refine⟨fun e=>by simp[Fence.wide]at e,?_⟩;refine CallsIn.mono (F:=FR ro) (show CallsIn (FR ro) (n-1) P g vs w _ from(callsIn_wide (n:=n-1)).2 (hac.2 w0 ro0 K w vs hw hvs)) ?_;rintro e w' (⟨v',v,U',K',rfl,h1,h2,h3,h4⟩|⟨c,U',K',rfl,h1,h2,h3⟩)
     . exact hn v v' U' K' w' h4 h1 h2 ((he.mono h1).put hd h3)
     exact(hX c U' h3).elim
   exact h.elim
 simp only[vcX,qej]at h;split at h
 . rename_i l hl;obtain⟨v,U',h1,h2⟩:=Vb hw he o hl;exact did v U' (h v U' h1) h2
 split at h
 . rename_i v U' hs;exact did v U' h (Kd hw he o hs)
 exact h.elim
def YT(hX:G.NoX)(hs:vT N ops=true){ro n lw Q more}:∀(l) (env) (U) (K) (a) (w),(∀o∈l,o∈ops.toList)->vcR P G mu ops false lw l env U Q->WRel G w0 ro0 K U w->ERel K N env a ->
 ∀{Q':Exit->Act->World->Prop},(∀K' env' U' a' w',K.le K'->WRel G w0 ro0 K' U' w'->ERel K' N env' a'->a'.defers=a.defers->(∀t,(∀o∈l,o.dst≠some t)->a'.tmps.getD t undef=a.tmps.getD t undef)->Q env' U'->wpListIn (FR ro) n P ops Q' more a' w')->wpListIn (FR ro) n P ops Q' (l++more) a w
 |[],env,U,K,a,w,_,h,hw,he,Q',hq=>hq K env U a w (qE0 K) hw he rfl (fun _ _=>rfl) h
 | o::rest,env,U,K,a,w,hm,h,hw,he,Q',hq=>by
  have hd:=ZB hs (hm o (by simp));have hgd:=Za hs o;have hrest:∀x∈rest,x∈ops.toList:=fun x hx=>hm x (by simp[hx])
  have cont:∀(v) (v') (U') (K1) (w1),vcR P G mu ops false lw rest (upd env o.dst v) U' Q->K.le K1->WRel G w0 ro0 K1 U' w1->ERel K1 N (upd env o.dst v) (a.put o.dst v')->wpListIn (FR ro) n P ops Q' (rest++more) (a.put o.dst v') w1 :=
   fun v v' U' K1 w1 hv hle h1 h2=>YT hX hs rest _ U' K1 _ w1 hrest hv h1 h2 fun K' env' U'' a' w' hle' x1 x2 xd xk=>hq K' env' U'' a' w' (qE1 hle hle') x1 x2 (xd.trans qEB) fun t ht=>by
    rw[xk t fun x hx=>ht x (by simp[hx])];have hne:=ht o (by simp);unfold Act.put;split
    . rename_i d hdd;have:d≠t:=fun e=>hne (by rw[hdd,e])
      simp[this]
    rfl
  simp only[vcR,qCA]at h;rw[qAL];unfold wpListIn;rcases wj h with⟨hwant,h⟩|⟨hwant,h⟩
  . have:=yM he hgd hwant;rw[if_neg (by simp[this])];exact⟨fun _ _=>trivial,cont _ _ U K w h (qE0 K) hw (he.put hd (by simp only[qi];exact⟨#[],rfl,by simp[qj]⟩))⟩
  have:=yM he hgd hwant;rw[if_pos this];exact qjL hX hw he hd h fun v v' U' K' w' hv h1 h2 h3=>cont v v' U' K' w' hv h1 h2 h3
def YU{R}(h:jN P G mu true o.op env U R):∃v U',OpA P G o env U v U'/\R v U':=by
 unfold jN at h;split at h
 . rename_i f args ts hop;split at h
   . rename_i g first cap hf
     obtain⟨r,h1,h2⟩:=h;exact⟨r,U,.inr ⟨f,args,ts,g,first,cap,hop,hf,h1,rfl⟩,h2⟩
   exact h.elim
 simp only[vcX,qej]at h;split at h
 . rename_i v U' hs;exact⟨v,U',.inl hs,h⟩
 exact h.elim
def qjG{R i oi dp}(hi:ops[i]?=some oi){fuel listed}(hs:qbV ops mu ac listed i dp=true)
 (h:vcG P G mu (ze mu ac i oi.op != 9) ops oi env U (fun env v U'=>Yp P G ops mu ac R fuel (listed.setIfInBounds i true) (upd env oi.dst v) U')):Yp P G ops mu ac R (fuel+1) listed env U:=by
 simp only[qbV,hi,qAr]at hs;obtain⟨⟨hr,hd⟩,hall⟩:=hs;have hr':i∈Region.ready .any ops listed:=by simpa using hr
 have rest:∀(j:Nat) (oj:Oper),ops[j]?=some oj->j≠i->listed.getD j true=false->j∉dp->ze mu ac i oi.op≠9/\qcU ops oi oj (ze mu ac i oi.op) (ze mu ac j oj.op)=true/\(ze mu ac j oj.op≠9\/ze mu ac i oi.op=0):=by
  intro j oj hoj hji hun hnd;have:=qAv.1 hall j (qBq.2 (qBi.1 hoj).1);simp only[hoj,qCj,beq_iff_eq,qAr,bne_iff_ne,ne_eq]at this;rcases this with((h1|h1)|h1)|h1
  . exact absurd h1 hji
  . rw[hun]at h1;cases h1
  . exact absurd (by simpa using h1) hnd
  exact⟨h1.1,h1.2.1,h1.2.2⟩
 by_cases h9:ze mu ac i oi.op=9
 . have solo:∀(j:Nat) (oj:Oper),ops[j]?=some oj->j≠i->listed.getD j true=false->j∈dp:=by
    intro j oj hoj hji hun;apply Classical.byContradiction;intro hnd;exact(rest j oj hoj hji hun hnd).1 h9
   rw[h9]at h;refine Yp.solo hi hd solo hr' ?_;rcases wj h with⟨hwant,h⟩|⟨hwant,h⟩
   . exact .inl ⟨_,U,.inl ⟨hwant,rfl,rfl⟩,h⟩
   exact .inr ⟨h9,hwant,h⟩
 have hd1:(ze mu ac i oi.op != 9)=true:=by simpa using h9
 rw[hd1]at h;rcases wj h with⟨hwant,h⟩|⟨hwant,h⟩
 . exact Yp.first hi fuel listed env U U hd (fun j oj a b c e=>(rest j oj a b c e).2) hr' (.inl ⟨hwant,rfl,rfl⟩) h
 obtain⟨v,U',h1,h2⟩:=YU h;exact Yp.first hi fuel listed env U U' hd (fun j oj a b c e=>(rest j oj a b c e).2) hr' (.inr ⟨hwant,h1⟩) h2
def vcG.imp{k k'}(h:vcG P G mu d ops o env U k)(hk:∀env v U,k env v U->k' env v U):vcG P G mu d ops o env U k':=by
 unfold vcG at h⊢
 cases hg:o.guard with
 |none=>simp only[hg]at h⊢;exact jN.imp h (hk _)
 | some p=>
  obtain⟨j,b⟩:=p;simp only[hg]at h⊢
  cases ht:(ops[j]?).bind (·.dst) with
  |none=>simp only[ht]at h⊢;exact hk _ _ _ h
  | some t=>
   simp only[ht]at h⊢;generalize env t=x at h⊢
   match x,h with
   |.bool c,h=>exact⟨fun e=>jN.imp (h.1 e) (hk _),fun e=>hk _ _ _ (h.2 e)⟩
   |.tup [],h=>exact hk _ _ _ h
def qkb{lw:Bool}{Q:Env->St->Prop}{mu:Bool}:∀(l:List Oper) (k:Nat) (listed:Array Bool) (env:Env) (U:St),(∀j:Nat,l[j]?=ops[k+j]?)->k+l.length=ops.size->quD ops mu (if lw then [ops.size-1] else []) l.length k listed=true ->
 vcR P G mu ops true lw l env U Q->Yp P G ops mu (if lw then [ops.size-1] else []) Q l.length listed env U
 |[],k,listed,env,U,_,_,hB,h=>⟨by simpa[quD] using hB,h⟩
 | o::l,k,listed,env,U,hl,hlen,hB,h=>by
  have h0:ops[k]?=some o:=by simpa using(hl 0).symm
  simp only[qAD,quD,qAr]at hB;obtain⟨hst,hB'⟩:=hB;simp only[vcR,qBC]at h;have ih:=fun env U h=>qkb (lw:=lw) (Q:=Q) (mu:=mu) l (k+1) (listed.setIfInBounds k true) env U (fun j=>by have:=hl (j+1);simpa[qCm,qCs 1 j] using this) (by simp only[qAD]at hlen;omega) hB' h
  have hst0:=hst;simp only[qbV,h0,qAr]at hst;obtain⟨⟨hr,hd⟩,hall⟩:=hst;have hr':k∈Region.ready .any ops listed:=by simpa using hr
  have rest:∀(j:Nat) (oj:Oper),ops[j]?=some oj->j≠k->listed.getD j true=false->j∉qzb ops k->ze mu (if lw then [ops.size-1] else []) k o.op≠9/\qcU ops o oj (ze mu (if lw then [ops.size-1] else []) k o.op) (ze mu (if lw then [ops.size-1] else []) j oj.op)=true/\(ze mu (if lw then [ops.size-1] else []) j oj.op≠9\/ze mu (if lw then [ops.size-1] else []) k o.op=0):=by
   intro j oj hoj hji hun hnd;have:=qAv.1 hall j (qBq.2 (qBi.1 hoj).1);simp only[hoj,qCj,beq_iff_eq,qAr,bne_iff_ne,ne_eq]at this;rcases this with((h1|h1)|h1)|h1
   . exact absurd h1 hji
   . rw[hun]at h1;cases h1
   . exact absurd (by simpa using h1) hnd
   exact⟨h1.1,h1.2.1,h1.2.2⟩
  have stp:∀v U',wF P G ops o env U v U'->Yp P G ops mu (if lw then [ops.size-1] else []) Q l.length (listed.setIfInBounds k true) (upd env o.dst v) U'->Yp P G ops mu (if lw then [ops.size-1] else []) Q (l.length+1) listed env U:=by
   intro v U' h1 h2;by_cases h9:ze mu (if lw then [ops.size-1] else []) k o.op=9
   . refine Yp.solo h0 hd (fun j oj hoj hji hun=>?_) hr' (.inl ⟨v,U',h1,h2⟩);apply Classical.byContradiction;intro hnd;exact(rest j oj hoj hji hun hnd).1 h9
   exact Yp.first h0 l.length listed env U U' hd (fun j oj a b c e=>(rest j oj a b c e).2) hr' h1 h2
  cases hdd : !(lw&&qr1 l&&qeu o.op) with
  | true=>
   rw[hdd]at h;rcases wj h with⟨hwant,h⟩|⟨hwant,h⟩
   . exact stp _ _ (.inl ⟨hwant,rfl,rfl⟩) (ih _ _ h)
   obtain⟨v,U',h1,h2⟩:=YU h;exact stp _ _ (.inr ⟨hwant,h1⟩) (ih _ _ h2)
  | false=>
   rw[hdd]at h;simp only[Bool.not_eq_false',qAr]at hdd;obtain⟨⟨hlw,hnil⟩,hcall⟩:=hdd;have hnil:l=[]:=(by cases l with|nil=>rfl|cons _ _=>simp[qr1]at hnil);rcases wj h with⟨hwant,h⟩|⟨hwant,h⟩
   . exact stp _ _ (.inl ⟨hwant,rfl,rfl⟩) (ih _ _ h)
   -- the last operation
   have h9:ze mu (if lw then [ops.size-1] else []) k o.op=9:=by
    subst hnil;simp only[qAD,qBh]at hlen;have hk1:k=ops.size-1:=(by omega);unfold qeu at hcall;split at hcall
    . rename_i f args ts e;rw[e];simp[ze,hlw,hk1]
    cases hcall
   refine Yp.solo h0 hd (fun j oj hoj hji hun=>?_) hr' (.inr ⟨h9,hwant,jN.imp h fun v U' hv=>ih _ _ hv⟩);apply Classical.byContradiction;intro hnd;exact(rest j oj hoj hji hun hnd).1 h9
mutual
def qdH{Q}:∀(s) (fuel) (listed) (env) (U),qd5 ops mu ac s listed=true->Vc s<=fuel->vcS P G mu ac ops s env U Q->Yp P G ops mu ac Q fuel listed env U
 | .done,fuel,listed,env,U,hk,_,h=>by
  simp only[qd5]at hk;have hr:Region.ready .any ops listed=[]:=by simpa using hk
  cases fuel with
  |zero=>exact⟨hr,h⟩
  |succ fuel=>exact⟨fun _=>h,fun i hi=>by rw[hr]at hi;cases hi⟩
 | .step k dp s,fuel,listed,env,U,hk,hf,h=>by
  simp only[Vc]at hf;obtain⟨f,rfl⟩:∃f,fuel=f+1:=⟨fuel-1,by omega⟩;simp only[qd5,qAr]at hk;simp only[vcS]at h;split at h
  . rename_i o ho;exact qjG ho hk.1 (vcG.imp h fun env v U' hv=>qdH s f _ _ _ hk.2 (by omega) hv)
  exact h.elim
 | .fork al,fuel,listed,env,U,hk,hf,h=>by
  simp only[Vc]at hf;obtain⟨f,rfl⟩:∃f,fuel=f+1:=⟨fuel-1,by omega⟩;simp only[qd5,qAr,qBO]at hk;simp only[vcS]at h;refine⟨fun h0=>by rw[h0]at hk;simp at hk,fun i hi=>?_⟩;exact WY al f listed env U _ hk.2 (by omega) h i hi
def WY{Q}:∀(al) (fuel) (listed) (env) (U) (need),qdp ops mu ac al listed need=true->qbi al<=fuel->vL P G mu ac ops al env U Q->∀i∈need,∃o,ops[i]?=some o /\
 ((∃v U',wF P G ops o env U v U'/\Yp P G ops mu ac Q fuel (listed.setIfInBounds i true) (upd env o.dst v) U') \/
  (ze mu ac i o.op=9/\jt ops env o=some true/\jN P G mu false o.op env U (fun v U'=>Yp P G ops mu ac Q fuel (listed.setIfInBounds i true) (upd env o.dst v) U')))
 | .nil,fuel,listed,env,U,need,hk,_,_,i,hi=>by
  simp only[qdp]at hk;have:need=[]:=by simpa using hk
  rw[this]at hi;cases hi
 | .cons k s r,fuel,listed,env,U,need,hk,hf,h,i,hi=>by
  simp only[qbi]at hf;simp only[qdp,qAr]at hk;simp only[vL]at h;by_cases hik:i=k
  . subst hik;obtain⟨h,_⟩:=h;split at h
    . rename_i o ho;refine⟨o,ho,?_⟩;have h':=vcG.imp h fun env v U' hv=>qdH s fuel _ _ _ hk.1.2 (by omega) hv
      by_cases h9:ze mu ac i o.op=9
      . rw[h9]at h';rcases wj h' with⟨hwant,h'⟩|⟨hwant,h'⟩
        . exact .inl ⟨_,U,.inl ⟨hwant,rfl,rfl⟩,h'⟩
        exact .inr ⟨h9,hwant,h'⟩
      have hd1:(ze mu ac i o.op != 9)=true:=(by simpa using h9);rw[hd1]at h';rcases wj h' with⟨hwant,h'⟩|⟨hwant,h'⟩
      . exact .inl ⟨_,U,.inl ⟨hwant,rfl,rfl⟩,h'⟩
      obtain⟨v,U',h1,h2⟩:=YU h';exact .inl ⟨v,U',.inr ⟨hwant,h1⟩,h2⟩
    exact h.elim
  exact WY r fuel listed env U _ hk.2 (by omega) h.2 i (qBu.2 ⟨hi,by simpa using hik⟩)
end
end
def qzj(P:Program)(G:Glo)(gb:FuncId)(k:Nat):Prop :=
 bodied P gb=true/\∀(w0) (ro0) (b L B) (K) (U) (w) (sz) (rows:List (List AV)) (tok) (S:Nat->St->Prop),
  WRel G w0 ro0 K U w->K.m b=some B->U.H[b]?=some (.cells [.sl sz rows tok])->rows.length<2^62->S rows.length U ->
  (∀ i U' K' w',S (i+1) U'->K.le K'->WRel G w0 ro0 K' U' w'->∃rows tok r,U'.H[b]?=some (.cells [.sl k rows tok])/\rows[i]?=some r/\∀v,qi K' (.agg r) v ->
    ∃ f tmps asn body,(Instr.yield L #[.int .i64 i,v]).run P w'=.ok (.round L f tmps asn body) w' /\
     RoundIn Fence.wide 0 P L f tmps asn body w' (fun e w''=>e=.returned (.bool true)/\∃K'' U'',K'.le K''/\WRel G w0 ro0 K'' U'' w''/\S i U'')) ->
  CallsIn Fence.wide 0 P gb #[.func (.yield L) #[] #[],.pointer (some ⟨B,0,none⟩)] w (fun e w'=>(∃v,e=.returned v)/\∃K' U',K.le K'/\WRel G w0 ro0 K' U' w'/\S 0 U')
def qw5(P:Program)(G:Glo)(gb:FuncId)(cap:List AV)(pre:St->Prop)(vals:List AV):Prop :=
 bodied P gb=true/\∀(w0) (ro0) (L) (K) (U) (w) (vcap) (S:Nat->St->Prop),
  WRel G w0 ro0 K U w->qj K cap vcap.toList->(∀i U,S i U->pre U)->S 0 U ->
  (∀ i x U' K' w',vals[i]?=some x->S i U'->K.le K'->WRel G w0 ro0 K' U' w'->∀v,qi K' x v ->
    ∃ f tmps asn body,(Instr.yield L #[v]).run P w'=.ok (.round L f tmps asn body) w' /\
     RoundIn Fence.wide 0 P L f tmps asn body w' (fun e w''=>e=.returned (.bool true)/\∃K'' U'',K'.le K''/\WRel G w0 ro0 K'' U'' w''/\S (i+1) U'')) ->
  CallsIn Fence.wide 0 P gb (#[.func (.yield L) #[] #[]]++vcap) w (fun e w'=>(∃v,e=.returned v)/\∃K' U',K.le K'/\WRel G w0 ro0 K' U' w'/\S vals.length U')
def qqf(Q:Exit->Env->St->Prop):Exit->Env->St->Prop
 |.goto _,_,_=>False
 |e,env,U=>Q e env U
def JU(A B:Env->St->(Exit->Env->St->Prop)->Prop)(k b pi pe:Nat)(env:Env):Nat->St->(St->Prop)->Prop
 |0,U,Q=>Q U
 | i+1,U,Q=>match U.H[b]? with
  | some (.cells [.sl sz rows _])=>sz=k/\match rows[i]? with
   |some r=>A (upd (upd env (some pi) (.int .i64 i)) (some pe) (.agg r)) U (fun e env' U'=>e=.normal/\B env' U' (fun e _ U''=>e=.normal/\JU A B k b pi pe env i U'' Q))
   |none=>False
  |_=>False
def vcC(P:Program)(G:Glo)(o:Opts):Code->Env->St->(Exit->Env->St->Prop)->Prop
 |.skip,env,U,Q=>Q .normal env U
 |.ret,env,U,Q=>Q .ret env U
 |.exit id,env,U,Q=>Q (.exit id) env U
 |.seq x y,env,U,Q=>vcC P G o x env U (wX (fun env U=>vcC P G o y env U Q) Q)
 | .cond c x y,env,U,Q=>match ev G env c with
  |.bool b=>qg7 b (vcC P G o x env U Q) (vcC P G o y env U Q)
  |_=>False
 |.block id c,env,U,Q=>vcC P G o c env U (wY id Q)
 | .region id ops d,env,U,Q=>match d,o.fk.lookup id with
  |true,some (s,ac)=>vcS P G o.mu ac ops s env U (fun env U=>Q .normal env U)
  |d,_=>vcR P G o.mu ops d (o.lw.contains id) ops.toList env U (fun env U=>Q .normal env U)
 |.loop c,env,U,Q=>∃(I:Nat->Env->St->Prop) (n:Nat),I n env U/\∀n env U,I n env U->vcC P G o c env U (wX (fun env' U'=>∃n',n' < n/\I n' env' U') Q)
 | .rangeFunc g ps x y,env,U,Q=>match ps.toList,ev G env g with
  | [pi,pe],.fn gb [] [.ptr b 0]=>∃k,G.NoX/\qzj P G gb k/\(match U.H[b]? with
   |some (.cells [.sl _ rows _])=>rows.length<2^62/\JU (fun env U Q=>vcC P G o x env U Q) (fun env U Q=>vcC P G o y env U Q) k b pi pe env rows.length U (fun U=>Q .normal env U)
   |_=>False)
  | [pe],.fn gb [] cap=>∃(pre:St->Prop) (vals:List AV) (J:Nat->St->Prop),G.NoX/\qw5 P G gb cap pre vals/\(∀i U,J i U->pre U)/\J 0 U /\
   (∀i v U,vals[i]?=some v->J i U->vcC P G o x (upd env (some pe) v) U (fun e env' U'=>e=.normal/\vcC P G o y env' U' (fun e _ U''=>e=.normal/\J (i+1) U''))) /\
   ∀U,J vals.length U->Q .normal env U
  |_,_=>False
 |.scope c,env,U,Q=>vcC P G o c env U (qqf Q)
 |.label _,env,U,Q=>Q .normal env U
 |_,_,_,_=>False
section
variable {P:Program}{G:Glo}{N:Nat}{env:Env}{U:St}{ops:Array Oper}{mu:Bool}{ac:List Nat}
def AWp.any{id Q}(hm:P.follows .mixedOrders=true)(hs:vT N ops=true)(h:Yp P G ops mu ac (fun env U=>Q .normal env U) ops.size (Array.replicate ops.size false) env U) :
 AWp P G N (.region id ops true) env U Q:=by
 intro w0 ro0 K a w hw he;refine wp_region_any hm ?_;exact QO hs (Q:=JO G w0 ro0 K N a.defers Q) ops.size (Array.replicate ops.size false) env U K a { w with drawn:=w.drawn+1 }
  (fun K' env' U' a' w' h1 h2 h3 hd h4=>.inl ⟨K',env',U',h1,h2,h3,.same hd,h4⟩) (fun c K' U' a' w' h1 h2 hd hx=>.inr ⟨c,K',U',rfl,h1,h2,.same hd,hx⟩) hw.drew he h
end
def qgU(ro:Option Nat)(P:Program)(G:Glo)(N:Nat)(c:Code)(env:Env)(U:St)(Q:Exit->Env->St->Prop):Prop :=
 ∀(w0) (ro0) (K) (a) (w),WRel G w0 ro0 K U w->ERel K N env a->c.wpIn (FR ro) 0 P (JO G w0 ro0 K N a.defers Q) a w
section
variable {P:Program}{G:Glo}{N:Nat}{ro:Option Nat}{env:Env}{U:St}{Q:Exit->Env->St->Prop}
def qgU.seq{x y}(h:qgU ro P G N x env U (wX (fun env U=>qgU ro P G N y env U Q) Q)):qgU ro P G N (.seq x y) env U Q:=by
 intro w0 ro0 K a w hw he;refine wpIn_seq (wpIn_mono (h w0 ro0 K a w hw he) ?_);intro e a' w' hp;rcases hp with⟨K',env',U',h1,h2,h3,hd,h4⟩|⟨c,K',U',rfl,hp⟩
 case inr=>exact .inr ⟨c,K',U',rfl,hp⟩
 cases e with
 |normal=>exact wpIn_mono (h4 w0 ro0 K' a' w' h2 h3) fun e a w x=>x.after h1 hd
 |_=>exact .inl ⟨K',env',U',h1,h2,h3,hd,h4⟩
def qgU.block{id c}(h:qgU ro P G N c env U (wY id Q)):qgU ro P G N (.block id c) env U Q:=by
 intro w0 ro0 K a w hw he;refine wpIn_block (wpIn_mono (h w0 ro0 K a w hw he) ?_);intro e a' w' hp;rcases hp with⟨K',env',U',h1,h2,h3,hd,h4⟩|⟨c,K',U',rfl,hp⟩
 case inr=>exact .inr ⟨c,K',U',rfl,hp⟩
 cases e with
 | exit id'=>
  simp only[wY]at h4;simp only[Exit.inBlock];split
  . rename_i e;rw[if_pos e]at h4;exact .inl ⟨K',env',U',h1,h2,h3,hd,h4⟩
  rename_i e;rw[if_neg e]at h4;exact .inl ⟨K',env',U',h1,h2,h3,hd,h4⟩
 |_=>exact .inl ⟨K',env',U',h1,h2,h3,hd,h4⟩
def qgU.mono{c Q'}(h:qgU ro P G N c env U Q)(hq:∀e env U,Q e env U->Q' e env U):qgU ro P G N c env U Q' :=
 fun w0 ro0 K a w hw he=>wpIn_mono (h w0 ro0 K a w hw he) fun e a w x=>x.mono hq
end
def j6{P G N ro o}(hX:G.NoX):∀(c){env:Env}{U:St}{Q:Exit->Env->St->Prop},z9 N c=true->vcC P G o c env U Q->qgU ro P G N c env U Q
 |.skip,env,U,_,_,h=>fun w0 ro0 K a w hw he=>wpIn_skip (.inl ⟨K,env,U,qE0 K,hw,he,.same rfl,h⟩)
 |.exit id,env,U,_,_,h=>fun w0 ro0 K a w hw he=>wpIn_exit (.inl ⟨K,env,U,qE0 K,hw,he,.same rfl,h⟩)
 | .seq x y,env,U,Q,hk,h=>by
  simp only[z9,qAr]at hk;exact qgU.seq (qgU.mono (j6 hX x hk.1 (by simpa only[vcC] using h)) fun e env U hq=>by
   cases e<;>first|exact j6 hX y hk.2 hq|exact hq)
 | .cond c x y,env,U,Q,hk,h=>by
  simp only[z9,qAr]at hk;simp only[vcC]at h;split at h
  . rename_i b hb;intro w0 ro0 K a w hw he;have:=Z0 hw he c;rw[hb]at this;simp only[qi]at this;exact wpIn_cond_split this (fun e=>j6 hX x hk.1 (h.1 e) w0 ro0 K a w hw he) (fun e=>j6 hX y hk.2 (h.2 e) w0 ro0 K a w hw he)
  exact h.elim
 |.block id c,_,_,_,hk,h=>qgU.block (j6 hX c hk (by simpa only[vcC] using h))
 | .region id ops false,env,U,Q,hk,h=>by
  have h':vcR P G o.mu ops false (o.lw.contains id) ops.toList env U (fun env U=>Q .normal env U):=by
   simp only[vcC]at h;exact h
  intro w0 ro0 K a w hw he;have:=wpIn_region_list (F:=FR ro) (n:=0) (P:=P) (id:=id) (ops:=ops) (a:=a) (w:=w) (Q:=JO G w0 ro0 K N a.defers Q) (by
   have:=YT hX (w0:=w0) (ro0:=ro0) (by simpa only[z9] using hk) (ro:=ro) (n:=0) (more:=[]) ops.toList env U K a w (by simp) h' hw he (Q':=JO G w0 ro0 K N a.defers Q) fun K' env' U' a' w' h1 h2 h3 hd _ h4=>.inl ⟨K',env',U',h1,h2,h3,.same hd,h4⟩
   simpa using this)
  exact this
 |.region id ops true,_,_,_,hk,_=>by simp[z9]at hk
 |.ret,_,_,_,hk,_=>by simp[z9]at hk
 |.loop c,_,_,_,hk,_=>by simp[z9]at hk
 |.rangeFunc ..,_,_,_,hk,h=>by simp[z9]at hk
 |.scope c,_,_,_,hk,h=>by simp[z9]at hk
 |.label l,_,_,_,hk,h=>by simp[z9]at hk
 |.goto l,_,_,_,hk,h=>by simp[z9]at hk
 |.refuse w,_,_,_,hk,h=>by simp[z9]at hk
def JJ{P g}(hb:bodied P g=true)(args w):(callFunc g args).run P w=.ok (.enter g args) w:=by
 cases hg:P.funcs[g]? with
 |none=>simp[bodied,hg]at hb
 | some fn=>
  simp[bodied,hg]at hb;obtain⟨b1,b2⟩:=hb;simp[callFunc,hg,b2,show ¬fn.body=none by intro e;simp[e]at b1]
def AWp.range{P:Program}{G:Glo}(hX:G.NoX){N:Nat}{env:Env}{U:St}{Q:Exit->Env->St->Prop}{o:Opts}{g:Operand}{pi pe:Nat}{x y:Code}{gb b k:Nat}{sz:Nat}{rows:List (List AV)}{tok:Tok}
 (hpi:pi<N) (hpe:pe<N) (hx:z9 N x=true) (hy:z9 N y=true) (hg:ev G env g=.fn gb [] [.ptr b 0]) (hbw:qzj P G gb k) (hlen:rows.length<2^62) (hb:U.H[b]?=some (.cells [.sl sz rows tok]))
 (h:JU (fun env U Q=>vcC P G o x env U Q) (fun env U Q=>vcC P G o y env U Q) k b pi pe env rows.length U (fun U=>Q .normal env U)):AWp P G N (.rangeFunc g #[pi,pe] x y) env U Q:=by
 intro w0 ro0 K a w hw he;refine(wpIn_wide (n:=0)).1 (wpIn_rangeFunc fun fn hfn=>?_);have hv:=Z0 hw he g;rw[hg]at hv;simp only[qi,qj]at hv;obtain⟨va,vb,e1,e2,v1,vr,e3,⟨B,hB,e4⟩,e5⟩:=hv;have ea:=qCa (by rw[<- qBE,e2];rfl);have eb:vb = #[.pointer (some ⟨B,0,none⟩)]:=by rw[<- qCt (xs:=vb),e3,e4,e5]
 subst ea eb;obtain⟨rec,hrec⟩:∃rec:LoopState->Option Code->Loop,rec=fun st pe'=>{ state:=st,pending:=pe',fn,tmps:=a.tmps,params:=#[pi,pe],assign:=x,body:=y,defers:=w.heap.size }:=⟨_,rfl⟩
 obtain⟨W1,hW1⟩:∃W1,(w.alloc (.deferred (some []))).alloc (.loop (rec .ready none))=W1:=⟨_,rfl⟩;have hw1:=hw.allocFix (.deferred (some []));have hw2:=hw1.allocFix (.loop (rec .ready none));rw[hW1,World.size_alloc]at hw2;obtain⟨K2,hK2⟩:∃K2,((K.withFx fun b=>if b=w.heap.size then some (.deferred (some [])) else K.fx b).withFx fun b=>if b=w.heap.size+1 then some (.loop (rec .ready none)) else(K.withFx fun b=>if b=w.heap.size then some (.deferred (some [])) else K.fx b).fx b)=K2:=⟨_,rfl⟩;rw[hK2]at hw2;have hleK:K.le K2:=by
  rw[<- hK2];refine qE1 (Kn.le_fx fun B o e=>?_) (Kn.le_fx fun B o e=>?_)
  . have:=hw.fx_lt e;rw[if_neg (by omega)];exact e
  have:=hw1.fx_lt e;rw[World.size_alloc]at this;rw[if_neg (by omega)];exact e
 have hL2:K2.fx (w.heap.size+1)=some (.loop (rec .ready none)):=by rw[<- hK2];simp[Kn.withFx]
 refine⟨w.heap.size+1,[qwi w.heap.size],W1,{ target:=.fn (.func gb) #[.pointer (some ⟨B,0,none⟩)],args:=#[.func (.yield (w.heap.size+1)) #[] #[]] },W1,gb,
  #[.func (.yield (w.heap.size+1)) #[] #[]]++#[.pointer (some ⟨B,0,none⟩)],W1,?_,?_,fun _ _=>trivial,?_,fun e=>by simp[Fence.wide]at e,?_⟩
 . rw[<- hW1,hrec];exact run_enterLoop_outer _ _ _ _ _
 . simp only[resolve,e1];simp[go_sem]
 . simp[invoke,go_sem,JJ hbw.1]
 refine CallsIn.mono (hbw.2 w0 ro0 b (w.heap.size+1) B K2 U W1 sz rows tok (fun i U=>JU (fun env U Q=>vcC P G o x env U Q) (fun env U Q=>vcC P G o y env U Q) k b pi pe env i U (fun U=>Q .normal env U)) hw2 (hleK.m _ _ hB) hb hlen h ?_) ?_
 . -- one round
   intro i U' K' w' hr hle' hw';simp only[JU]at hr;split at hr
   . rename_i sz' rows' tok' hb';obtain⟨hszk,hr⟩:=hr;subst hszk;split at hr
     . rename_i r hri;refine⟨rows',tok',r,hb',hri,fun v hv=>?_⟩;have hLf:=hle'.fx _ _ hL2;have hl:=(hw'.fx _ _ hLf).1;refine⟨fn,_,x,y,by have:=run_yield (P:=P) (args:=#[.int .i64 i,v]) hl (by rw[hrec];rfl);rw[hrec]at this;exact this,roundIn_of_wpIn hfn ?_⟩;have he':ERel K' N (upd (upd env (some pi) (.int .i64 i)) (some pe) (.agg r)) { tmps:=(a.tmps.setIfInBounds pi (.int .i64 i)).setIfInBounds pe v,defers:=[] }:=by
        have h0:=he.mono (qE1 hleK hle');have h1:=(h0.put (dst:=some pi) (fun d hd=>by cases hd;exact hpi) (v:=.int .i64 i) (v':=.int .i64 i) (by simp[qi])).put (dst:=some pe) (fun d hd=>by cases hd;exact hpe) hv;exact⟨h1.size,h1.val⟩
       have hasn:=j6 hX (ro:=some (w.heap.size+1)) x hx hr w0 ro0 K' _ w' hw' he';refine wpIn_mono (F:=FR (some (w.heap.size+1))) (show Code.wpIn (FR (some (w.heap.size+1))) 0 P x _ _ w' from by simpa using hasn) ?_;rintro e a1 w1 (⟨K3,env3,U3,g1,g2,g3,_,rfl,g4⟩|⟨_,_,U3,_,_,_,_,g⟩)
       case inr=>exact(hX _ U3 g).elim
       have hL3:=g1.fx _ _ hLf;have hl3:=(g2.fx _ _ hL3).1;refine⟨_,run_beginRound hl3 (by rw[hrec]),?_⟩;have hw4:=g2.refix hL3 (by intros;intro e;cases e) (.loop { rec .ready none with state:=.busy });have hbody:=j6 hX (ro:=some (w.heap.size+1)) y hy g4 w0 ro0 _ a1 _ hw4 (g3.refx _);refine wpIn_mono (F:=FR (some (w.heap.size+1))) hbody ?_;rintro e a5 w5 (⟨K5,env5,U5,k1,k2,k3,_,rfl,k4⟩|⟨_,_,U5,_,_,_,_,g⟩)
       case inr=>exact(hX _ U5 g).elim
       have hL5:K5.fx (w.heap.size+1)=some (.loop { rec .ready none with state:=.busy }):=k1.fx _ _ (by simp[Kn.withFx]);have hl5:=(k2.fx _ _ hL5).1;have hw6:=k2.refix hL5 (by intros;intro e;cases e) (.loop (rec .ready none));refine⟨.bool true,w5.putObj (w.heap.size+1) (.loop (rec .ready none)),?_,rfl,_,U5,?_,hw6,k4⟩
       . have:=run_endRound (P:=P) none hl5;rw[hrec]at this⊢;exact this
       refine qE1 g1 (qEV k1 fun B o e=>?_);by_cases hBL:B=w.heap.size+1
       . subst hBL;rw[hL3]at e;simp[e]
       rw[if_neg hBL];refine k1.fx B o ?_;simp only[Kn.withFx,if_neg hBL];exact e
     exact hr.elim
   exact hr.elim
 -- behind the JU
 rintro e w' ⟨⟨v,rfl⟩,K',U',hle',hw',hS⟩;have hLf:=hle'.fx _ _ hL2;have hl:=(hw'.fx _ _ hLf).1;have hw3:=(hw'.refix hLf (by intros;intro e;cases e) (.loop { rec .ready none with state:=.exhausted })).unfix (f:=fun B=>if B=w.heap.size+1 then none else K'.fx B) (by
  intro B o e;by_cases hBL:B=w.heap.size+1
  . rw[if_pos hBL]at e;cases e
  rw[if_neg hBL]at e;simp only[Kn.withFx,if_neg hBL];exact e)
 refine⟨none,w'.putObj (w.heap.size+1) (.loop { rec .ready none with state:=.exhausted }),?_,?_⟩
 . have:=run_endLoop (P:=P) hl (by rw[hrec];simp);rw[hrec]at this⊢;exact this
 have hle3:K.le (K'.withFx fun B=>if B=w.heap.size+1 then none else K'.fx B):=by
  have:=qE1 hleK hle';refine qEV this fun B o e=>?_
  have:=hw.fx_lt e;rw[if_neg (by omega)];exact hle'.fx _ _ (hleK.fx _ _ e)
 have hfin:=hS;simp only[JU]at hfin;refine .inl ⟨_,env,U',hle3,hw3,⟨he.size,(he.mono hle3).val⟩,⟨[w.heap.size],by simp,rfl,fun D hD=>?_⟩,hfin⟩;simp only[qA2]at hD;subst hD;refine⟨?_,?_⟩
 . cases e:K.fx w.heap.size with
   |none=>rfl
   |some o=>have:=hw.fx_lt e;omega
 simp only[Kn.withFx];rw[if_neg (by omega)];exact hle'.fx _ _ (by rw[<- hK2];simp[Kn.withFx])
def AWp.rangeF{P:Program}{G:Glo}(hX:G.NoX){N:Nat}{env:Env}{U:St}{Q:Exit->Env->St->Prop}{o:Opts}{g:Operand}{pe:Nat}{x y:Code}{gb:Nat}{cap vals:List AV}{pre:St->Prop}{J:Nat->St->Prop}
 (hpe:pe<N) (hx:z9 N x=true) (hy:z9 N y=true) (hg:ev G env g=.fn gb [] cap) (hfw:qw5 P G gb cap pre vals) (hpre:∀i U,J i U->pre U) (hJ:J 0 U)
 (hs:∀i v U,vals[i]?=some v->J i U->vcC P G o x (upd env (some pe) v) U (fun e env' U'=>e=.normal/\vcC P G o y env' U' (fun e _ U''=>e=.normal/\J (i+1) U'')))
 (hq:∀U,J vals.length U->Q .normal env U):AWp P G N (.rangeFunc g #[pe] x y) env U Q:=by
 intro w0 ro0 K a w hw he;refine(wpIn_wide (n:=0)).1 (wpIn_rangeFunc fun fn hfn=>?_);have hv:=Z0 hw he g;rw[hg]at hv;simp only[qi,qj]at hv;obtain⟨va,vb,e1,e2,e3⟩:=hv;have ea:=qCa (by rw[<- qBE,e2];rfl);subst ea;obtain⟨rec,hrec⟩:∃rec:LoopState->Option Code->Loop,rec=fun st pe'=>{ state:=st,pending:=pe',fn,tmps:=a.tmps,params:=#[pe],assign:=x,body:=y,defers:=w.heap.size }:=⟨_,rfl⟩
 obtain⟨W1,hW1⟩:∃W1,(w.alloc (.deferred (some []))).alloc (.loop (rec .ready none))=W1:=⟨_,rfl⟩;have hw1:=hw.allocFix (.deferred (some []));have hw2:=hw1.allocFix (.loop (rec .ready none));rw[hW1,World.size_alloc]at hw2;obtain⟨K2,hK2⟩:∃K2,((K.withFx fun b=>if b=w.heap.size then some (.deferred (some [])) else K.fx b).withFx fun b=>if b=w.heap.size+1 then some (.loop (rec .ready none)) else(K.withFx fun b=>if b=w.heap.size then some (.deferred (some [])) else K.fx b).fx b)=K2:=⟨_,rfl⟩;rw[hK2]at hw2;have hleK:K.le K2:=by
  rw[<- hK2];refine qE1 (Kn.le_fx fun B o e=>?_) (Kn.le_fx fun B o e=>?_)
  . have:=hw.fx_lt e;rw[if_neg (by omega)];exact e
  have:=hw1.fx_lt e;rw[World.size_alloc]at this;rw[if_neg (by omega)];exact e
 have hL2:K2.fx (w.heap.size+1)=some (.loop (rec .ready none)):=by rw[<- hK2];simp[Kn.withFx]
 refine⟨w.heap.size+1,[qwi w.heap.size],W1,{ target:=.fn (.func gb) vb,args:=#[.func (.yield (w.heap.size+1)) #[] #[]] },W1,gb,
  #[.func (.yield (w.heap.size+1)) #[] #[]]++vb,W1,?_,?_,fun _ _=>trivial,?_,fun e=>by simp[Fence.wide]at e,?_⟩
 . rw[<- hW1,hrec];exact run_enterLoop_outer _ _ _ _ _
 . simp only[resolve,e1];simp[go_sem]
 . simp[invoke,go_sem,JJ hfw.1]
 refine CallsIn.mono (hfw.2 w0 ro0 (w.heap.size+1) K2 U W1 vb J hw2 (qj.mono hleK _ e3) hpre hJ ?_) ?_
 . -- one round
   intro i xv U' K' w' hxv hr0 hle' hw' v hv;have hr:=hs i xv U' hxv hr0;have hLf:=hle'.fx _ _ hL2;have hl:=(hw'.fx _ _ hLf).1;refine⟨fn,_,x,y,by have:=run_yield (P:=P) (args:=#[v]) hl (by rw[hrec];rfl);rw[hrec]at this;exact this,roundIn_of_wpIn hfn ?_⟩
   . have he':ERel K' N (upd env (some pe) xv) { tmps:=a.tmps.setIfInBounds pe v,defers:=[] }:=by
      have h0:=he.mono (qE1 hleK hle');have h1:=h0.put (dst:=some pe) (fun d hd=>by cases hd;exact hpe) hv;exact⟨h1.size,h1.val⟩
     have hasn:=j6 hX (ro:=some (w.heap.size+1)) x hx hr w0 ro0 K' _ w' hw' he';refine wpIn_mono (F:=FR (some (w.heap.size+1))) (show Code.wpIn (FR (some (w.heap.size+1))) 0 P x _ _ w' from by simpa using hasn) ?_;rintro e a1 w1 (⟨K3,env3,U3,g1,g2,g3,_,rfl,g4⟩|⟨_,_,U3,_,_,_,_,g⟩)
     case inr=>exact(hX _ U3 g).elim
     have hL3:=g1.fx _ _ hLf;have hl3:=(g2.fx _ _ hL3).1;refine⟨_,run_beginRound hl3 (by rw[hrec]),?_⟩;have hw4:=g2.refix hL3 (by intros;intro e;cases e) (.loop { rec .ready none with state:=.busy });have hbody:=j6 hX (ro:=some (w.heap.size+1)) y hy g4 w0 ro0 _ a1 _ hw4 (g3.refx _);refine wpIn_mono (F:=FR (some (w.heap.size+1))) hbody ?_;rintro e a5 w5 (⟨K5,env5,U5,k1,k2,k3,_,rfl,k4⟩|⟨_,_,U5,_,_,_,_,g⟩)
     case inr=>exact(hX _ U5 g).elim
     have hL5:K5.fx (w.heap.size+1)=some (.loop { rec .ready none with state:=.busy }):=k1.fx _ _ (by simp[Kn.withFx]);have hl5:=(k2.fx _ _ hL5).1;have hw6:=k2.refix hL5 (by intros;intro e;cases e) (.loop (rec .ready none));refine⟨.bool true,w5.putObj (w.heap.size+1) (.loop (rec .ready none)),?_,rfl,_,U5,?_,hw6,k4⟩
     . have:=run_endRound (P:=P) none hl5;rw[hrec]at this⊢;exact this
     refine qE1 g1 (qEV k1 fun B o e=>?_);by_cases hBL:B=w.heap.size+1
     . subst hBL;rw[hL3]at e;simp[e]
     rw[if_neg hBL];refine k1.fx B o ?_;simp only[Kn.withFx,if_neg hBL];exact e
 -- behind the JU
 rintro e w' ⟨⟨v,rfl⟩,K',U',hle',hw',hS⟩;have hLf:=hle'.fx _ _ hL2;have hl:=(hw'.fx _ _ hLf).1;have hw3:=(hw'.refix hLf (by intros;intro e;cases e) (.loop { rec .ready none with state:=.exhausted })).unfix (f:=fun B=>if B=w.heap.size+1 then none else K'.fx B) (by
  intro B o e;by_cases hBL:B=w.heap.size+1
  . rw[if_pos hBL]at e;cases e
  rw[if_neg hBL]at e;simp only[Kn.withFx,if_neg hBL];exact e)
 refine⟨none,w'.putObj (w.heap.size+1) (.loop { rec .ready none with state:=.exhausted }),?_,?_⟩
 . have:=run_endLoop (P:=P) hl (by rw[hrec];simp);rw[hrec]at this⊢;exact this
 have hle3:K.le (K'.withFx fun B=>if B=w.heap.size+1 then none else K'.fx B):=by
  have:=qE1 hleK hle';refine qEV this fun B o e=>?_
  have:=hw.fx_lt e;rw[if_neg (by omega)];exact hle'.fx _ _ (hleK.fx _ _ e)
 have hfin:=hq U' hS;refine .inl ⟨_,env,U',hle3,hw3,⟨he.size,(he.mono hle3).val⟩,⟨[w.heap.size],by simp,rfl,fun D hD=>?_⟩,hfin⟩;simp only[qA2]at hD;subst hD;refine⟨?_,?_⟩
 . cases e:K.fx w.heap.size with
   |none=>rfl
   |some o=>have:=hw.fx_lt e;omega
 simp only[Kn.withFx];rw[if_neg (by omega)];exact hle'.fx _ _ (by rw[<- hK2];simp[Kn.withFx])
def yv{P:Program}{G:Glo}{N:Nat}{o:Opts}(hm:P.follows .mixedOrders=true):∀(c:Code){env:Env}{U:St}{Q:Exit->Env->St->Prop},jT N o c=true->vcC P G o c env U Q->AWp P G N c env U Q
 |.skip,_,_,_,_,h=>AWp.skip h
 |.ret,_,_,_,_,h=>AWp.ret h
 |.exit id,_,_,_,_,h=>AWp.exit h
 | .seq x y,env,U,Q,hk,h=>by
  simp only[jT,qAr]at hk;exact AWp.seq (AWp.mono (yv hm x hk.1 (by simpa only[vcC] using h)) fun e env U hq=>by
   cases e<;>first|exact yv hm y hk.2 hq|exact hq)
 | .cond c x y,env,U,Q,hk,h=>by
  simp only[jT,qAr]at hk;simp only[vcC]at h;split at h
  . rename_i b hb;exact AWp.cond hb (fun e=>yv hm x hk.1 (h.1 e)) (fun e=>yv hm y hk.2 (h.2 e))
  exact h.elim
 |.block id c,_,_,_,hk,h=>AWp.block (yv hm c hk (by simpa only[vcC] using h))
 | .region id ops false,env,U,Q,hk,h=>by
  simp only[jT,qAr]at hk;have h':vcR P G o.mu ops false (o.lw.contains id) ops.toList env U (fun env U=>Q .normal env U):=by
   simp only[vcC]at h;exact h
  intro w0 ro0 K a w hw he;have:=wp_region_lit (P:=P) (id:=id) (l:=ops.toList) (a:=a) (w:=w) (Q:=JO G w0 ro0 K N a.defers Q) (qbz (by simpa using hk.1) ops.toList env U K a w (by simp) (by simpa using h') hw he (fun K' env' U' a' w' h1 h2 h3 hd h4=>.inl ⟨K',env',U',h1,h2,h3,.same hd,h4⟩) fun c K' U' a' w' h1 h2 hd hx=>.inr ⟨c,K',U',rfl,h1,h2,.same hd,hx⟩);simpa using this
 | .region id ops true,env,U,Q,hk,h=>by
  simp only[jT,qAr,qCj,qEu,qAP,false_or]at hk;simp only[vcC]at h
  cases hl:o.fk.lookup id with
  | none=>
   rw[hl]at hk h;simp only at hk h;refine AWp.any hm hk.1 (mu:=o.mu) (ac:=if o.lw.contains id then [ops.size-1] else []) ?_;have:=qkb (P:=P) (G:=G) (ops:=ops) (lw:=o.lw.contains id) (mu:=o.mu) ops.toList 0 (Array.replicate ops.size false) env U (by simp) (by simp) (by simpa[qpX] using hk.2) h;simpa using this
  | some p=>
   obtain⟨s,ac⟩:=p;rw[hl]at hk h;simp only[qAr,decide_eq_true_eq]at hk h;exact AWp.any hm hk.1 (mu:=o.mu) (ac:=ac) (qdH s ops.size _ env U hk.2.1 hk.2.2 h)
 | .loop c,_,_,_,hk,h=>by
  simp only[vcC]at h;obtain⟨I,n,h0,hr⟩:=h;exact AWp.loop I n h0 fun n env U hI=>yv hm c hk (hr n env U hI)
 | .rangeFunc g ps x y,env,U,Q,hk,h=>by
  simp only[jT,qAr]at hk;obtain⟨⟨hk1,hk2⟩,hk3⟩:=hk;simp only[vcC]at h;split at h
  . rename_i pi pe gb b hps hg;obtain⟨k,hX,hbw,h⟩:=h;rw[hps]at hk1;simp only[qAr,decide_eq_true_eq]at hk1;split at h
    . rename_i sz rows tok hb;have:ps = #[pi,pe]:=by rw[<- qCt (xs:=ps),hps]
      subst this;exact AWp.range hX hk1.1 hk1.2 hk2 hk3 hg hbw h.1 hb h.2
    exact h.elim
  . rename_i pe gb cap hps hg;obtain⟨pre,vals,J,hX,hfw,hpre,hJ,hs,hq⟩:=h;rw[hps]at hk1;simp only[decide_eq_true_eq]at hk1;have:ps = #[pe]:=by rw[<- qCt (xs:=ps),hps]
    subst this;exact AWp.rangeF hX hk1 hk2 hk3 hg hfw hpre hJ hs hq
  exact h.elim
 | .scope c,env,U,Q,hk,h=>by
  simp only[jT]at hk;intro w0 ro0 K a w hw he;refine wp_scope_straight (wp_mono (yv hm c hk (by simpa only[vcC] using h) w0 ro0 K a w hw he) ?_);rintro e a' w' (⟨K',env',U',h1,h2,h3,hd,h4⟩|⟨ch,K',U',rfl,hp⟩)
  . cases e with
    |goto l=>exact h4.elim
    |_=>exact .inl ⟨K',env',U',h1,h2,h3,hd,h4⟩
  exact .inr ⟨ch,K',U',rfl,hp⟩
 |.label l,env,U,Q,hk,h=>fun w0 ro0 K a w hw he=>wp_label (.inl ⟨K,env,U,qE0 K,hw,he,.same rfl,h⟩)
 |.goto l,_,_,_,hk,h=>by simp[jT]at hk
 |.refuse w,_,_,_,hk,h=>by simp[jT]at hk
section
variable {P:Program}{G:Glo}{U:St}{f:FuncId}{args args':List AV}{r r':AV}
def Pure.sub(h:Pure P G f args' r')(ha:zn args args')(hr:Leq r' r):Pure P G f args r :=
 ⟨h.1,fun w0 ro vs hg hro hvs=>(h.2 w0 ro vs hg hro (zn.rel _ _ ha hvs)).mono fun e w' ⟨v,ro',h1,h2,h3,h4,h5,h6⟩=>⟨v,ro',h1,h2,h3,h4,h5,qEP _ _ hr h6⟩⟩
def Pure.less(h:Pure P G f args' r)(ha:zn args args'):Pure P G f args r:=h.sub ha (qEQ r)
def qg.pure{Q}(h:Pure P G f args' r)(hno:qz (args.map plain)=true)(ha:zn (args.map plain) args')(hq:Q r U):qg P G f args U Q :=
 QW.acall (.inl ⟨hno,h.less ha⟩) hq
def QW.pure(h:Pure P G f args' r)(hno:qz (args.map plain)=true)(ha:zn (args.map plain) args'):QW P G f args U r:=.inl ⟨hno,h.less ha⟩
def QW.lent(h:Pure P G f args' r)(hb:qtt r=true)(ha:zn (args.map (frz U.H 8)) args'):QW P G f args U r:=.inr ⟨hb,h.less ha⟩
def qa.of{d Q}(h:QW P G f args U r)(hq:Q r U):qa P G d f args U Q:=by
 cases d
 . exact h.acall hq
 exact⟨r,h,hq⟩
def qa.pure{d Q}(h:Pure P G f args' r)(hno:qz (args.map plain)=true)(ha:zn (args.map plain) args')(hq:Q r U):qa P G d f args U Q:=.of (.pure h hno ha) hq
def qE8:=@qa.pure
def qa.lent{d Q}(h:Pure P G f args' r)(hb:qtt r=true)(ha:zn (args.map (frz U.H 8)) args')(hq:Q r U):qa P G d f args U Q:=.of (.lent h hb ha) hq
def qkG(P:Program)(deep:Bool)(rs:List ResultVar)(r:AV)(env:Env)(U:St):Prop :=
 match qfC (Dof P) rs env U with
 | some l=>match deep with
  |false=>qO (fin U.H (W5 l))=true/\Leq (fin U.H (W5 l)) r
  |true=>qO (frz U.H 8 (W5 l))=true/\Leq (frz U.H 8 (W5 l)) r
 |none=>False
def qcZ(P:Program)(deep:Bool)(rs:List ResultVar)(r:AV):Exit->Env->St->Prop
 |.ret,env,U=>qkG P deep rs r env U
 |.normal,env,U=>qkG P deep rs r env U
 |_,_,_=>False
def Pure.vcO {G : Nat → AV} {fn : Func} {c : Code} (o : Opts) (deep : Bool) (hm : P.follows .mixedOrders = true) (hf : P.funcs[f]? = some fn) (hb : fn.body = some c) (hk : (jT fn.ntmps o c && decide (args.length ≤ fn.ntmps) && fn.name != "runtime.NumGoroutine") = true)
 (h:vcC P G o c (JA args) ⟨[],[]⟩ (qcZ P deep fn.results.toList r)):Pure P G f args r:=by
 simp only[qAr,decide_eq_true_eq,bne_iff_ne,ne_eq]at hk;refine Pure.of_body (qcb G) hf hb hk.2 hk.1.2 (AWp.mono (yv hm c hk.1.1 h) fun e env U hq=>?_);have key:qkG P deep fn.results.toList r env U->∃l,qfC (Dof P) fn.results.toList env U=some l/\((qO (fin U.H (W5 l))=true/\Leq (fin U.H (W5 l)) r)\/(qO (frz U.H 8 (W5 l))=true/\Leq (frz U.H 8 (W5 l)) r)):=fun h=>by
  unfold qkG at h;split at h
  . rename_i l hl;cases deep
    . exact⟨l,hl,.inl h⟩
    exact⟨l,hl,.inr h⟩
  exact h.elim
 cases e with
 |ret=>exact⟨.inl rfl,key hq⟩
 |normal=>exact⟨.inr rfl,key hq⟩
 |_=>exact hq.elim
def Pure.vc {G : Nat → AV} {fn : Func} {c : Code} (hm : P.follows .mixedOrders = true) (hf : P.funcs[f]? = some fn) (hb : fn.body = some c) (hk : (jT fn.ntmps o0 c && decide (args.length ≤ fn.ntmps) && fn.name != "runtime.NumGoroutine") = true)
 (h:vcC P G o0 c (JA args) ⟨[],[]⟩ (qcZ P false fn.results.toList r)):Pure P G f args r:=Pure.vcO o0 false hm hf hb hk h
def qE9:=@Pure.vc
end
end
def zY{p q:Prop}(h:p=q):p=q:=by rw[h]
@[congr]def qo5{P G d f args args' U Q}(h:args=args'):qa P G d f args U Q=qa P G d f args' U Q:=by rw[h]
def qB(P:Program)(G:Glo)(o:Opts)(c:Code)(env:Env)(U:St)(Q:Exit->Env->St->Prop):Prop :=
 ∃(I:Nat->Env->St->Prop) (n:Nat),I n env U/\∀n env U,I n env U->vcC P G o c env U (wX (fun env' U'=>∃n',n' < n/\I n' env' U') Q)
@[congr]def qs5{c c'}{A B:Prop}(h:c=c'):qg7 c A B=qg7 c' A B:=by rw[h]
@[simp]def qtM{A B:Prop}:qg7 true A B=A:=by simp[qg7]
@[simp]def qs4{A B:Prop}:qg7 false A B=B:=by simp[qg7]
@[simp low]def qtN{c}{A B:Prop}:qg7 c A B=((c=true->A)/\(c=false->B)):=zY rfl
@[simp]def qvT{env d i v}:upd env (some d) v i=if i=d then v else env i:=rfl
@[simp]def qvU{env v}:upd env none v=env:=rfl
section
variable {P:Program}{G:Glo}{o:Opts}{env:Env}{U:St}{Q:Exit->Env->St->Prop}
@[simp]def qxg:vcC P G o .skip env U Q=Q .normal env U:=by simp only[vcC]
@[simp]def qyG:vcC P G o .ret env U Q=Q .ret env U:=by simp only[vcC]
@[simp]def qxi{id}:vcC P G o (.exit id) env U Q=Q (.exit id) env U:=by simp only[vcC]
@[simp]def qyF{x y}:vcC P G o (.seq x y) env U Q=vcC P G o x env U (wX (fun env U=>vcC P G o y env U Q) Q):=by simp only[vcC]
@[simp]def qvQ{id x}:vcC P G o (.block id x) env U Q=vcC P G o x env U (wY id Q):=by simp only[vcC]
@[simp]def qxh{x}:vcC P G o (.loop x) env U Q=qB P G o x env U Q:=by simp only[vcC]<;>rfl
@[simp]def qtI{id ops}:vcC P G o (.region id ops false) env U Q=vcR P G o.mu ops false (o.lw.contains id) ops.toList env U (fun env U=>Q .normal env U):=by simp only[vcC]
@[simp]def qvP{id ops}:vcC P G o0 (.region id ops true) env U Q=vcR P G false ops true false ops.toList env U (fun env U=>Q .normal env U):=by simp[vcC,o0]
@[simp]def qxj{c x y b}(h:ev G env c=.bool b):vcC P G o (.cond c x y) env U Q=qg7 b (vcC P G o x env U Q) (vcC P G o y env U Q):=by simp only[vcC,h]
@[simp]def qzn:o0.mu=false:=rfl
@[simp]def qzo:o0.lw=[]:=rfl
end
section
variable {P:Program}{G:Glo}{mu:Bool}{ops:Array Oper}{d lw:Bool}{env:Env}{U:St}{Q:Env->St->Prop}
@[simp]def qxk:vcR P G mu ops d lw [] env U Q=Q env U:=zY rfl
@[simp]def qqx{dst:Option Nat}{op:Op}{type:TypeId}{pos:String}{after:Array Edge}{rest:List Oper} :
 vcR P G mu ops d false ({ dst:=dst,op:=op,type:=type,pos:=pos,after:=after,guard:=none }::rest) env U Q=jN P G mu d op env U (fun v U'=>vcR P G mu ops d false rest (upd env dst v) U' Q):=by
 rw[vcR,vcG];simp
def vK(P:Program)(G:Glo)(mu:Bool)(ops:Array Oper)(d:Bool)(x:Option Nat)(b:Bool)(dst:Option Nat)(op:Op)(rest:List Oper)(env:Env)(U:St)(Q:Env->St->Prop):Prop :=
 match x with
 | some t=>match env t with
  | .bool c=>qg7 (c==b) (jN P G mu d op (upd env (some t) (.bool b)) U (fun v U'=>vcR P G mu ops d false rest (upd (upd env (some t) (.bool b)) dst v) U' Q))
   (vcR P G mu ops d false rest (upd (upd env (some t) (.bool (!b))) dst (.tup [])) U Q)
  |.tup []=>vcR P G mu ops d false rest (upd env dst (.tup [])) U Q
  |_=>False
 |none=>vcR P G mu ops d false rest (upd env dst (.tup [])) U Q
@[congr]def qmj{x x' b dst op rest}(h:x=x'):vK P G mu ops d x b dst op rest env U Q=vK P G mu ops d x' b dst op rest env U Q:=by rw[h]
@[simp]def qiH{dst:Option Nat}{op:Op}{type:TypeId}{pos:String}{after:Array Edge}{rest:List Oper}{j:Nat}{b:Bool} :
 vcR P G mu ops d false ({ dst:=dst,op:=op,type:=type,pos:=pos,after:=after,guard:=some (j,b) }::rest) env U Q=vK P G mu ops d ((ops[j]?).bind (·.dst)) b dst op rest env U Q:=by
 rw[vcR,vcG];simp only[qCA,qEn,qCo];rfl
@[simp]def qo4{t b c dst op rest}(h:env t=.bool c):vK P G mu ops d (some t) b dst op rest env U Q =
 qg7 (c==b) (jN P G mu d op (upd env (some t) (.bool b)) U (fun v U'=>vcR P G mu ops d false rest (upd (upd env (some t) (.bool b)) dst v) U' Q)) (vcR P G mu ops d false rest (upd (upd env (some t) (.bool (!b))) dst (.tup [])) U Q):=by
 simp only[vK,h]
@[simp]def qqy{t b dst op rest}(h:env t=.tup []):vK P G mu ops d (some t) b dst op rest env U Q=vcR P G mu ops d false rest (upd env dst (.tup [])) U Q:=by
 simp only[vK,h]
end
section
variable {P:Program}{G:Glo}{mu d:Bool}{env:Env}{U:St}{Q:AV->St->Prop}
def jI(x:Option (AV×St))(Q:AV->St->Prop):Prop:=match x with
 |some (v,U)=>Q v U
 |none=>False
@[congr]def qqw{x x'}(h:x=x'):jI x Q=jI x' Q:=by rw[h]
@[simp]def qs1{v U}:jI (some (v,U)) Q=Q v U:=zY rfl
@[simp]def qs2:jI none Q=False:=zY rfl
@[congr]def qtJ{l l' s s'}(h:l=l')(h':s=s'):vcX l s Q=vcX l' s' Q:=by rw[h,h']
@[simp]def V5{s}:vcX none s Q=jI s Q:=by simp only[vcX,jI];rfl
@[simp]def qqv{v τ s}:vcX (some [(v,τ)]) s Q=Q v τ:=by simp[vcX]
@[simp]def qqu{v v' τ τ' s}:vcX (some [(v,τ),(v',τ')]) s Q=(Q v τ/\Q v' τ'):=by
 simp only[vcX,eq_iff_iff];constructor
 . exact fun h=>⟨h _ _ (by simp),h _ _ (by simp)⟩
 rintro⟨h1,h2⟩ a b hm;simp only[qAM,qAE,qB0,or_false]at hm;rcases hm with⟨rfl,rfl⟩|⟨rfl,rfl⟩
 . exact h1
 exact h2
def qxm(P:Program)(G:Glo)(d:Bool)(f:AV)(args:List AV)(U:St)(Q:AV->St->Prop):Prop:=match f with
 |.fn g first cap=>qa P G d g (yY first args cap) U Q
 |_=>False
@[simp]def qxl{g first args cap}:qxm P G d (.fn g first cap) args U Q=qa P G d g (yY first args cap) U Q:=zY rfl
@[simp]def qtL{f a t}:jN P G mu d (.call { callee:=.value f,args:=a,argTypes:=t }) env U Q=qxm P G d (ev G env f) (qbo G env a.toList) U Q:=zY rfl
@[simp]def qiK{x}:jN P G mu d (.move x) env U Q=jI (sem (Dof P) G env U (.move x)) Q:=by cases d<;>rfl
@[simp]def qdK{x}:jN P G mu d (.assign x) env U Q=jI (sem (Dof P) G env U (.assign x)) Q:=by cases d<;>rfl
@[simp]def qiJ{a b c}:jN P G mu d (.pick a b c) env U Q=jI (sem (Dof P) G env U (.pick a b c)) Q:=by cases d<;>rfl
@[simp]def qg6{t}:jN P G mu d (.alloc t) env U Q=jI (sem (Dof P) G env U (.alloc t)) Q:=by cases d<;>rfl
@[simp]def qmi{t x}:jN P G mu d (.box t x) env U Q=jI (sem (Dof P) G env U (.box t x)) Q:=by cases d<;>rfl
@[simp]def qg4{t p}:jN P G mu d (.build t p) env U Q=jI (sem (Dof P) G env U (.build t p)) Q:=by cases d<;>rfl
@[simp]def YW{t n p}:jN P G mu d (.buildSlice t n p) env U Q=jI (sem (Dof P) G env U (.buildSlice t n p)) Q:=by cases d<;>rfl
@[simp]def qiL{t x}:jN P G mu d (.load t x) env U Q=jI (sem (Dof P) G env U (.load t x)) Q:=by cases d<;>rfl
@[simp]def qg0{t x y}:jN P G mu d (.store t x y) env U Q=jI (sem (Dof P) G env U (.store t x y)) Q:=by cases d<;>rfl
@[simp]def V6{x}:jN P G mu d (.nilCheck x) env U Q=jI (sem (Dof P) G env U (.nilCheck x)) Q:=by cases d<;>rfl
def YS{s}:vcX (qej d none) s Q=jI s Q:=by cases d<;>exact V5
@[simp]def qg5{o t u x y}(h:o≠.eql)(h':o≠.neq):jN P G mu d (.binOp o t x y u) env U Q=jI (sem (Dof P) G env U (.binOp o t x y u)) Q:=by
 have:qb2 (Dof P) G mu env U (.binOp o t x y u)=none:=by cases o<;>first|rfl|exact absurd rfl h|exact absurd rfl h'
 simp only[jN,this];exact YS
def qjZ(d neg:Bool)(D:Nat->Option TI)(t:Nat)(x y:AV)(U:St):Option (List (AV×St)):=match d with
 |true=>none
 |false=>Vz D neg t x y U
@[simp]def qmg{t u x y}:jN P G mu d (.binOp .eql t x y u) env U Q=vcX (qjZ d false (Dof P) t (ev G env x) (ev G env y) U) (sem (Dof P) G env U (.binOp .eql t x y u)) Q:=by cases d<;>rfl
@[simp]def qmd{t u x y}:jN P G mu d (.binOp .neq t x y u) env U Q=vcX (qjZ d true (Dof P) t (ev G env x) (ev G env y) U) (sem (Dof P) G env U (.binOp .neq t x y u)) Q:=by cases d<;>rfl
@[simp]def qiI{o t x}:jN P G mu d (.unOp o t x) env U Q=jI (sem (Dof P) G env U (.unOp o t x)) Q:=by cases d<;>rfl
@[simp]def qbC{t u x}:jN P G mu d (.convert t u x) env U Q=jI (sem (Dof P) G env U (.convert t u x)) Q:=by cases d<;>rfl
@[simp]def V7{f:Fn}{a b}:jN P G mu d (.makeFunc f a b) env U Q=jI (sem (Dof P) G env U (.makeFunc f a b)) Q:=by cases d<;>rfl
@[simp]def qbA{t r}:jN P G mu d (.makeMap t r) env U Q=jI (sem (Dof P) G env U (.makeMap t r)) Q:=by cases d<;>rfl
@[simp]def YV{t x y}:jN P G mu true (.makeSlice t x y) env U Q=jI (sem (Dof P) G env U (.makeSlice t x y)) Q:=by rfl
@[simp]def QX{t x y}:jN P G mu false (.makeSlice t x y) env U Q=vcX (mkX (Dof P) mu U t (ev G env x) (ev G env y)) (sem (Dof P) G env U (.makeSlice t x y)) Q:=by rfl
@[simp]def qg1{t x lo hi mx}:jN P G mu d (.slice t x lo hi mx) env U Q=jI (sem (Dof P) G env U (.slice t x lo hi mx)) Q:=by cases d<;>rfl
@[simp]def WH{t x i}:jN P G mu d (.fieldAddr t x i) env U Q=jI (sem (Dof P) G env U (.fieldAddr t x i)) Q:=by cases d<;>rfl
@[simp]def qg3{t x i}:jN P G mu d (.field t x i) env U Q=jI (sem (Dof P) G env U (.field t x i)) Q:=by cases d<;>rfl
@[simp]def WG{t x y}:jN P G mu d (.indexAddr t x y) env U Q=jI (sem (Dof P) G env U (.indexAddr t x y)) Q:=by cases d<;>rfl
@[simp]def qg2{t x y}:jN P G mu d (.index t x y) env U Q=jI (sem (Dof P) G env U (.index t x y)) Q:=by cases d<;>rfl
@[simp]def qdJ{t x y k}:jN P G mu d (.lookup t x y k) env U Q=jI (sem (Dof P) G env U (.lookup t x y k)) Q:=by cases d<;>rfl
@[simp]def WF{t x y z}:jN P G mu d (.mapUpdate t x y z) env U Q=jI (sem (Dof P) G env U (.mapUpdate t x y z)) Q:=by cases d<;>rfl
@[simp]def qs3{t x}:jN P G mu d (.range t x) env U Q=jI (sem (Dof P) G env U (.range t x)) Q:=by cases d<;>rfl
@[simp]def qtK{x}:jN P G mu d (.next x true) env U Q=jI (sem (Dof P) G env U (.next x true)) Q:=by cases d<;>rfl
@[simp]def qbB{x i}:jN P G mu d (.extract x i) env U Q=jI (sem (Dof P) G env U (.extract x i)) Q:=by cases d<;>rfl
@[simp]def qmf{a t}:jN P G mu d (.call { callee:=.builtin .len,args:=a,argTypes:=t }) env U Q=jI (sem (Dof P) G env U (.call { callee:=.builtin .len,args:=a,argTypes:=t })) Q:=by
 have:qb2 (Dof P) G mu env U (.call { callee:=.builtin .len,args:=a,argTypes:=t })=none:=by simp only[qb2]
 simp only[jN,this];exact YS
@[simp]def qme{a t}:jN P G mu d (.call { callee:=.builtin .min,args:=a,argTypes:=t }) env U Q=jI (sem (Dof P) G env U (.call { callee:=.builtin .min,args:=a,argTypes:=t })) Q:=by
 have:qb2 (Dof P) G mu env U (.call { callee:=.builtin .min,args:=a,argTypes:=t })=none:=by simp only[qb2]
 simp only[jN,this];exact YS
@[simp]def qvR{a t}:jN P G mu d (.call { callee:=.builtin .max,args:=a,argTypes:=t }) env U Q=jI (sem (Dof P) G env U (.call { callee:=.builtin .max,args:=a,argTypes:=t })) Q:=by
 have:qb2 (Dof P) G mu env U (.call { callee:=.builtin .max,args:=a,argTypes:=t })=none:=by simp only[qb2]
 simp only[jN,this];exact YS
@[simp]def qdL{a t}:jN P G false d (.call { callee:=.builtin .append,args:=a,argTypes:=t }) env U Q=jI (sem (Dof P) G env U (.call { callee:=.builtin .append,args:=a,argTypes:=t })) Q:=by
 have:qb2 (Dof P) G false env U (.call { callee:=.builtin .append,args:=a,argTypes:=t })=none:=by
  simp only[qb2];split<;>first|rfl|(rename_i h _ _;cases h;done)|(simp_all;done)
 simp only[jN,this];exact YS
@[simp]def qbD{s x t u}:jN P G true false (.call { callee:=.builtin .append,args:=#[s,x],argTypes:=#[t,u] }) env U Q=vcX ((zq (Dof P) U t u (ev G env s) (ev G env x)).map fun p=>[p]) (sem (Dof P) G env U (.call { callee:=.builtin .append,args:=#[s,x],argTypes:=#[t,u] })) Q:=zY rfl
@[simp]def qiM{x y t u}:jN P G mu false (.call { callee:=.builtin .copy,args:=#[x,y],argTypes:=#[t,u] }) env U Q=vcX ((kj (Dof P) U t (ev G env x) (ev G env y)).map fun p=>[p]) none Q:=zY rfl
@[simp]def qvS{x t}:jN P G mu false (.call { callee:=.builtin .cap,args:=#[x],argTypes:=#[t] }) env U Q=vcX ((qtr (Dof P) t (ev G env x)).map fun v=>[(v,U)]) none Q:=zY rfl
end
attribute [simp] qjZ Vz qnr sem ev qbo qV kx YA zI qoC zw qqO zE qgi QI qgx wW cut Zp TD.agg ofV ofAtom JA qfC W5 fin vG ky pl1 qO plain pl2 qcZ qkG yY YG unA St.push Va zx AV.atom qz qZ
section
variable {next:Env->St->Prop}{Q:Exit->Env->St->Prop}{env:Env}{U:St}
@[simp]def qqe:wX next Q .normal env U=next env U:=zY rfl
@[simp]def qvD:wX next Q .ret env U=Q .ret env U:=zY rfl
@[simp]def qty{i}:wX next Q (.exit i) env U=Q (.exit i) env U:=zY rfl
@[simp]def qoU{n}:wY n Q .normal env U=Q .normal env U:=zY rfl
@[simp]def qtz{n}:wY n Q .ret env U=Q .ret env U:=zY rfl
@[simp]def qe9{n i}:wY n Q (.exit i) env U=if i=n then Q .normal env U else Q (.exit i) env U:=zY rfl
def qB.intro{P G o c}(I:Nat->Env->St->Prop)(n)(h:I n env U)(hr:∀n env U,I n env U->vcC P G o c env U (wX (fun env' U'=>∃n',n' < n/\I n' env' U') Q)):qB P G o c env U Q:=⟨I,n,h,hr⟩
def qE6:=@qB.intro
end
attribute [simp] Leq zn Leq.refl zn.refl WE.refl yh.refl
def wr{n}(h : -9223372036854775808<=n)(h':n<9223372036854775808):IntKind.i64.wrap n=n:=by
 simp[IntKind.wrap,IntKind.bits,IntKind.signed];omega
def zb{α:Type}{l:List α}{i:Nat}{v:α}(h:l[i]?=some v):l.drop i=v::l.drop (i+1):=by
 obtain⟨h1,h2⟩:=qAm.1 h;rw[qAJ h1,h2]
def Kt{a}(h:qO a=true):pl1 a=a:=by
 unfold pl1;split
 . simp[qO]at h
 rfl
def Vp:∀{l:List AV},qz l=true->l.map pl1=l
 |[],_=>rfl
 | a::r,h=>by
  simp only[qz,qAr]at h;rw[qAz,Kt h.1,Vp h.2]
def qcg{a}(h:qO a=true):pl2 a=a:=by
 unfold pl2;split
 . simp only[qO]at h;simp[Vp h]
 exact Kt h
def Vo:∀{l:List AV},qz l=true->l.map pl2=l
 |[],_=>rfl
 | a::r,h=>by
  simp only[qz,qAr]at h;rw[qAz,qcg h.1,Vo h.2]
def yj{a}(h:qO a=true):plain a=a:=by
 unfold plain;split
 . simp only[qO]at h;simp[Vo h]
 exact qcg h
def j4:∀{l:List AV},qz l=true->l.map plain=l
 |[],_=>rfl
 | a::r,h=>by
  simp only[qz,qAr]at h;rw[qAz,yj h.1,j4 h.2]
def qA{H n a}(h:qO a=true):frz H n a=a:=by
 cases n<;>simp[frz,h]
def QH{H a}(h:qO a=true):ky H a=a:=by
 unfold ky;split
 . simp[qO]at h
 exact Kt h
def yz:∀{l m:List AV},qz (l++m)=(qz l&&qz m)
 |[],m=>by simp[qz]
 |a::r,m=>by simp[qz,yz (l:=r),Bool.and_assoc]
def zp{α:Type}{f:α->List AV}(h:∀x,qz (f x)=true):∀(l:List α),qZ (l.map f)=true
 |[]=>rfl
 |a::r=>by simp[qZ,h,zp h r]
def WM{l m}:qZ (l++m)=(qZ l&&qZ m):=by
 simp[Vy]
def Leq.sl{sz l m tok}(h:l=m):Leq (.sl sz l tok) (.sl sz m .none):=by
 subst h;simp[Leq,qES]
def Leq.slnil{sz sz' tok}:Leq (.sl sz [] tok) (.sl sz' [] .none):=by simp[Leq]
section
variable {P:Program}{G:Glo}{U:St}{f:FuncId}{args args':List AV}{r r':AV}{Q:AV->St->Prop}
def qg.call(h:Pure P G f args r)(hno:qz args=true)(hq:Q r U):qg P G f args U Q :=
 qg.pure h (by rw[j4 hno];exact hno) (by rw[j4 hno];exact qER _) hq
def qa.call{d}(h:Pure P G f args r)(hno:qz args=true)(hq:Q r U):qa P G d f args U Q :=
 qE8 h (by rw[j4 hno];exact hno) (by rw[j4 hno];exact qER _) hq
def qET:=@qa.call
def qa.less{d}(h:Pure P G f args' r)(hno:qz args=true)(ha:zn args args')(hq:Q r U):qa P G d f args U Q :=
 qE8 h (by rw[j4 hno];exact hno) (by rw[j4 hno];exact ha) hq
def qEU:=@qa.less
end
section
variable {P:Program}{G:Glo}{mu d lw:Bool}{ops:Array Oper}
def qdI{Q Q'}(hq:∀env U,Q env U->Q' env U):∀(l){env:Env}{U:St},vcR P G mu ops d lw l env U Q->vcR P G mu ops d lw l env U Q'
 |[],env,U,h=>hq _ _ h
 | o::r,env,U,h=>by
  simp only[vcR]at h⊢;exact vcG.imp h fun env v U h=>qdI hq r h
mutual
def qdG{ac Q Q'}(hq:∀env U,Q env U->Q' env U):∀(s){env:Env}{U:St},vcS P G mu ac ops s env U Q->vcS P G mu ac ops s env U Q'
 |.done,env,U,h=>by simp only[vcS]at h⊢;exact hq _ _ h
 | .step k dp s,env,U,h=>by
  simp only[vcS]at h⊢;split at h
  . rename_i o ho;exact vcG.imp h fun env v U h=>qdG hq s h
  exact h.elim
 | .fork a,env,U,h=>by
  simp only[vcS]at h⊢;exact WX hq a h
def WX{ac Q Q'}(hq:∀env U,Q env U->Q' env U):∀(a){env:Env}{U:St},vL P G mu ac ops a env U Q->vL P G mu ac ops a env U Q'
 |.nil,env,U,h=>by simp only[vL]
 | .cons k s r,env,U,h=>by
  simp only[vL]at h⊢;refine⟨?_,WX hq r h.2⟩;have h1:=h.1;split at h1
  . rename_i o ho;exact vcG.imp h1 fun env v U h=>qdG hq s h
  exact h1.elim
end
def kZ{n n' Q Q'}(hn:∀env U,n env U->n' env U)(hq:∀e env U,Q e env U->Q' e env U):∀e env U,wX n Q e env U->wX n' Q' e env U:=by
 intro e env U h;cases e<;>first|exact hn _ _ h|exact hq _ _ _ h
def qis{id Q Q'}(hq:∀e env U,Q e env U->Q' e env U):∀e env U,wY id Q e env U->wY id Q' e env U:=by
 intro e env U h
 cases e with
 | exit i=>
  simp only[qe9]at h⊢;split at h
  . rename_i hi;rw[if_pos hi];exact hq _ _ _ h
  rename_i hi;rw[if_neg hi];exact hq _ _ _ h
 |_=>exact hq _ _ _ h
def yc:Code->Bool
 |.seq x y=>yc x&&yc y
 |.cond _ x y=>yc x&&yc y
 |.block _ c=>yc c
 |.loop c=>yc c
 |.scope c=>yc c
 |.rangeFunc .. =>false
 |_=>true
def kg{o}:∀(c){env:Env}{U:St}{Q Q':Exit->Env->St->Prop},yc c=true->(∀e env U,Q e env U->Q' e env U)->vcC P G o c env U Q->vcC P G o c env U Q'
 |.skip,_,_,_,_,_,hq,h=>hq _ _ _ h
 |.ret,_,_,_,_,_,hq,h=>hq _ _ _ h
 |.exit _,_,_,_,_,_,hq,h=>hq _ _ _ h
 | .seq x y,env,U,Q,Q',hp,hq,h=>by
  simp only[yc,qAr]at hp;simp only[vcC]at h⊢;exact kg x hp.1 (kZ (fun env U h=>kg y hp.2 hq h) hq) h
 | .cond c x y,env,U,Q,Q',hp,hq,h=>by
  simp only[yc,qAr]at hp;simp only[vcC]at h⊢;split at h
  . exact⟨fun e=>kg x hp.1 hq (h.1 e),fun e=>kg y hp.2 hq (h.2 e)⟩
  exact h.elim
 | .block id c,env,U,Q,Q',hp,hq,h=>by
  simp only[yc]at hp;simp only[vcC]at h⊢;exact kg c hp (qis hq) h
 | .region id ops false,env,U,Q,Q',hp,hq,h=>by
  simp only[vcC]at h⊢;exact qdI (fun env U h=>hq _ _ _ h) _ h
 | .region id ops true,env,U,Q,Q',hp,hq,h=>by
  simp only[vcC]at h⊢;split at h
  . exact qdG (fun env U h=>hq _ _ _ h) _ h
  exact qdI (fun env U h=>hq _ _ _ h) _ h
 | .loop c,env,U,Q,Q',hp,hq,h=>by
  simp only[yc]at hp;simp only[vcC]at h⊢;obtain⟨I,n,h0,hr⟩:=h;exact⟨I,n,h0,fun n env U hI=>kg c hp (kZ (fun _ _ h=>h) hq) (hr n env U hI)⟩
 |.rangeFunc ..,_,_,_,_,hp,_,_=>by simp[yc]at hp
 | .scope c,_,_,_,_,hp,hq,h=>by
  simp only[yc]at hp;simp only[vcC]at h⊢;refine kg c hp (fun e env U h=>?_) h
  cases e with
  |goto l=>exact h
  |_=>exact hq _ _ _ h
 | .label l,_,_,_,_,_,hq,h=>by
  simp only[vcC]at h⊢;exact hq _ _ _ h
 |.goto l,_,_,_,_,_,_,h=>by simp only[vcC]at h
 |.refuse w,_,_,_,_,_,_,h=>by simp only[vcC]at h
def WW{o x y env U Q}(I)(hp:yc x=true)(h1:vcC P G o x env U (wX I Q))(h2:∀env U,I env U->vcC P G o y env U Q):vcC P G o (.seq x y) env U Q:=by
 simp only[vcC];exact kg x hp (kZ h2 fun _ _ _ h=>h) h1
end
section
variable {P:Program}{G:Glo}{o:Opts}{c:Code}{env:Env}{U:St}{Q:Exit->Env->St->Prop}{α:Type}
def qB.list(l)(J:List α->Env->St->Prop)(h0:J [] env U)
 (hs:∀d v r env U,l=d++v::r->l[d.length]?=some v->d.length<l.length->J d env U->vcC P G o c env U (wX (J (d++[v])) Q))
 (he:∀env U,J l env U->vcC P G o c env U (wX (fun _ _=>False) Q)) (hp:yc c=true:=by rfl):qB P G o c env U Q:=by
 refine qE6 (fun n ev U=>∃d r,l=d++r/\n=r.length/\J d ev U) l.length ⟨[],l,rfl,rfl,h0⟩ ?_;rintro n ev U ⟨d,r,hl,rfl,hJ⟩
 cases r with
 | nil=>
  rw[qA6]at hl;subst hl;exact kg c hp (fun e env U h=>kZ (fun _ _ h=>h.elim) (fun _ _ _ h=>h) e env U h) (he ev U hJ)
 | cons v r=>
  refine kg c hp (fun e env U h=>kZ (fun env U h=>?_) (fun _ _ _ h=>h) e env U h) (hs d v r ev U hl (by rw[hl];simp) (by rw[hl];simp) hJ);exact⟨r.length,by simp,d++[v],r,by rw[hl];simp,rfl,h⟩
def qB.count(n)(J:Nat->Env->St->Prop)(h0:J 0 env U)
 (hs:∀i env U,i<n->J i env U->vcC P G o c env U (wX (J (i+1)) Q))
 (he:∀env U,J n env U->vcC P G o c env U (wX (fun _ _=>False) Q)) (hp:yc c=true:=by rfl):qB P G o c env U Q:=by
 refine qE6 (fun m ev U=>∃i,i<=n/\m=n-i/\J i ev U) n ⟨0,by omega,by omega,h0⟩ ?_;rintro m ev U ⟨i,hi,rfl,hJ⟩;by_cases hn:i=n
 . subst hn;exact kg c hp (fun e env U h=>kZ (fun _ _ h=>h.elim) (fun _ _ _ h=>h) e env U h) (he ev U hJ)
 refine kg c hp (fun e env U h=>kZ (fun env U h=>?_) (fun _ _ _ h=>h) e env U h) (hs i ev U (by omega) hJ);exact⟨n-(i+1),by omega,i+1,by omega,rfl,h⟩
end
def QS{α:Type}(sz:Nat)(en:α->List AV)(t:Nat)(s:List α):AV:=match s with
 |[]=>.sl 0 [] .nil
 |a::r=>.sl sz ((a::r).map en) (.chain t (r.length+1))
def yI{α:Type}(T:List (Option Nat))(s:List α):List (Option Nat):=match s with
 |[]=>T
 |_::r=>T++[some (r.length+1)]
section
variable {α:Type}{sz t:Nat}{en:α->List AV}{T:List (Option Nat)}{s m:List α}
@[simp]def qwd:QS sz en t ([]:List α)=.sl 0 [] .nil:=rfl
@[simp]def qup:yI T ([]:List α)=T:=rfl
def qru(h:s≠[]):QS sz en t s=.sl sz (s.map en) (.chain t s.length):=by
 cases s with
 |nil=>exact absurd rfl h
 |cons a r=>rfl
def qnn(h:s≠[]):yI T s=T++[some s.length]:=by
 cases s with
 |nil=>exact absurd rfl h
 |cons a r=>rfl
def yU{D H ty e i j tok}(hi:D ty=some i)(hd:i.d=.sl e)(hj:D e=some j)(hsz:j.size=sz)(h0:0<sz)(hz:j.zero.length=sz)(hb:j.bytes<=256)(hlen:s.length+m.length<=549755813888)(sz2)(h2:sz2=sz\/m=[]) :
 qr D ⟨H,yI T s⟩ ty (QS sz en T.length s) (.sl sz2 (m.map en) tok)=some (QS sz en T.length (s++m),⟨H,yI T (s++m)⟩):=by
 subst hsz;by_cases hm:m=[]
 . subst hm;rw[qA6]
   cases s with
   |nil=>simp[qr,hi,hd,hj,h0,hz,hb,qY]
   | cons a r=>
    have:r.length+1<=549755813888:=by simpa using hlen
    simp[qr,hi,hd,hj,h0,hz,hb,qY,QS,yI,this]
 have h2:=h2.resolve_right hm;subst h2
 cases s with
 | nil=>
  have:m.length<=549755813888:=by simpa using hlen
  simp[qr,hi,hd,hj,h0,hz,hb,qY,qnn hm,qru hm,this,hm]
 | cons a r=>
  have:r.length+1+m.length<=549755813888:=by simpa using hlen
  simp only[qAL,QS,yI];simp[qr,hi,hd,hj,h0,hz,hb,qY,this,hm];omega
def qpq{α:Type}(sz:Nat)(en:α->List AV)(s:List α):AV:=match s with
 |[]=>.sl 0 [] .nil
 |a::r=>.sl sz ((a::r).map en) .none
@[simp high]def Vm:plain (QS sz en t s)=qpq sz en s:=by cases s<;>rfl
@[simp high]def quX{H}:vG H (QS sz en t s)=qpq sz en s:=by cases s<;>rfl
@[simp high]def qwC{H}:fin H (QS sz en t s)=qpq sz en s:=by cases s<;>rfl
@[simp high]def qhK(hn:∀x,qz (en x)=true):qO (qpq sz en s)=true:=by
 cases s with
 |nil=>rfl
 |cons a r=>simpa[qpq] using zp hn (a::r)
def qf9:Leq (qpq sz en s) (.sl sz (s.map en) .none):=by
 cases s with
 |nil=>simp[qpq,Leq]
 |cons a r=>exact Leq.sl rfl
@[simp high]def quE:Leq (qpq sz en s) (.sl sz (s.map en) .none)=True:=eq_true qf9
end
