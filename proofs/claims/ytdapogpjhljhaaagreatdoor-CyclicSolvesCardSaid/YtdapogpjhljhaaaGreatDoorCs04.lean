import Derived.Test.YtdapogpjhljhaaaGreatDoorCs02
import Derived.Test.YtdapogpjhljhaaaGreatDoorCs03
import Derived.RangeFuncRecord
import Derived.Sort.LoopGhostIn
import Derived.KernelRfl
import Derived.TacticsIn
import Derived.OrdersIn
import Derived.RangeFuncIn
import Derived.Scope
set_option linter.all false
set_option linter.defProp false
namespace Go.Abs
open Go Go.RowKit
def jA(ops:Array Oper)(env:Env)(o:Oper):Option Bool :=
 match o.guard with
 |none=>some true
 | some (j,b)=>match(ops[j]?).bind (·.dst) with
  | some t=>match env t with
   |.bool c=>some (c==b)
   |.tup []=>some false
   |_=>none
  |none=>some false
def kq(first args cap:List AV):List AV:=first++args++cap
def OpA(P:Program)(G:Nat->AV)(o:Oper)(env:Env)(σ:St)(v:AV)(σ':St):Prop :=
 sem (Dof P) G env σ o.op=some (v,σ') \/
 ∃f args a g first cap,o.op=.call {callee:=.value f,args:=args,argTypes:=a}/\ev G env f=.fn g first cap/\Zj P G g (kq first (qbJ G env args.toList) cap) σ v/\σ'=σ
def wM(P:Program)(G:Nat->AV)(ops:Array Oper)(o:Oper)(env:Env)(σ:St)(v:AV)(σ':St):Prop :=
 (jA ops env o=some false/\v=.tup []/\σ'=σ)\/(jA ops env o=some true/\OpA P G o env σ v σ')
section
variable {P:Program}{G:Nat->AV}{N:Nat}{env:Env}{σ σ':St}{w0:World}{ro0:Nat->Nat->Option Value}{K:Kn}{a:Act}{w:World}{ops:Array Oper}{o:Oper}{v:AV}
def y0(l:ERel K N env a){b}(r:∀j,o.guard=some (j,true)\/o.guard=some (j,false)->∀t,(ops[j]?).bind (·.dst)=some t->t<N)(h:jA ops env o=some b):
 Region.wanted o (yielded ops a.tmps)=b:=by
 unfold jA at h;unfold Region.wanted;split at h
 . rename_i f;simp at h;subst h;simp[f]
 rename_i j c f;simp only[f];split at h
 . rename_i t g;have s:=r j (by cases c<;>simp[f]) t g;have d:=l.val t;have e:t<a.tmps.size:=(by rwa[l.size]);simp only[yielded,g,Option.bind_some];split at h
   . rename_i x i;simp at h;subst h;rw[i]at d;simp at d;have:a.tmps[t]?=some (.bool x):=by
      rw[qEO e];simp[e]at d;rw[d]
     simp only[this];cases x<;>cases c<;>rfl
   . rename_i i;simp at h;subst h;rw[i]at d;simp at d;obtain⟨vs,m,u⟩:=d;have:a.tmps[t]?=some (.tuple vs):=by
      rw[qEO e];simp[e]at m;rw[m]
     simp only[this];rfl
   cases h
 rename_i g;simp at h;subst h;simp[yielded,g]
def WB(d:WRel G w0 ro0 K σ w)(c:ERel K N env a){f args j g first cap}(l:o.op=.call {callee:=.value f,args:=args,argTypes:=j})
 (i:ev G env f=.fn g first cap) (hb:bodied P g=true):
 ∃vs:Array Value,(execOp a.eval o).run P w=.ok (.enter g vs) w/\qj K (kq first (qbJ G env args.toList) cap) vs.toList:=by
 have b:=Jn d c f;rw[i]at b;simp only[qi]at b;obtain⟨m,r,h,h1,h2⟩:=b;refine⟨m++args.map a.eval++r,?_,?_⟩
 . cases hg:P.funcs[g]? with
   |none=>simp[bodied,hg]at hb
   | some fn=>
    simp[bodied,hg]at hb;obtain⟨b1,b2⟩:=hb;simp[execOp,l,resolve,h,Deferred.ofValue,invoke,callFunc,hg,b2,show ¬fn.body=none by intro e;simp[e]at b1]
 have:=QR d c args.toList;simp only[kq,Array.toList_append,Array.toList_map];exact(h1.append this).append h2
def Act.put_defers'{a:Act}{d:Option Tmp}{v}:(a.put d v).defers=a.defers:=by
 unfold Act.put;split<;>rfl
def qFx:=@Act.put_defers'
def qsa(m:WRel G w0 ro0 K σ w)(c:ERel K N env a)(hd:∀d,o.dst=some d->d<N)(h:OpA P G o env σ v σ'){next Q}
 (l:∀K' j w',K.le K'->WRel G w0 ro0 K' σ' w'->ERel K' N (upd env o.dst v) j->j.defers=a.defers->next j w'):o.wp P a w next Q:=by
 rcases h with h|⟨f,args,x,g,first,cap,t,s,r,rfl⟩
 . obtain⟨v',w',K',b,h1,h2,i⟩:=KD m c o h;unfold Oper.wp;rcases b with b|⟨b,rfl⟩
   . rw[b];exact l K' _ w' h1 h2 ((c.mono h1).put hd i) qFx
   rw[b];exact l K' _ w' h1 h2 ((c.mono h1).put hd i) qFx
 obtain⟨vs,b,u⟩:=WB m c t s r.bodied;unfold Oper.wp;rw[b,Oper.upon_enter];refine(qu6 m r u).mono ?_;rintro e w' ⟨v',K',rfl,h1,h2,i⟩;exact l K' _ w' h1 h2 ((c.mono h1).put hd i) qFx
def Qf(N:Nat)(ops:Array Oper):Bool:=ops.toList.all fun o=>match o.dst with|some d=>decide (d<N)|none=>true
def ZX{N ops}(h:Qf N ops=true){o}(a:o∈ops.toList):∀d,o.dst=some d->d<N:=by
 intro d hd;have:=qBx.1 h o a;simpa[hd] using this
def Zv{N ops}(h:Qf N ops=true)(o:Oper):∀j,o.guard=some (j,true)\/o.guard=some (j,false)->∀t,(ops[j]?).bind (·.dst)=some t->t<N:=by
 intro j _ t a;obtain⟨b,h1,h2⟩:=qCY.1 a;exact ZX h (qBl (by simpa using h1)) t h2
def JW(args:List AV):Env:=fun t=>args.getD t (.tup [])
def qfS(D:Nat->Option TI)(a:List ResultVar)(env:Env)(σ:St):Option (List AV) :=
 match a with
 |[]=>some []
 |.tmp t::r=>(qfS D r env σ).map (env t::·)
 | .cell x t::r=>match wZ D σ t (env x),qfS D r env σ with
  |some v,some l=>some (v::l)
  |_,_=>none
def Vl:List AV->AV
 |[v]=>v
 |l=>.tup l
def qcv(a:Act):ResultVar->Sem Value
 |.tmp t=>pure (a.tmps.getD t undef)
 |.cell x t=>do loadVar t (<- asAddr (a.tmps.getD x undef))
def Zx(g:WRel G w0 ro0 K σ w)(b:ERel K N env a):∀(s:List ResultVar) (l),qfS (Dof P) s env σ=some l ->
 ∃vs:List Value,(s.mapM (qcv a)).run P w=.ok vs w/\qj K l vs
 |[],l,h=>by simp[qfS]at h;subst h;exact⟨[],by simp,by simp[qj]⟩
 | .tmp t::r,l,h=>by
  simp only[qfS]at h;obtain⟨j,i,rfl⟩:=qBu.1 h;obtain⟨vs,h1,h2⟩:=Zx g b r j i;refine⟨a.tmps.getD t undef::vs,?_,by simp only[qj];exact⟨_,_,rfl,b.val t,h2⟩⟩;rw[qFh,Sem.run_bind];simp only[qcv,pure,Sem.run,Result.andThen_ok,Sem.run_bind,h1]
 | .cell x t::r,l,h=>by
  simp only[qfS]at h;split at h
  . rename_i v j d i;simp only[qBI]at h;subst h;obtain⟨vs,h1,h2⟩:=Zx g b r j i;obtain⟨v',f,y⟩:=qcR g (b.val x) d;have c:=b.val x;have z:∃m,a.tmps.getD x undef=.pointer (some m):=by
     cases hxx:env x<;>rw[hxx]at c d<;>simp only[qi]at c<;>first
      |(obtain⟨B,_,e⟩:=c;exact⟨_,e⟩)
      |(obtain⟨B,o,e,_⟩:=c;exact⟨_,e⟩)
      |(unfold wZ at d;split at d<;>simp_all)
    obtain⟨m,u⟩:=z;refine⟨v'::vs,?_,by simp only[qj];exact⟨_,_,rfl,y,h2⟩⟩;rw[u]at f;simp only[Instr.loadAt,Instr.sureAddr,pure,Sem.run_bind,Sem.run,Result.andThen_ok]at f;rw[qFh,Sem.run_bind];simp only[qcv,u,asAddr,pure,Sem.run,Result.andThen_ok,Sem.run_bind,f,h1]
  cases h
def KF(e:WRel G w0 ro0 K σ w)(d:ERel K N env a){fn l}(h:qfS (Dof P) fn.results.toList env σ=some l):
 ∃v,(results fn a.tmps).run P w=.ok v w/\qi K (Vl l) v:=by
 obtain⟨vs,h1,h2⟩:=Zx e d _ _ h;have c:(fn.results.mapM (qcv a)).run P w=.ok vs.toArray w:=by
  rw[Array.mapM_eq_mapM_toList];simp[h1]
 have b:results fn a.tmps=(fn.results.mapM (qcv a)).bind fun vs=>Sem.pure (if h:vs.size=1 then vs[0] else .tuple vs):=by
  unfold results;congr 2
 have f:=h2.length
 cases l with
 | nil=>
  simp only[qj]at h2;subst h2;refine⟨.tuple #[],?_,by simp only[Vl,qi];exact⟨#[],rfl,by simp[qj]⟩⟩;rw[b,Sem.run_bind',c];rfl
 | cons x r=>
  cases r with
  | nil=>
   simp only[qj]at h2;obtain⟨v,i,rfl,g,rfl⟩:=h2;refine⟨v,?_,g⟩;rw[b,Sem.run_bind',c];rfl
  | cons y r=>
   refine⟨.tuple vs.toArray,?_,by simp only[Vl,qi];exact⟨_,rfl,by simpa using h2⟩⟩;rw[b,Sem.run_bind',c];have:¬vs.toArray.size=1:=by simp at f⊢;omega
   simp only[Result.andThen_ok,dif_neg this,Sem.run]
def ERel.enter{args vs n}(a:qj K args vs.toList)(f:args.length<=n):
 ERel K n (JW args) {tmps:=vs++Array.replicate (n-vs.size) undef,defers:=[]}:=by
 have d:=a.length;simp at d;refine⟨by simp;omega,fun t=>?_⟩;simp only[JW];by_cases c:t<vs.size
 . have h1:args[t]?=some args[t]:=qBm (by omega);obtain⟨v,b,e⟩:=a.get t _ h1;simp only[qBw,h1,qES]
   rwa[qEE,qD4 c,show vs[t]?=some v by simpa using b]
 have h1:args[t]?=none:=qBW (by omega);simp only[qBw,h1,Option.getD_none];rw[qEE,Array.getElem?_append_right (by omega)];have:(Array.replicate (n-vs.size) undef)[t-vs.size]?.getD undef=undef:=by
  rw[Array.getElem?_replicate];split<;>rfl
 rw[this];exact⟨#[],rfl,by simp[qj]⟩
def Qr{u:FrameMode}(l:u≠.run){fn R tmps f0}:∀(a:List Nat) (K) (w),WRel G w0 ro0 K σ w->a.Nodup->(∀D∈a,K.fx D=some (.deferred (some []))/\f0 D=none) ->
 (∀B o,f0 B=some o->K.fx B=some o) ->
 (∀(w'),WRel G w0 ro0 (K.withFx f0) σ w'->LeavesIn Fence.wide 0 P fn tmps R [] u w')->LeavesInM Fence.wide 0 P fn tmps R (a.map qxa) u w
 |[],K,w,b,_,_,c,h=>h w (b.unfix c)
 | D::a,K,w,b,g,m,c,h=>by
  obtain⟨j,r⟩:=m D (by simp);obtain⟨b1,_⟩:=b.fx D _ j;have t:=b.refix j (by intros;intro e;cases e) (.deferred none);refine⟨l,.inl ⟨D,_,rfl,run_takeDeferred b1,?_⟩⟩;refine Qr l a _ _ t (qC7.1 g).2 (fun f i=>?_) (fun B o e=>?_) h
  . have d:¬f=D:=fun e=>(qC7.1 g).1 (e▸i)
    simp only[Kn.withFx,if_neg d];exact m f (by simp[i])
  have d:¬B=D:=fun s=>by subst s;rw[r]at e;cases e
  simp only[Kn.withFx,if_neg d];exact c B o e
def Yw{G:Glo}{f:FuncId}{fn:Func}{c:Code}{vs:Array Value}{R:Ending->World->Prop}{Q:Exit->Env->St->Prop}(u:P.funcs[f]?=some fn)(hb:fn.body=some c)
 (h:c.wp P (J9 G w0 ro0 K fn.ntmps [] Q) {tmps:=vs++Array.replicate (fn.ntmps-vs.size) undef,defers:=[]} w)
 (r:∀e K' env σ a w',K.le K'->WRel G w0 ro0 K' σ w'->ERel K' fn.ntmps env a->Q e env σ->(e=.ret\/e=.normal)/\∃v,(results fn a.tmps).run P w'=.ok v w'/\R (.returned v) w')
 (t:∀c K' σ w',K.le K'->WRel G w0 ro0 K' σ w'->G.X c σ->R (.panicked c) w'):Calls P f vs w R:=by
 refine(callsIn_wide (n:=0)).1 (callsIn_of_wp_marks u hb trivial (wpIn_mono (wpIn_wide.2 h) ?_));rintro e a w' (⟨K',env,σ',h1,h2,o,⟨m,n1,j,b⟩,g⟩|⟨c,K',σ',rfl,h1,h2,⟨m,n1,j,b⟩,g⟩)
 . have s:=(r e K' env σ' a w' h1 h2 o g).1;have key:LeavesInM Fence.wide 0 P fn a.tmps R a.defers .returning w':=by
    rw[j,qB4];refine Qr (by simp) (G:=G) (w0:=w0) (ro0:=ro0) (σ:=σ') (f0:=K.fx) m K' w' h2 n1 (fun D d=>⟨(b D d).2,(b D d).1⟩) h1.fx fun l i=>?_
    exact(r e _ env σ' a l (qFS (K:=K) (f:=K.fx) h1 fun _ _ e=>e) i (o.refx K.fx) g).2
   rcases s with rfl|rfl
   . exact key
   exact key
 show LeavesInM Fence.wide 0 P fn a.tmps R a.defers (.panicking c) w';rw[j,qB4];refine Qr (by simp) (G:=G) (w0:=w0) (ro0:=ro0) (σ:=σ') (f0:=K.fx) m K' w' h2 n1 (fun D d=>⟨(b D d).2,(b D d).1⟩) h1.fx fun l i=>?_
 exact t c _ σ' l (qFS (K:=K) (f:=K.fx) h1 fun _ _ e=>e) i g
def Pure.of_body {G} (hX : G.NoX) {f fn c args r} (hf : P.funcs[f]? = some fn) (hb : fn.body = some c) (hnm : fn.name ≠ "runtime.NumGoroutine") (hn : args.length ≤ fn.ntmps)
 (h:AWp P G fn.ntmps c (JW args) ⟨[],[]⟩ (fun e env σ=>(e=.ret\/e=.normal)/\∃l,qfS (Dof P) fn.results.toList env σ=some l/\((qE (fin σ.H (Vl l))=true/\Leq (fin σ.H (Vl l)) r)\/(qE (frz σ.H 8 (Vl l))=true/\Leq (frz σ.H 8 (Vl l)) r)))):Pure P G f args r:=by
 refine⟨by simp[*,bodied],?_⟩;intro w0 ro vs hg hro hvs;have hw:WRel G w0 ro (K0 ro) ⟨[],[]⟩ w0:=⟨Below.refl _ _,hg,hro,fun b o v e _=>e,by simp,fun _ _ _ e=>by simp[K0]at e,fun _ _ e=>by simp[K0]at e,by simp,fun _ _ e=>by simp[K0]at e,
  fun _ _ _ _ e=>by simp[K0]at e,rfl,fun _ _ _ _ _ e=>by simp[K0]at e,fun _ _ e=>by simp[K0]at e,fun _ _ e=>by simp[K0]at e⟩
 have he:=ERel.enter hvs hn;refine Yw hf hb (h w0 ro (K0 ro) _ w0 hw he) ?_ fun c _ σ _ _ _ hc=>(hX c σ hc).elim
 rintro e K' env σ a w h1 h2 h3 ⟨hend,l,hl,hfin⟩;refine⟨hend,?_⟩;obtain⟨v,hr,hv⟩:=KF h2 h3 hl;have hv3:qi (K0 (Qi w0 w K'.ro)) r v:=by
  rcases hfin with⟨hno,hfin⟩|⟨hno,hfin⟩
  . exact qFM _ _ hfin (qi.toK0 _ hno (qsX h2 hv))
  exact qFM _ _ hfin (qld h2 8 hv)
 obtain⟨q1,q2⟩:=h2.end_ro;exact⟨v,hr,v,Qi w0 w K'.ro,rfl,h2.below,fun b o v e=>YS _ _ _ _ _ _ (h1.ro b o v e),q1,q2,hv3⟩
def qh.of_body {G f fn c args Q} (hf : P.funcs[f]? = some fn) (hb : fn.body = some c) (hnm : fn.name ≠ "runtime.NumGoroutine") (hn : args.length ≤ fn.ntmps)
 (h:AWp P G fn.ntmps c (JW args) σ (fun e env σ'=>(e=.ret\/e=.normal)/\∃l,qfS (Dof P) fn.results.toList env σ'=some l/\Q (Vl l) σ')):qh P G f args σ Q:=by
 refine⟨by simp[*,bodied],?_⟩;intro w0 ro0 K w vs hw hvs;refine Yw hf hb (h w0 ro0 K _ w hw (ERel.enter hvs hn)) ?_ fun c K' σ' w' h1 h2 hc=>.inr ⟨c,σ',K',rfl,h1,h2,hc⟩
 rintro e K' env σ' a w h1 h2 h3 ⟨hend,l,hl,hq⟩;obtain⟨v,hr,hv⟩:=KF h2 h3 hl;exact⟨hend,v,hr,.inl ⟨v,Vl l,σ',K',rfl,h1,h2,hv,hq⟩⟩
end
def qb(P:Program)(G:Glo)(d:Bool)(g:FuncId)(args:List AV)(σ:St)(Q:AV->St->Prop):Prop :=
 match d with
 |true=>∃r,Zj P G g args σ r/\Q r σ
 |false=>qh P G g args σ Q
def qeu{α:Type}(d:Bool)(l:Option α):Option α:=match d with
 |true=>none
 |false=>l
def vcX(l:Option (List (AV×St)))(s:Option (AV×St))(Q:AV->St->Prop):Prop :=
 match l with
 |some l=>∀v σ',(v,σ')∈l->Q v σ'
 | none=>match s with
  |some (v,σ')=>Q v σ'
  |none=>False
def jO(P:Program)(G:Glo)(mu d:Bool)(op:Op)(env:Env)(σ:St)(Q:AV->St->Prop):Prop :=
 match op with
 | .call {callee:=.value f,args:=args,argTypes:=_}=>match ev G env f with
  |.fn g first cap=>qb P G d g (kq first (qbJ G env args.toList) cap) σ Q
  |_=>False
 |op=>vcX (qeu d (qck (Dof P) G mu env σ op)) (sem (Dof P) G env σ op) Q
section
variable {P:Program}{G:Glo}{N:Nat}{env:Env}{σ σ':St}{w0:World}{ro0:Nat->Nat->Option Value}{K:Kn}{a:Act}{w:World}{ops:Array Oper}{o:Oper}{v:AV}{mu:Bool}
def qkq(r:WRel G w0 ro0 K σ w)(b:ERel K N env a)(hd:∀d,o.dst=some d->d<N){R}(h:jO P G mu false o.op env σ R){next Q}
 (t:∀v σ' K' s w',R v σ'->K.le K'->WRel G w0 ro0 K' σ' w'->ERel K' N (upd env o.dst v) s->s.defers=a.defers->next s w')
 (D:∀c σ' K' w',G.X c σ'->K.le K'->WRel G w0 ro0 K' σ' w'->Q (.panic c) a w'):o.wp P a w next Q:=by
 have did:∀v σ',R v σ'->Did P G w0 ro0 K w (execOp a.eval o) v σ'->o.wp P a w next Q:=by
  intro v σ' m x;obtain⟨v',w',K',j,h1,h2,i⟩:=x;unfold Oper.wp;rcases j with j|⟨j,rfl⟩
  . rw[j];exact t v σ' K' _ w' m h1 h2 ((b.mono h1).put hd i) qFx
  rw[j];exact t v σ' K' _ w' m h1 h2 ((b.mono h1).put hd i) qFx
 unfold jO at h;split at h
 . rename_i f args F y;split at h
   . rename_i g first cap C
     have u:=h;obtain⟨vs,m,A⟩:=WB r b y C u.1;unfold Oper.wp;rw[m,Oper.upon_enter];refine(u.2 w0 ro0 K w vs r A).mono ?_;rintro e w' (⟨v',v,σ',K',rfl,h1,h2,i,z⟩|⟨c,σ',K',rfl,h1,h2,i⟩)
     . exact t v σ' K' _ w' z h1 h2 ((b.mono h1).put hd i) qFx
     exact D c σ' K' w' i h1 h2
   exact h.elim
 simp only[vcX,qeu]at h;split at h
 . rename_i l B;obtain⟨v,σ',h1,h2⟩:=Vs r b o B;exact did v σ' (h v σ' h1) h2
 split at h
 . rename_i v σ' E;exact did v σ' h (KD r b o E)
 exact h.elim
def qh.imp{f args Q Q'}(h:qh P G f args σ Q)(d:∀v σ,Q v σ->Q' v σ):qh P G f args σ Q' :=
 ⟨h.1,fun w0 ro0 K w vs b i=>(h.2 w0 ro0 K w vs b i).mono fun e w' h=>h.imp (fun⟨v',v,σ',K',h1,h2,c,g,a⟩=>⟨v',v,σ',K',h1,h2,c,g,d _ _ a⟩) id⟩
def qFU:=@qh.imp
def vcX.imp{l s R b}(h:vcX l s R)(a:∀v σ,R v σ->b v σ):vcX l s b:=by
 unfold vcX at h⊢;split at h
 . exact fun v σ' c=>a _ _ (h v σ' c)
 split at h
 . exact a _ _ h
 exact h.elim
def jO.plain{d op}(a:¬∃f args b,op=.call {callee:=.value f,args:=args,argTypes:=b})(R):
 jO P G mu d op env σ R=vcX (qeu d (qck (Dof P) G mu env σ op)) (sem (Dof P) G env σ op) R:=by
 unfold jO;split
 . exact absurd ⟨_,_,_,rfl⟩ a
 rfl
def jO.imp{d op R e}(h:jO P G mu d op env σ R)(a:∀v σ,R v σ->e v σ):jO P G mu d op env σ e:=by
 by_cases c:∃f args b,op=.call {callee:=.value f,args:=args,argTypes:=b}
 . obtain⟨f,args,b,rfl⟩:=c;simp only[jO]at h⊢;split at h
   . rename_i g first cap i
     cases d
     . exact qFU h a
     obtain⟨r,h1,h2⟩:=h;exact⟨r,h1,a _ _ h2⟩
   exact h.elim
 rw[jO.plain c]at h⊢;exact h.imp a
variable {G:Nat->AV}
def qol:∀{a b:AV},Leq a b->b.atom=true->a.atom=true:=by
 intro a b h hb;cases b<;>simp only[AV.atom]at hb<;>first|(cases hb;done)|skip
 all_goals(cases a<;>simp only[Leq]at h<;>first|(cases h;done)|rfl|(exact h.elim)|skip)
def qcV:∀{l m:List AV},zl l m->m.all AV.atom=true->l.all AV.atom=true
 |[],[],_,_=>rfl
 | a::r,b::s,h,c=>by
  simp only[zl,qCH,qBq]at h c⊢;exact⟨qol h.1 c.1,qcV h.2 c.2⟩
 |[],_::_,h,_=>by simp[zl]at h
 |_::_,[],h,_=>by simp[zl]at h
def zl.of_map{f g}(h:∀a,Leq (f a) (g a)):∀l:List AV,zl (l.map f) (l.map g)
 |[]=>by simp[zl]
 |a::r=>by simp only[qBz,zl];exact⟨h a,zl.of_map h r⟩
def qFV:=@zl.of_map
def WZ.of_map{f g}(h:∀a,Leq (f a) (g a)):∀l:List AV,WZ (l.map f) (l.map g)
 |[]=>by simp[WZ]
 |a::r=>by simp only[qBz,WZ];exact⟨h a,WZ.of_map h r⟩
def ym.of_map{f g}(h:∀a,Leq (f a) (g a)):∀l:List (List AV),(l.map (·.map g)).all (·.all AV.atom)=true->ym (l.map (·.map f)) (l.map (·.map g))
 |[],_=>by simp[ym]
 | a::r,b=>by
  simp only[qBz,qCH,qBq,ym]at b⊢;exact⟨.inr ⟨qFV h a,b.1⟩,ym.of_map h r b.2⟩
def KJ{f g}(h:∀a,Leq (f a) (g a)):∀l:List (List AV),(l.map (·.map g)).all (·.all AV.atom)=true->(l.map (·.map f)).all (·.all AV.atom)=true
 |[],_=>rfl
 | a::r,b=>by
  simp only[qBz,qCH,qBq]at b⊢;exact⟨qcV (qFV h a) b.1,KJ h r b.2⟩
def Leq.any(a):Leq a .any:=by cases a<;>simp[Leq]
def qgF{H H':List Blk}(g:∀(b:Nat) (x:Blk),H[b]?=some x->H'[b]?=some x):∀(n:Nat) (a:AV),Leq (frz H' n a) (frz H n a)
 |0,a=>by simp only[frz];exact qFN _
 | n+1,a=>by
  have ih:=qgF g n;by_cases e:qE a=true
  . simp only[frz,e,if_true];exact qFN _
  cases a with
  | ptr b off=>
   simp only[frz,e,qBP,if_false]
   cases hb:H[b]? with
   |none=>exact Leq.any _
   | some x=>
    rw[g b x hb]
    cases x with
    |cells c=>simp only[Leq];exact WZ.of_map ih _
    |_=>exact Leq.any _
  | ms b off len sz=>
   simp only[frz,e,qBP,if_false]
   cases hb:H[b]? with
   |none=>exact Leq.any _
   | some x=>
    rw[g b x hb]
    cases x with
    | cells c=>
     simp only;by_cases d:off+len*sz<=c.length/\((ww sz len (c.drop off)).map (·.map (frz H n))).all (·.all AV.atom)=true
     . rw[if_pos d,if_pos ⟨d.1,KJ ih _ d.2⟩];simp only[Leq];exact .inr ⟨trivial,ym.of_map ih _ d.2,.inl trivial⟩
     rw[if_neg d];exact Leq.any _
    |_=>exact Leq.any _
  |rptr c=>simp only[frz,e,qBP,if_false,Leq];exact WZ.of_map ih _
  | sl sz rows tok=>
   simp only[frz,e,qBP,if_false];by_cases d:(rows.map (·.map (frz H n))).all (·.all AV.atom)=true
   . rw[if_pos d,if_pos (KJ ih _ d)];simp only[Leq];exact .inr ⟨trivial,ym.of_map ih _ d,.inl trivial⟩
   rw[if_neg d];exact Leq.any _
  |fn f x y=>simp only[frz,e,qBP,if_false,Leq];exact⟨trivial,qFV ih _,qFV ih _⟩
  |agg c=>simp only[frz,e,qBP,if_false,Leq];exact qFV ih _
  |tup c=>simp only[frz,e,qBP,if_false,Leq];exact qFV ih _
  |_=>simp only[frz,e,qBP,if_false];exact qFN _
def Pure.less'{f args args' r}(h:Pure P G f args' r)(a:zl args args'):Pure P G f args r :=
 ⟨h.1,fun w0 ro vs b c d=>h.2 w0 ro vs b c (zl.rel _ _ a d)⟩
def Zj.mono{g args r}{σ τ:St}(h:Zj P G g args σ r)(a:∀(b:Nat) (x:Blk),σ.H[b]?=some x->τ.H[b]?=some x):Zj P G g args τ r:=by
 rcases h with h|⟨h1,h2⟩
 . exact .inl h
 exact .inr ⟨h1,h2.less' (qFV (qgF a 8) args)⟩
end
def qiz:Op->Nat
 |.move _|.assign _|.pick ..|.nilCheck _|.binOp ..|.unOp ..|.convert ..|.fieldAddr ..|.field ..|.indexAddr ..|.index ..|.extract ..|.slice ..|.makeFunc ..|.build ..|.buildSlice .. =>0
 |.load ..|.lookup .. =>1
 |.call {callee:=.builtin b,.. }=>match b with|.len=>1|.min=>0|.max=>0|_=>2
 |.call {callee:=.value _,.. }=>1
 |_=>2
section
variable {P:Program}{G:Nat->AV}{N:Nat}{env env':Env}{σ σ':St}{ops:Array Oper}{o:Oper}{v:AV}
def qzo(h:qiz o.op=0)(l:wM P G ops o env σ v σ'):σ'=σ/\∀τ,wM P G ops o env τ v τ:=by
 rcases l with⟨h1,rfl,rfl⟩|⟨h1,h2⟩
 . exact⟨rfl,fun τ=>.inl ⟨h1,rfl,rfl⟩⟩
 rcases h2 with h2|⟨f,args,i,g,first,cap,j,_⟩
 . have key:σ'=σ/\∀τ,sem (Dof P) G env τ o.op=some (v,τ):=by
    obtain⟨dst,op,ty,pos,after,guard⟩:=o;simp only at h h2⊢;cases op<;>simp only[qiz]at h<;>try(cases h;done)
    case call c=>
     obtain⟨callee,args,i⟩:=c
     cases callee with
     | builtin b=>
      simp only at h;split at h
      . cases h
      . simp only[sem,zL]at h2⊢;split at h2<;>first
         | (obtain⟨u,e,d⟩:=qBu.1 h2
            simp at d;obtain⟨rfl,rfl⟩:=d;exact⟨rfl,fun τ=>by simp_all⟩)
         |(rename_i hb _ _;cases hb;done)
         |(cases h2;done)
         |skip
        all_goals simp_all
      . simp only[sem,zL]at h2⊢;split at h2<;>first
         | (obtain⟨u,e,d⟩:=qBu.1 h2
            simp only[qBK]at d;obtain⟨rfl,rfl⟩:=d;exact⟨rfl,fun τ=>by simp_all⟩)
         |(rename_i hb _ _;cases hb;done)
         |(cases h2;done)
         |skip
        all_goals simp_all
      cases h
     |value f=>simp at h
     |invoke r m=>simp at h
    case makeFunc fn a b=>
     cases fn<;>simp only[sem]at h2⊢<;>first|(cases h2;done)|skip
     cases h2;exact⟨rfl,fun τ=>rfl⟩
    case pick c a b=>
     simp only[sem]at h2⊢;split at h2
     . cases h2;exact⟨rfl,fun τ=>by simp_all⟩
     cases h2
    case nilCheck x=>
     simp only[sem]at h2⊢;split at h2
     . cases h2;exact⟨rfl,fun τ=>by simp_all⟩
     . cases h2;exact⟨rfl,fun τ=>by simp_all⟩
     cases h2
    case slice t x lo hi mx=>
     simp only[sem]at h2⊢;split at h2
     . split at h2
       . obtain⟨u,e,d⟩:=qBu.1 h2;simp only[qBK]at d;obtain⟨rfl,rfl⟩:=d;exact⟨rfl,fun τ=>by simp_all⟩
       . split at h2
         . split at h2
           . obtain⟨u,e,d⟩:=qBu.1 h2;simp only[qBK]at d;obtain⟨rfl,rfl⟩:=d;exact⟨rfl,fun τ=>by simp_all⟩
           . cases h2
         . split at h2
           . obtain⟨u,e,d⟩:=qBu.1 h2;simp only[qBK]at d;obtain⟨rfl,rfl⟩:=d;exact⟨rfl,fun τ=>by simp_all⟩
           . cases h2
         . cases h2
       . cases h2
     cases h2
    all_goals
     simp only[sem]at h2⊢
     first
      | (obtain⟨u,e,d⟩:=qBu.1 h2
         simp only[qBK]at d;obtain⟨rfl,rfl⟩:=d;exact⟨rfl,fun τ=>by rw[e];rfl⟩)
      | (cases h2
         exact⟨rfl,fun τ=>rfl⟩)
   exact⟨key.1,fun τ=>.inr ⟨h1,.inl (key.2 τ)⟩⟩
 rw[j]at h;simp[qiz]at h
def qAs(h:qiz o.op=1)(s:wM P G ops o env σ v σ'):σ'=σ:=by
 rcases s with⟨h1,rfl,rfl⟩|⟨h1,h2⟩
 . rfl
 rcases h2 with h2|⟨f,args,l,g,first,cap,w,_,_,e⟩
 . obtain⟨dst,op,ty,pos,after,guard⟩:=o;simp only at h h2;cases op<;>simp only[qiz]at h<;>try(cases h;done)
   case load t a=>
    simp only[sem]at h2;obtain⟨u,j,d⟩:=qBu.1 h2;simp at d;exact d.2.symm
   case lookup t a i ok=>
    simp only[sem]at h2;obtain⟨u,j,d⟩:=qBu.1 h2;simp at d;exact d.2.symm
   case call c=>
    obtain⟨callee,args,l⟩:=c
    cases callee with
    | builtin b=>
     simp only[sem]at h2;simp only at h;unfold zL at h2;split at h2
     . obtain⟨u,j,d⟩:=qBu.1 h2;simp at d;exact d.2.symm
     . simp at h
     . simp at h
     . simp at h
     . simp at h
     cases h2
    |value f=>simp[sem]at h2
    |invoke r m=>simp[sem]at h2
 exact e
def qqt{t u x}(h:∀d,t=some d->x≠.tmp d):ev G (upd env t u) x=ev G env x:=by
 cases t with
 |none=>rfl
 | some d=>
  cases x with
  | tmp n=>
   have:¬n=d:=fun e=>h d rfl (by rw[e])
   simp[ev,upd,this]
  |_=>rfl
def wW{l}(h:∀x∈l,ev G env x=ev G env' x):qbJ G env l=qbJ G env' l:=qCy h
def qcj(D){op}(h:∀x∈op.operands,ev G env x=ev G env' x):sem D G env σ op=sem D G env' σ op:=by
 have j:∀f:Array (Nat×Operand),(∀x∈f.map (·.2),ev G env x=ev G env' x)->(f.toList.map fun p=>(p.1,ev G env p.2))=(f.toList.map fun p=>(p.1,ev G env' p.2)):=fun f o=>
  qCy fun p i=>by
   rw[o p.2 (Array.mem_map.2 ⟨p,by simpa using i,rfl⟩)]
 have g:∀m:Option Operand,(∀x,m=some x->ev G env x=ev G env' x)->m.map (ev G env)=m.map (ev G env'):=by
  intro m i
  cases m with
  |none=>rfl
  |some x=>simp[i x rfl]
 cases op<;>simp only[Op.operands]at h<;>simp only[sem]
 case build t f=>rw[j f fun x d=>h x (by simpa using d)]
 case buildSlice t n f=>rw[j f fun x d=>h x (by simpa using d)]
 case makeFunc fn a b=>
  cases fn<;>simp only;rw[wW (env:=env) (env':=env') (l:=a.toList) (fun x d=>h x (by simp at d;simp[d])),wW (env:=env) (env':=env') (l:=b.toList) (fun x d=>h x (by simp at d;simp[d]))]
 case call c=>
  obtain⟨callee,args,s⟩:=c;cases callee<;>simp only;rw[wW (env:=env) (env':=env') (l:=args.toList) (fun x d=>h x (by simp at d;simp[Call.operands,d]))]
 case slice t x lo hi mx=>
  rw[h x (by simp),g lo (fun y e=>h y (by simp[e])),g hi (fun y e=>h y (by simp[e])),g mx (fun y e=>h y (by simp[e]))]
 case pick c a b=>rw[h c (by simp),h a (by simp),h b (by simp)]
 case store t a b=>rw[h a (by simp),h b (by simp)]
 case binOp op t a b u=>rw[h a (by simp),h b (by simp)]
 case makeSlice t a b=>rw[h a (by simp),h b (by simp)]
 case indexAddr t a b=>rw[h a (by simp),h b (by simp)]
 case index t a b=>rw[h a (by simp),h b (by simp)]
 case lookup t a b ok=>rw[h a (by simp),h b (by simp)]
 case mapUpdate t a b c=>rw[h a (by simp),h b (by simp),h c (by simp)]
 case makeMap t r=>cases r<;>rfl
 case next it b=>cases b<;>first|rfl|simp only[h it (by simp)]
 all_goals first
  |(rw[h _ (by simp)];done)
  |rfl
def yD{t:Option Nat}{u:AV}(h:∀d,t=some d->d∉o.looksAt ops):wM P G ops o (upd env t u) σ v σ'↔wM P G ops o env σ v σ':=by
 have l:∀x∈o.op.operands,ev G (upd env t u) x=ev G env x:=fun x r=>qqt fun d hd A=>h d hd (by
  subst A;exact qB5 _ (List.mem_filterMap.2 ⟨.tmp d,by simpa using r,rfl⟩))
 have C:jA ops (upd env t u) o=jA ops env o:=by
  unfold jA
  cases hg:o.guard with
  |none=>rfl
  | some D=>
   obtain⟨j,b⟩:=D
   cases hj:(ops[j]?).bind (·.dst) with
   |none=>simp[hj]
   | some s=>
    simp only[hj];have:upd env t u s=env s:=by
     cases t with
     |none=>rfl
     | some d=>
      have:¬s=d:=fun e=>h d rfl (by subst e;simp[*,Oper.looksAt])
      simp[upd,this]
    rw[this]
 have B:=qcj (G:=G) (σ:=σ) (Dof P) (op:=o.op) (env:=upd env t u) (env':=env) l;have z:∀f args a,o.op=.call {callee:=.value f,args:=args,argTypes:=a}->ev G (upd env t u) f=ev G env f/\qbJ G (upd env t u) args.toList=qbJ G env args.toList:=by
  intro f args a c;rw[c]at l;simp only[Op.operands,Call.operands]at l;exact⟨l f (by simp),wW fun x r=>l x (by simp at r;simp[r])⟩
 unfold wM OpA;rw[C,B];constructor
 . rintro(h1|⟨h1,h2|⟨f,args,a,g,first,cap,c,i,m⟩⟩)
   . exact .inl h1
   . exact .inr ⟨h1,.inl h2⟩
   . obtain⟨w,y⟩:=z f args a c;rw[w]at i;rw[y]at m;exact .inr ⟨h1,.inr ⟨f,args,a,g,first,cap,c,i,m⟩⟩
 rintro(h1|⟨h1,h2|⟨f,args,a,g,first,cap,c,i,m⟩⟩)
 . exact .inl h1
 . exact .inr ⟨h1,.inl h2⟩
 obtain⟨w,y⟩:=z f args a c;rw[<- w]at i;rw[<- y]at m;exact .inr ⟨h1,.inr ⟨f,args,a,g,first,cap,c,i,m⟩⟩
def qfx{s t u v}(h:∀d,s=some d->t≠some d):upd (upd env s u) t v=upd (upd env t v) s u:=by
 cases s with
 |none=>rfl
 | some d=>
  cases t with
  |none=>rfl
  | some e=>
   have a:e≠d:=fun x=>h d rfl (by rw[x])
   funext i;simp only[upd];by_cases h1:i=e
   . subst h1;simp[a]
   simp[h1]
def qX(mu:Bool)(ac:List Nat)(k:Nat)(op:Op):Nat :=
 match op with
 |.alloc _=>2
 |.box .. =>2
 |.makeMap _ none=>2
 |.call {callee:=.builtin .append,.. }=>if mu then 9 else 3
 |.call {callee:=.value _,.. }=>if ac.contains k then 9 else 1
 |op=>match qiz op with|0=>0|1=>1|_=>9
def qvN(x y:Nat):Bool:=x==0||y==0||(x==1&&(y==1||y==2||y==3))||(x==3&&(y==1||y==2))||(x==2&&y==3)
def qde(ops:Array Oper)(x y:Oper)(b a:Nat):Bool:=x.apart ops y&&qvN b a
def qia{D}{σ τ:St}{t:Nat}{a u:AV}(c:∀(b:Nat) (x:Blk),σ.H[b]?=some x->τ.H[b]?=some x)(h:wZ D σ t a=some u):wZ D τ t a=some u:=by
 unfold wZ at h⊢
 cases hD:D t with
 |none=>simp[hD]at h
 | some i=>
  cases a<;>simp only[hD]at h⊢<;>first|exact h|(cases h;done)|skip
  rename_i b off
  cases hb:σ.H[b]? with
  |none=>simp[hb]at h
  |some x=>rw[c _ _ hb];rwa[hb]at h
def qcQ{D}{σ τ:St}{t}{m k u:AV}{ok:Bool}(e:∀(b:Nat) (x:Blk),σ.H[b]?=some x->τ.H[b]?=some x)(h:zF D σ t m k ok=some u):zF D τ t m k ok=some u:=by
 unfold zF at h⊢
 cases hD:D t with
 |none=>simp[hD]at h
 | some i=>
  simp only[hD]at h⊢;cases hd:i.d<;>simp only[hd]at h⊢<;>first|(cases h;done)|skip
  rename_i c f;by_cases a:zI D c k=true
  . rw[if_pos a]at h⊢;cases m<;>simp only at h⊢<;>first|exact h|(cases h;done)|skip
    rename_i b
    cases hb:σ.H[b]? with
    |none=>simp[hb]at h
    |some x=>rw[e _ _ hb];rwa[hb]at h
  rw[if_neg a]at h;cases h
def qkS{D}{σ τ:St}{t:Nat}{x u:AV}(a:∀(b:Nat) (x:Blk),σ.H[b]?=some x->τ.H[b]?=some x)(h:Yk D σ t x=some u):Yk D τ t x=some u:=by
 unfold Yk at h⊢
 cases hD:D t with
 |none=>simp[hD]at h
 | some i=>
  simp only[hD]at h⊢;cases x<;>cases hd:i.d<;>simp only[hd]at h⊢<;>first|exact h|(cases h;done)|skip
  rename_i b _ _
  cases hb:σ.H[b]? with
  |none=>simp[hb]at h
  |some x=>rw[a _ _ hb];rwa[hb]at h
def qAu{D σ a vs v σ'}(h:zL D σ .append a vs=some (v,σ')):∃t s x,a=[t,t]/\vs=[s,x]/\qm D σ t s x=some (v,σ'):=by
 match a,vs,h with
 | [t,u],[s,x],h=>
  simp only[zL]at h;split at h
  . rename_i b;subst b;exact⟨_,s,x,rfl,rfl,h⟩
  cases h
 |[],_,h=>simp[zL]at h
 |[_],_,h=>simp[zL]at h
 |_::_::_::_,_,h=>simp[zL]at h
 |[_,_],[],h=>simp[zL]at h
 |[_,_],[_],h=>simp[zL]at h
 |[_,_],_::_::_::_,h=>simp[zL]at h
def qAr{D σ a vs v σ'}(h:zL D σ .len a vs=some (v,σ')):∃t x,a=[t]/\vs=[x]/\Yk D σ t x=some v:=by
 cases a with
 |nil=>simp[zL]at h
 | cons t r=>
  cases r with
  |cons _ _=>simp[zL]at h
  | nil=>
   cases vs with
   |nil=>simp[zL]at h
   | cons x s=>
    cases s with
    |cons _ _=>simp[zL]at h
    | nil=>
     simp only[zL]at h;obtain⟨u,c,b⟩:=qBu.1 h;simp at b;obtain⟨rfl,_⟩:=b;exact⟨t,x,rfl,rfl,c⟩
def KP(h:qiz o.op=1)(w:wM P G ops o env σ v σ'):σ'=σ/\∀τ:St,(∀(b:Nat) (x:Blk),σ.H[b]?=some x->τ.H[b]?=some x)->wM P G ops o env τ v τ:=by
 have e:=qAs h w;refine⟨e,fun τ l=>?_⟩;subst e;rcases w with⟨h1,rfl,_⟩|⟨h1,h2⟩
 . exact .inl ⟨h1,rfl,rfl⟩
 refine .inr ⟨h1,?_⟩;rcases h2 with h2|⟨f,args,s,g,first,cap,B,A,C,_⟩
 . left;obtain⟨dst,op,type,pos,after,guard⟩:=o;simp only at h h2⊢;cases op<;>simp only[qiz]at h<;>try(cases h;done)
   case load t a=>
    simp only[sem]at h2⊢;obtain⟨u,j,d⟩:=qBu.1 h2;simp at d;obtain⟨rfl,_⟩:=d;rw[qia l j];rfl
   case lookup t a i ok=>
    simp only[sem]at h2⊢;obtain⟨u,j,d⟩:=qBu.1 h2;simp at d;obtain⟨rfl,_⟩:=d;rw[qcQ l j];rfl
   case call c=>
    obtain⟨callee,args,s⟩:=c
    cases callee with
    | builtin b=>
     simp only at h;simp only[sem]at h2⊢;cases b<;>simp only at h<;>try(cases h;done)
     obtain⟨t,x,y,z,j⟩:=qAr h2;rw[y,z];simp only[zL,qkS l j];rfl
    |value f=>simp[sem]at h2
    |invoke r m=>simp[sem]at h2
 exact .inr ⟨f,args,s,g,first,cap,B,A,C.mono l,rfl⟩
def qa5(h:(∃e,o.op=.alloc e)\/(∃e x,o.op=.box e x)\/(∃t,o.op=.makeMap t none))(l:wM P G ops o env σ v σ'):
 (∀(b:Nat) (x:Blk),σ.H[b]?=some x->σ'.H[b]?=some x)/\σ'.T=σ.T/\∀T,wM P G ops o env ⟨σ.H,T⟩ v ⟨σ'.H,T⟩:=by
 have push:∀(b:Blk) (i:Nat) (x:Blk),σ.H[i]?=some x->(σ.H++[b])[i]?=some x:=fun b i x hi=>by
  rw[qBv (qBk.1 hi).1];exact hi
 rcases l with⟨h1,rfl,rfl⟩|⟨h1,h2⟩
 . exact⟨fun _ _ e=>e,rfl,fun T=>.inl ⟨h1,rfl,rfl⟩⟩
 rcases h2 with h2|⟨f,args,s,g,first,cap,j,r,u,_⟩
 . obtain⟨dst,op,type,pos,after,guard⟩:=o;simp only at h h2;rcases h with⟨e,rfl⟩|⟨e,x,rfl⟩|⟨t,rfl⟩
   . simp only[sem]at h2;split at h2
     . rename_i i w;split at h2
       . rename_i m;cases h2;exact⟨push _,rfl,fun T=>.inr ⟨h1,.inl (by simp[*,sem,St.push])⟩⟩
       cases h2
     cases h2
   . simp only[sem]at h2;obtain⟨c,d,a⟩:=qBu.1 h2;simp at a;obtain⟨rfl,rfl⟩:=a;exact⟨push _,rfl,fun T=>.inr ⟨h1,.inl (by simp[sem,d,St.push])⟩⟩
   simp only[sem,qBI,qBK]at h2;obtain⟨rfl,rfl⟩:=h2;exact⟨push _,rfl,fun T=>.inr ⟨h1,.inl (by simp[sem,St.push])⟩⟩
 rw[j]at h;rcases h with⟨e,h⟩|⟨e,x,h⟩|⟨t,h⟩<;>cases h
def qbx{args c}(h:o.op=.call {callee:=.builtin .append,args:=args,argTypes:=c})(y:wM P G ops o env σ v σ'):
 σ'.H=σ.H/\∀H,wM P G ops o env ⟨H,σ.T⟩ v ⟨H,σ'.T⟩:=by
 rcases y with⟨h1,rfl,rfl⟩|⟨h1,h2⟩
 . exact⟨rfl,fun H=>.inl ⟨h1,rfl,rfl⟩⟩
 rcases h2 with h2|⟨f,args',B,g,first,cap,d,C,E,_⟩
 . obtain⟨dst,op,type,pos,after,guard⟩:=o;simp only at h;subst h;simp at h2;have key:σ'.H=σ.H/\∀H,zL (Dof P) ⟨H,σ.T⟩ .append c.toList (qbJ G env args.toList)=some (v,⟨H,σ'.T⟩):=by
    obtain⟨t,s,x,l,m,a⟩:=qAu h2;rw[l,m];simp only[zL,if_true];unfold qm at a⊢;split at a
    case h_2=>cases a
    rename_i i sz rows tok A D F z
    try simp
    split at a
    case h_2=>cases a
    rename_i e hd;split at a
    case h_2=>cases a
    rename_i j r
    try simp only[r]
    split at a
    case isFalse=>cases a
    rename_i u
    try simp only[if_pos u]
    split at a
    . rename_i b;cases a;exact⟨rfl,fun H=>by rw[if_pos b]⟩
    rename_i b;split at a
    . cases a
    . cases a;exact⟨rfl,fun H=>by rw[if_neg b]⟩
    . cases a;exact⟨rfl,fun H=>by rw[if_neg b]⟩
    split at a
    . rename_i w;cases a;exact⟨rfl,fun H=>by rw[if_neg b,if_pos w]⟩
    cases a
   exact⟨key.1,fun H=>.inr ⟨h1,.inl (by simp;exact key.2 H)⟩⟩
 rw[h]at d;cases d
def qlN{mu ac k op}:
 (qX mu ac k op=0->qiz op=0)/\(qX mu ac k op=1->qiz op=1)/\(qX mu ac k op=2->(∃e,op=.alloc e)\/(∃e x,op=.box e x)\/(∃t,op=.makeMap t none)) /\
   (qX mu ac k op=3->∃args a,op=.call {callee:=.builtin .append,args:=args,argTypes:=a}):=by
 unfold qX;split
 . simp
 . simp
 . simp
 . cases mu<;>simp
 . split<;>simp[qiz]
 rename_i op h1 h2 d c b;split
 . rename_i h;simp[h]
 . rename_i h;simp[h]
 simp
def qyn{g f o r y l mu ac i j}(F:qde ops g f (qX mu ac i g.op) (qX mu ac j f.op)=true)(hi:wM P G ops g env σ o y)(L:wM P G ops f (upd env g.dst o) y r l):
 ∃τ,wM P G ops f env σ r τ/\wM P G ops g (upd env f.dst r) τ o l/\upd (upd env f.dst r) g.dst o=upd (upd env g.dst o) f.dst r:=by
 simp only[qde,qvN,qBq,qDo,beq_iff_eq]at F;obtain⟨M,d⟩:=F;obtain⟨O,R,s⟩:=Oper.apart_spec M;have h:=(yD O).1 L;have t:upd (upd env f.dst r) g.dst o=upd (upd env g.dst o) f.dst r:=(qfx R).symm;obtain⟨S,N,Q,U⟩:=qlN (mu:=mu) (ac:=ac) (k:=i) (op:=g.op);obtain⟨V,D,C,E⟩:=qlN (mu:=mu) (ac:=ac) (k:=j) (op:=f.op);rcases d with(((d|d)|⟨d,a⟩)|⟨d,a⟩)|⟨d,a⟩
 . obtain⟨rfl,c⟩:=qzo (S d) hi;exact⟨l,h,(yD s).2 (c l),t⟩
 . obtain⟨rfl,c⟩:=qzo (V d) h;exact⟨σ,c σ,(yD s).2 hi,t⟩
 . obtain⟨rfl,c⟩:=KP (N d) hi;have K:∀(b:Nat) (x:Blk),y.H[b]?=some x->l.H[b]?=some x:=by
    rcases a with(a|a)|a
    . obtain⟨rfl,_⟩:=KP (D a) h;exact fun _ _ e=>e
    . exact(qa5 (C a) h).1
    obtain⟨args,I,w⟩:=E a;rw[(qbx w h).1];exact fun _ _ e=>e
   exact⟨l,h,(yD s).2 (c l K),t⟩
 . obtain⟨args,I,w⟩:=U d;obtain⟨u,c⟩:=qbx w hi;obtain⟨H,T⟩:=σ;obtain⟨z,J⟩:=y;simp only at u c;subst u;rcases a with a|a
   . obtain⟨rfl,m⟩:=KP (D a) h;exact⟨⟨z,T⟩,m _ (fun _ _ e=>e),(yD s).2 (c z),t⟩
   obtain⟨_,v,m⟩:=qa5 (C a) h;obtain⟨A,B⟩:=l;simp only at v m;subst v;exact⟨⟨A,T⟩,m T,(yD s).2 (c A),t⟩
 obtain⟨args,I,w⟩:=E a;obtain⟨u,m⟩:=qbx w h;obtain⟨_,v,c⟩:=qa5 (Q d) hi;obtain⟨H,T⟩:=σ;obtain⟨z,J⟩:=y;obtain⟨A,B⟩:=l;simp only at u v c m;subst u;subst v;exact⟨⟨H,B⟩,m H,(yD s).2 (c B),t⟩
def YL(P:Program)(G:Glo)(ops:Array Oper)(mu:Bool)(ac:List Nat)(R:Env->St->Prop):Nat->Array Bool->Env->St->Prop
 |0,listed,env,σ=>Region.ready .any ops listed=[]/\R env σ
 | fuel+1,listed,env,σ=>(Region.ready .any ops listed=[]->R env σ) /\
  ∀ i∈Region.ready .any ops listed,∃o,ops[i]?=some o /\
   ((∃v σ',wM P G ops o env σ v σ'/\YL P G ops mu ac R fuel (listed.setIfInBounds i true) (upd env o.dst v) σ') \/
    (qX mu ac i o.op=9/\jA ops env o=some true/\jO P G mu false o.op env σ (fun v σ'=>YL P G ops mu ac R fuel (listed.setIfInBounds i true) (upd env o.dst v) σ')))
def qit(ops:Array Oper)(listed:Array Bool)(i:Nat)(dp:List Nat):Bool :=
 dp.all fun j=>!listed.getD j true&&(match ops[j]? with
  |some a=>a.after.any fun e=>Region.binds .any e&&(e.on==i||dp.contains e.on)
  |none=>true)
def qky{listed i j dp}(hd:qit ops listed i dp=true)(hi:listed.getD i true=false)(h:j∈Region.ready .any ops listed):j∉dp:=by
 intro g;have h1:=qBx.1 hd j g;simp at h1;obtain⟨r,o,l,m⟩:=mem_ready.1 h;rw[l]at h1;obtain⟨e,f,b⟩:=Array.any_eq_true'.1 h1.2;simp at b;have c:=m e f b.1;have d:∀k,listed.getD k true=false->listed.getD k false=true->False:=by
  intro k h2 a;rcases qET k listed.size with h'|h'
  . simp[h']at h2 a;rw[h2]at a;cases a
  simp[Array.getElem?_eq_none h']at a
 rcases b.2 with h2|h2
 . rw[h2]at c;exact d i hi c
 have a:=qBx.1 hd e.on (by simpa using h2);simp only[qBq,qC5]at a;exact d _ a.1 c
def qdu{listed i j dp}(hd:qit ops listed i dp=true)(c:j∉dp):qit ops (listed.setIfInBounds j true) i dp=true:=by
 refine qBx.2 fun k a=>?_
 have h1:=qBx.1 hd k a;simp only[qBq,qC5]at h1⊢;have b:j≠k:=fun e=>c (e▸a)
 exact⟨by rw[getD_set_ne true b];exact h1.1,h1.2⟩
def qey{o:Oper}{d:Nat}(h:d∉o.looksAt ops):.tmp d∉o.op.operands.toList:=fun a=>h (qB5 _ (List.mem_filterMap.2 ⟨.tmp d,a,rfl⟩))
def qbT{t:Option Nat}{u:AV}(h:∀d,t=some d->d∉o.looksAt ops):jA ops (upd env t u) o=jA ops env o:=by
 unfold jA
 cases hg:o.guard with
 |none=>rfl
 | some a=>
  obtain⟨j,b⟩:=a
  cases hj:(ops[j]?).bind (·.dst) with
  |none=>simp[hj]
  | some s=>
   simp only[hj];have:upd env t u s=env s:=by
    cases t with
    |none=>rfl
    | some d=>
     have:¬s=d:=fun e=>h d rfl (by subst e;simp[*,Oper.looksAt])
     simp[upd,this]
   rw[this]
def qhI(D){mu op}(h:∀x∈op.operands,ev G env x=ev G env' x):qck D G mu env σ op=qck D G mu env' σ op:=by
 cases op<;>simp only[Op.operands]at h<;>simp only[qck]
 case makeSlice t x y=>rw[h x (by simp),h y (by simp)]
 case binOp o t x y u=>rw[h x (by simp),h y (by simp)]
 case call c=>
  obtain⟨callee,args,e⟩:=c;cases callee<;>simp only;rename_i b;have a:∀x∈args.toList,ev G env x=ev G env' x:=fun x d=>h x (by simp at d;simp[Call.operands,d])
  generalize e.toList=f;generalize args.toList=al at a;split
  . cases mu
    . rfl
    . simp only[a _ (qDl),a _ (qCE _ (qDl))]
  . simp only[a _ (qDl)]
  . simp only[a _ (qDl),a _ (qCE _ (qDl))]
  rfl
variable {G:Glo}
def qmQ{mu op t u R}(h:∀d,t=some d->.tmp d∉op.operands.toList):jO P G mu false op (upd env t u) σ R↔jO P G mu false op env σ R:=by
 have a:∀x∈op.operands,ev G (upd env t u) x=ev G env x:=fun x b=>qqt fun d hd g=>h d hd (by subst g;simpa using b)
 by_cases c:∃f args e,op=.call {callee:=.value f,args:=args,argTypes:=e}
 . obtain⟨f,args,e,rfl⟩:=c;simp only[Op.operands,Call.operands]at a;simp only[jO];rw[a f (by simp),wW (l:=args.toList) (fun x b=>a x (by simp at b;simp[b]))]
 rw[jO.plain c,jO.plain c,qhI (Dof P) a,qcj (Dof P) a]
variable {mu:Bool}{ac:List Nat}
def YL.first{R i a l dp}(hi:ops[i]?=some a):∀(fuel) (listed) (env) (σ g),
 qit ops listed i dp=true ->
 (∀(j) (c),ops[j]?=some c->j≠i->listed.getD j true=false->j∉dp->qde ops a c (qX mu ac i a.op) (qX mu ac j c.op)=true/\(qX mu ac j c.op≠9\/qX mu ac i a.op=0)) ->
 i∈Region.ready .any ops listed->wM P G ops a env σ l g->YL P G ops mu ac R fuel (listed.setIfInBounds i true) (upd env a.dst l) g->YL P G ops mu ac R (fuel+1) listed env σ:=by
 intro fuel
 induction fuel with
 | zero=>
  intro listed env σ g hd _ f o H;refine⟨fun h=>(by rw[h]at f;cases f),fun j m=>?_⟩;by_cases b:j=i
  . subst b;exact⟨a,hi,.inl ⟨l,g,o,H⟩⟩
  have:=ready_mono m b;rw[H.1]at this;cases this
 | succ fuel ih=>
  intro listed env σ g hd y f o H;refine⟨fun h=>(by rw[h]at f;cases f),fun j m=>?_⟩;by_cases b:j=i
  . subst b;exact⟨a,hi,.inl ⟨l,g,o,H⟩⟩
  obtain⟨c,r,U⟩:=H.2 j (ready_mono m b);obtain⟨B,a0,z,Z⟩:=mem_ready.1 m;rw[r]at z;cases z;have w:=qky hd (mem_ready.1 f).1 m;obtain⟨x,J⟩:=y j c r b B w;have rest:∀(k:Nat) (ok:Oper),ops[k]?=some ok->k≠i->(listed.setIfInBounds j true).getD k true=false->k∉dp->qde ops a ok (qX mu ac i a.op) (qX mu ac k ok.op)=true/\(qX mu ac k ok.op≠9\/qX mu ac i a.op=0):=by
   intro k ok N F V Q;refine y k ok N F ?_ Q;by_cases D:j=k
   . subst D;exact B
   rwa[getD_set_ne true D]at V
  rcases U with⟨X,O,W,A⟩|⟨E,Y,A⟩
  . obtain⟨τ,S,I,K⟩:=qyn x o W;refine⟨c,r,.inl ⟨X,τ,S,ih (listed.setIfInBounds j true) _ τ O (qdu hd w) rest (ready_mono f (Ne.symm b)) I ?_⟩⟩
    rwa[qEU _ _ b,K]
  have h0:=J.resolve_left (fun h=>h E);simp only[qde,qBq]at x;obtain⟨C,T,M⟩:=Oper.apart_spec x.1;obtain⟨rfl,L⟩:=qzo ((qlN (mu:=mu) (ac:=ac) (k:=i) (op:=a.op)).1 h0) o;refine⟨c,r,.inr ⟨E,by rw[<- qbT (t:=a.dst) (u:=l) C];exact Y,?_⟩⟩;refine((qmQ (t:=a.dst) (u:=l) (fun d hd=>qey (C d hd))).1 A).imp fun v σ' hv=>?_
  refine ih (listed.setIfInBounds j true) _ σ' σ' (qdu hd w) rest (ready_mono f (Ne.symm b)) ((yD M).2 (L σ')) ?_
  rwa[qEU _ _ b,qfx (s:=c.dst) (t:=a.dst) (fun d hd e=>T d e hd)]
def YL.solo{R i a dp}(hi:ops[i]?=some a){fuel listed env σ}(hd:qit ops listed i dp=true)
 (l:∀(j) (c),ops[j]?=some c->j≠i->listed.getD j true=false->j∈dp) (b:i∈Region.ready .any ops listed)
 (H:(∃v σ',wM P G ops a env σ v σ'/\YL P G ops mu ac R fuel (listed.setIfInBounds i true) (upd env a.dst v) σ') \/
   (qX mu ac i a.op=9/\jA ops env a=some true/\jO P G mu false a.op env σ (fun v σ'=>YL P G ops mu ac R fuel (listed.setIfInBounds i true) (upd env a.dst v) σ'))):
 YL P G ops mu ac R (fuel+1) listed env σ:=by
 refine⟨fun h=>(by rw[h]at b;cases b),fun j e=>?_⟩;by_cases d:j=i
 . subst d;exact⟨a,hi,H⟩
 obtain⟨g,c,f,_⟩:=mem_ready.1 e;exact absurd (l j c f d g) (qky hd (mem_ready.1 b).1 e)
def Za(x:Qf N ops=true){R w0 ro0 Q}:∀(fuel) (listed) (env) (σ) (K) (a) (w),
 (∀K' env' σ' m w',K.le K'->WRel G w0 ro0 K' σ' w'->ERel K' N env' m->m.defers=a.defers->R env' σ'->Q .normal m w') ->
 (∀c K' σ' m w',K.le K'->WRel G w0 ro0 K' σ' w'->m.defers=a.defers->G.X c σ'->Q (.panic c) m w')->WRel G w0 ro0 K σ w->ERel K N env a->YL P G ops mu ac R fuel listed env σ->wpAny P .any ops Q fuel listed a w
 |0,listed,env,σ,K,a,w,t,_,s,r,h=>⟨h.1,t K env σ a w (qFX K) s r rfl h.2⟩
 | fuel+1,listed,env,σ,K,a,w,t,B,s,r,h=>by
  refine⟨fun h0=>t K env σ a w (qFX K) s r rfl (h.1 h0),fun i hi=>?_⟩;obtain⟨o,E,H⟩:=h.2 i hi;have L:o∈ops.toList:=qBl (i:=i) (by simpa using E);have hd:=ZX x L;have D:=Zv x o;unfold wpOp;simp only[E];rcases H with⟨v,σ',M,H⟩|⟨_,z,H⟩
  . rcases M with⟨z,rfl,rfl⟩|⟨z,J⟩
    . rw[if_neg (by simp[y0 r D z])];exact Za x fuel _ _ _ K _ w (fun b A f j l d e y g=>t b A f j l d e y (g.trans qFx)) (fun c b f j l d e g=>B c b f j l d e (g.trans qFx)) s (r.put hd (by simp only[qi];exact⟨#[],rfl,by simp[qj]⟩)) H
    . rw[if_pos (y0 r D z)];refine .inl (qsa s r hd J fun K' m w' h1 h2 C u=>?_);exact Za x fuel _ _ _ K' m w' (fun b A f j l d e y g=>t b A f j l (qFY h1 d) e y (g.trans u)) (fun c b f j l d e g=>B c b f j l (qFY h1 d) e (g.trans u)) h2 C H
  rw[if_pos (y0 r D z)];refine .inl (qkq s r hd H (fun v σ' K' m w' I h1 h2 C u=>?_) fun c σ' K' w' F h1 h2=>B c K' σ' _ w' h1 h2 rfl F);exact Za x fuel _ _ _ K' m w' (fun b A f j l d e y g=>t b A f j l (qFY h1 d) e y (g.trans u)) (fun c b f j l d e g=>B c b f j l (qFY h1 d) e (g.trans u)) h2 C I
end
mutual
inductive Sch where
 |done
 |step (k:Nat) (dp:List Nat) (s:Sch)
 |fork (a:Alts)
inductive Alts where
 |nil
 |cons (k:Nat) (s:Sch) (r:Alts)
end
def qcd(ops:Array Oper)(mu:Bool)(ac:List Nat)(listed:Array Bool)(k:Nat)(dp:List Nat):Bool :=
 (Region.ready .any ops listed).contains k&&qit ops listed k dp&&(match ops[k]? with
   | some ok=>(List.range ops.size).all fun j=>j==k||listed.getD j true||dp.contains j||(qX mu ac k ok.op != 9&&(match ops[j]? with
    |some a=>qde ops ok a (qX mu ac k ok.op) (qX mu ac j a.op)&&(qX mu ac j a.op != 9||qX mu ac k ok.op==0)
    |none=>true))
   |none=>false)
mutual
def qej(ops:Array Oper)(mu:Bool)(ac:List Nat):Sch->Array Bool->Bool
 |.done,listed=>(Region.ready .any ops listed).isEmpty
 |.step k dp s,listed=>qcd ops mu ac listed k dp&&qej ops mu ac s (listed.setIfInBounds k true)
 |.fork a,listed=>!(Region.ready .any ops listed).isEmpty&&qdH ops mu ac a listed (Region.ready .any ops listed)
def qdH(ops:Array Oper)(mu:Bool)(ac:List Nat):Alts->Array Bool->List Nat->Bool
 |.nil,_,a=>a.isEmpty
 |.cons k s r,listed,a=>a.contains k&&qej ops mu ac s (listed.setIfInBounds k true)&&qdH ops mu ac r listed (a.filter (· != k))
end
mutual
def Vt:Sch->Nat
 |.done=>0
 |.step _ _ s=>Vt s+1
 |.fork a=>qbA a+1
def qbA:Alts->Nat
 |.nil=>0
 |.cons _ s r=>max (Vt s) (qbA r)
end
def qz8(ops:Array Oper)(k:Nat):List Nat :=
 (List.range ops.size).foldl (fun dp j=>match ops[j]? with
   |some a=>if a.after.any (fun e=>Region.binds .any e&&(e.on==k||dp.contains e.on)) then j::dp else dp
   |none=>dp) []
def qvt(ops:Array Oper)(mu:Bool)(ac:List Nat):Nat->Nat->Array Bool->Bool
 |0,_,listed=>(Region.ready .any ops listed).isEmpty
 |fuel+1,k,listed=>qcd ops mu ac listed k (qz8 ops k)&&qvt ops mu ac fuel (k+1) (listed.setIfInBounds k true)
def qqz(ops:Array Oper)(mu lw:Bool):Bool:=qvt ops mu (if lw then [ops.size-1] else []) ops.size 0 (Array.replicate ops.size false)
section
structure Opts where
 mu:Bool
 fk:List (Nat×Sch×List Nat)
 lw:List Nat
 bw:List (Nat×Nat):=[]
def o0:Opts:=⟨false,[],[],[]⟩
def jf(N:Nat):Code->Bool
 |.skip|.exit _=>true
 |.region _ ops false=>Qf N ops
 |.seq x y=>jf N x&&jf N y
 |.cond _ x y=>jf N x&&jf N y
 |.block _ c=>jf N c
 |_=>false
def jV(N:Nat)(o:Opts):Code->Bool
 |.skip|.ret|.exit _=>true
 | .region id ops d=>Qf N ops&&(!d||(match o.fk.lookup id with
  |some (s,ac)=>qej ops o.mu ac s (Array.replicate ops.size false)&&decide (Vt s<=ops.size)
  |none=>qqz ops o.mu (o.lw.contains id)))
 |.seq x y=>jV N o x&&jV N o y
 |.cond _ x y=>jV N o x&&jV N o y
 |.block _ c=>jV N o c
 |.loop c=>jV N o c
 | .rangeFunc _ a x y=>(match a.toList with
  |[p,q]=>decide (p<N)&&decide (q<N)
  |[p]=>decide (p<N)
  |_=>false)&&jf N x&&jf N y
 |.scope c=>jV N o c
 |.label _=>true
 |_=>false
def qhq(c:Bool)(A B:Prop):Prop:=(c=true->A)/\(c=false->B)
def vcG(P:Program)(G:Glo)(mu d:Bool)(ops:Array Oper)(o:Oper)(env:Env)(σ:St)(k:Env->AV->St->Prop):Prop :=
 match o.guard with
 |none=>jO P G mu d o.op env σ (k env)
 | some (j,b)=>match(ops[j]?).bind (·.dst) with
  | some t=>match env t with
   |.bool c=>qhq (c==b) (jO P G mu d o.op (upd env (some t) (.bool b)) σ (k (upd env (some t) (.bool b)))) (k (upd env (some t) (.bool (!b))) (.tup []) σ)
   |.tup []=>k env (.tup []) σ
   |_=>False
  |none=>k env (.tup []) σ
def qeH:Op->Bool
 |.call {callee:=.value _,.. }=>true
 |_=>false
def qsI{α:Type}:List α->Bool
 |[]=>true
 |_=>false
def vcR(P:Program)(G:Glo)(mu:Bool)(ops:Array Oper)(d lw:Bool):List Oper->Env->St->(Env->St->Prop)->Prop
 |[],env,σ,Q=>Q env σ
 |o::rest,env,σ,Q=>vcG P G mu (d&&!(lw&&qsI rest&&qeH o.op)) ops o env σ (fun env v σ'=>vcR P G mu ops d lw rest (upd env o.dst v) σ' Q)
mutual
def vcS(P:Program)(G:Glo)(mu:Bool)(ac:List Nat)(ops:Array Oper):Sch->Env->St->(Env->St->Prop)->Prop
 |.done,env,σ,Q=>Q env σ
 | .step k _ s,env,σ,Q=>match ops[k]? with
  |some o=>vcG P G mu (qX mu ac k o.op != 9) ops o env σ (fun env v σ'=>vcS P G mu ac ops s (upd env o.dst v) σ' Q)
  |none=>False
 |.fork a,env,σ,Q=>v7 P G mu ac ops a env σ Q
def v7(P:Program)(G:Glo)(mu:Bool)(ac:List Nat)(ops:Array Oper):Alts->Env->St->(Env->St->Prop)->Prop
 |.nil,_,_,_=>True
 | .cons k s r,env,σ,Q=>(match ops[k]? with
  |some o=>vcG P G mu (qX mu ac k o.op != 9) ops o env σ (fun env v σ'=>vcS P G mu ac ops s (upd env o.dst v) σ' Q)
  |none=>False)/\v7 P G mu ac ops r env σ Q
end
abbrev FR(ro:Option Nat):Fence:={Fence.wide with round:=ro}
def qfw{env t v}(h:env t=v):upd env (some t) v=env:=by
 funext i;simp only[upd];split
 . rename_i e;rw[e,h]
 rfl
section
variable {P:Program}{G:Glo}{N:Nat}{env:Env}{σ σ':St}{w0:World}{ro0:Nat->Nat->Option Value}{K:Kn}{a:Act}{w:World}{ops:Array Oper}{o:Oper}{v:AV}{mu d:Bool}{ac:List Nat}
def wz{k}(h:vcG P G mu d ops o env σ k):(jA ops env o=some false/\k env (.tup []) σ)\/(jA ops env o=some true/\jO P G mu d o.op env σ (k env)):=by
 unfold vcG at h;split at h
 . rename_i f;exact .inr ⟨by simp[jA,f],h⟩
 rename_i j b f;split at h
 . rename_i t g;split at h
   . rename_i c a;by_cases e:c=b
     . have:=h.1 (by simp[e]);rw[e]at a;rw[qfw a]at this;exact .inr ⟨by simp[*,jA],this⟩
     have i:c = !b:=(by cases c<;>cases b<;>simp_all);have:=h.2 (by simp[e]);rw[i]at a;rw[qfw a]at this;exact .inl ⟨by simp[*,jA],this⟩
   . rename_i a;exact .inl ⟨by simp[*,jA],h⟩
   exact h.elim
 rename_i g;exact .inl ⟨by simp[*,jA],h⟩
def qbU(z:Qf N ops=true){lw Q}:∀(l) (env) (σ) (K) (a) (w),(∀o∈l,o∈ops.toList)->vcR P G mu ops false lw l env σ Q->WRel G w0 ro0 K σ w->ERel K N env a ->
 ∀{Q':Exit->Act->World->Prop},(∀K' env' σ' b w',K.le K'->WRel G w0 ro0 K' σ' w'->ERel K' N env' b->b.defers=a.defers->Q env' σ'->Q' .normal b w') ->
 (∀c K' σ' b w',K.le K'->WRel G w0 ro0 K' σ' w'->b.defers=a.defers->G.X c σ'->Q' (.panic c) b w')->wpList P ops Q' l a w
 |[],env,σ,K,a,w,_,h,i,d,Q',s,_=>s K env σ a w (qFX K) i d rfl h
 | o::rest,env,σ,K,a,w,E,h,i,d,Q',s,I=>by
  have hd:=ZX z (E o (by simp));have F:=Zv z o;have J:∀x∈rest,x∈ops.toList:=fun x m=>E x (by simp[m])
  have C:∀(v) (σ') (f) (e) (j),vcR P G mu ops false lw rest (upd env o.dst v) σ' Q->K.le f->WRel G w0 ro0 f σ' j->ERel f N (upd env o.dst v) e->e.defers=a.defers->wpList P ops Q' rest e j :=
   fun v σ' f e j B D h1 h2 g=>qbU z rest _ σ' f e j J B h1 h2 (fun K' env' r b w' t A M u=>s K' env' r b w' (qFY D t) A M (u.trans g)) fun c K' r b w' t A u=>I c K' r b w' (qFY D t) A (u.trans g)
  simp only[vcR,qDy]at h;unfold wpList;rcases wz h with⟨y,h⟩|⟨y,h⟩
  . have:=y0 d F y;rw[if_neg (by simp[this])];exact C _ σ K _ w h (qFX K) i (d.put hd (by simp only[qi];exact⟨#[],rfl,by simp[qj]⟩)) qFx
  have:=y0 d F y;rw[if_pos this];exact .inl (qkq i d hd h (fun v σ' K' b w' B h1 h2 L g=>C v σ' K' b w' B h1 h2 L g) fun c σ' K' w' m h1 h2=>I c K' σ' _ w' h1 h2 rfl m)
def qkp(x:G.NoX){ro n}(r:WRel G w0 ro0 K σ w)(b:ERel K N env a)(hd:∀d,o.dst=some d->d<N){R}(h:jO P G mu false o.op env σ R){next Q}
 (s:∀v v' σ' K' w',R v σ'->K.le K'->WRel G w0 ro0 K' σ' w'->ERel K' N (upd env o.dst v) (a.put o.dst v')->next (a.put o.dst v') w'):o.wpIn (FR ro) n P a w next Q:=by
 have D:∀c,o.op≠.defer c:=by
  intro c e;rw[e]at h;simp[jO,vcX,qeu,qck,sem]at h
 refine⟨fun _ _=>trivial,?_⟩;rw[Oper.semAt_eq _ _ _ D];have did:∀v σ',R v σ'->Did P G w0 ro0 K w (execOp a.eval o) v σ'->o.uponIn (FR ro) n P a next Q ((execOp a.eval o).run P w):=by
  intro v σ' m u;obtain⟨v',w',K',j,h1,h2,i⟩:=u;rcases j with j|⟨j,rfl⟩
  . rw[j];exact s v v' σ' K' w' m h1 h2 ((b.mono h1).put hd i)
  rw[j];exact s v _ σ' K' w' m h1 h2 ((b.mono h1).put hd i)
 unfold jO at h;split at h
 . rename_i f args I y;split at h
   . rename_i g first cap C
     have t:=h;obtain⟨vs,m,A⟩:=WB r b y C t.1;rw[m,Oper.uponIn_enter];refine⟨fun e=>by simp[Fence.wide]at e,?_⟩;refine CallsIn.mono (F:=FR ro) (show CallsIn (FR ro) (n-1) P g vs w _ from(callsIn_wide (n:=n-1)).2 (t.2 w0 ro0 K w vs r A)) ?_;rintro e w' (⟨v',v,σ',K',rfl,h1,h2,i,z⟩|⟨c,σ',K',rfl,h1,h2,i⟩)
     . exact s v v' σ' K' w' z h1 h2 ((b.mono h1).put hd i)
     exact(x c σ' i).elim
   exact h.elim
 simp only[vcX,qeu]at h;split at h
 . rename_i l B;obtain⟨v,σ',h1,h2⟩:=Vs r b o B;exact did v σ' (h v σ' h1) h2
 split at h
 . rename_i v σ' E;exact did v σ' h (KD r b o E)
 exact h.elim
def Ki(y:G.NoX)(s:Qf N ops=true){ro n lw Q more}:∀(l) (env) (σ) (K) (a) (w),(∀o∈l,o∈ops.toList)->vcR P G mu ops false lw l env σ Q->WRel G w0 ro0 K σ w->ERel K N env a ->
 ∀{Q':Exit->Act->World->Prop},(∀K' env' σ' c w',K.le K'->WRel G w0 ro0 K' σ' w'->ERel K' N env' c->c.defers=a.defers->(∀t,(∀o∈l,o.dst≠some t)->c.tmps.getD t undef=a.tmps.getD t undef)->Q env' σ'->wpListIn (FR ro) n P ops Q' more c w')->wpListIn (FR ro) n P ops Q' (l++more) a w
 |[],env,σ,K,a,w,_,h,g,b,Q',m=>m K env σ a w (qFX K) g b rfl (fun _ _=>rfl) h
 | o::rest,env,σ,K,a,w,A,h,g,b,Q',m=>by
  have hd:=ZX s (A o (by simp));have B:=Zv s o;have E:∀x∈rest,x∈ops.toList:=fun x j=>A x (by simp[j])
  have z:∀(v) (v') (σ') (f) (i),vcR P G mu ops false lw rest (upd env o.dst v) σ' Q->K.le f->WRel G w0 ro0 f σ' i->ERel f N (upd env o.dst v) (a.put o.dst v')->wpListIn (FR ro) n P ops Q' (rest++more) (a.put o.dst v') i :=
   fun v v' σ' f i u J h1 h2=>Ki y s rest _ σ' f _ i E u h1 h2 fun K' env' M c w' O T S R I=>m K' env' M c w' (qFY J O) T S (R.trans qFx) fun t C=>by
    rw[I t fun x j=>C x (by simp[j])];have L:=C o (by simp);unfold Act.put;split
    . rename_i d D;have:d≠t:=fun e=>L (by rw[D,e])
      simp[this]
    rfl
  simp only[vcR,qDy]at h;rw[qBV];unfold wpListIn;rcases wz h with⟨r,h⟩|⟨r,h⟩
  . have:=y0 b B r;rw[if_neg (by simp[this])];exact⟨fun _ _=>trivial,z _ _ σ K w h (qFX K) g (b.put hd (by simp only[qi];exact⟨#[],rfl,by simp[qj]⟩))⟩
  have:=y0 b B r;rw[if_pos this];exact qkp y g b hd h fun v v' σ' K' w' u h1 h2 F=>z v v' σ' K' w' u h1 h2 F
def Kj{R}(h:jO P G mu true o.op env σ R):∃v σ',OpA P G o env σ v σ'/\R v σ':=by
 unfold jO at h;split at h
 . rename_i f args d a;split at h
   . rename_i g first cap c
     obtain⟨r,h1,h2⟩:=h;exact⟨r,σ,.inr ⟨f,args,d,g,first,cap,a,c,h1,rfl⟩,h2⟩
   exact h.elim
 simp only[vcX,qeu]at h;split at h
 . rename_i v σ' b;exact⟨v,σ',.inl b,h⟩
 exact h.elim
def qkh{R i f dp}(hi:ops[i]?=some f){fuel listed}(u:qcd ops mu ac listed i dp=true)
 (h:vcG P G mu (qX mu ac i f.op != 9) ops f env σ (fun env v σ'=>YL P G ops mu ac R fuel (listed.setIfInBounds i true) (upd env f.dst v) σ')):YL P G ops mu ac R (fuel+1) listed env σ:=by
 simp only[qcd,hi,qBq]at u;obtain⟨⟨w,hd⟩,y⟩:=u;have s:i∈Region.ready .any ops listed:=by simpa using w
 have rest:∀(j:Nat) (d:Oper),ops[j]?=some d->j≠i->listed.getD j true=false->j∉dp->qX mu ac i f.op≠9/\qde ops f d (qX mu ac i f.op) (qX mu ac j d.op)=true/\(qX mu ac j d.op≠9\/qX mu ac i f.op=0):=by
  intro j d m o t r;have:=qBx.1 y j (qCe.2 (qCp.1 m).1);simp only[m,qDo,beq_iff_eq,qBq,bne_iff_ne,ne_eq]at this;rcases this with((h1|h1)|h1)|h1
  . exact absurd h1 o
  . rw[t]at h1;cases h1
  . exact absurd (by simpa using h1) r
  exact⟨h1.1,h1.2.1,h1.2.2⟩
 by_cases l:qX mu ac i f.op=9
 . have solo:∀(j:Nat) (d:Oper),ops[j]?=some d->j≠i->listed.getD j true=false->j∈dp:=by
    intro j d m o t;apply Classical.byContradiction;intro r;exact(rest j d m o t r).1 l
   rw[l]at h;refine YL.solo hi hd solo s ?_;rcases wz h with⟨g,h⟩|⟨g,h⟩
   . exact .inl ⟨_,σ,.inl ⟨g,rfl,rfl⟩,h⟩
   exact .inr ⟨l,g,h⟩
 have x:(qX mu ac i f.op != 9)=true:=by simpa using l
 rw[x]at h;rcases wz h with⟨g,h⟩|⟨g,h⟩
 . exact YL.first hi fuel listed env σ σ hd (fun j d a b c e=>(rest j d a b c e).2) s (.inl ⟨g,rfl,rfl⟩) h
 obtain⟨v,σ',h1,h2⟩:=Kj h;exact YL.first hi fuel listed env σ σ' hd (fun j d a b c e=>(rest j d a b c e).2) s (.inr ⟨g,h1⟩) h2
def vcG.imp{k k'}(h:vcG P G mu d ops o env σ k)(a:∀env v σ,k env v σ->k' env v σ):vcG P G mu d ops o env σ k':=by
 unfold vcG at h⊢
 cases hg:o.guard with
 |none=>simp only[hg]at h⊢;exact jO.imp h (a _)
 | some p=>
  obtain⟨j,b⟩:=p;simp only[hg]at h⊢
  cases ht:(ops[j]?).bind (·.dst) with
  |none=>simp only[ht]at h⊢;exact a _ _ _ h
  | some t=>
   simp only[ht]at h⊢;generalize env t=x at h⊢
   match x,h with
   |.bool c,h=>exact⟨fun e=>jO.imp (h.1 e) (a _),fun e=>a _ _ _ (h.2 e)⟩
   |.tup [],h=>exact a _ _ _ h
def qkP{lw:Bool}{Q:Env->St->Prop}{mu:Bool}:∀(l:List Oper) (k:Nat) (listed:Array Bool) (env:Env) (σ:St),(∀j:Nat,l[j]?=ops[k+j]?)->k+l.length=ops.size->qvt ops mu (if lw then [ops.size-1] else []) l.length k listed=true ->
 vcR P G mu ops true lw l env σ Q->YL P G ops mu (if lw then [ops.size-1] else []) Q l.length listed env σ
 |[],k,listed,env,σ,_,_,t,h=>⟨by simpa[qvt] using t,h⟩
 | o::l,k,listed,env,σ,A,B,t,h=>by
  have h0:ops[k]?=some o:=by simpa using(A 0).symm
  simp only[qBB,qvt,qBq]at t;obtain⟨z,D⟩:=t;simp only[vcR,qCC]at h;have ih:=fun env σ h=>qkP (lw:=lw) (Q:=Q) (mu:=mu) l (k+1) (listed.setIfInBounds k true) env σ (fun j=>by have:=A (j+1);simpa[qDu,qDn 1 j] using this) (by simp only[qBB]at B;omega) D h
  have K:=z;simp only[qcd,h0,qBq]at z;obtain⟨⟨C,hd⟩,E⟩:=z;have x:k∈Region.ready .any ops listed:=by simpa using C
  have rest:∀(j:Nat) (d:Oper),ops[j]?=some d->j≠k->listed.getD j true=false->j∉qz8 ops k->qX mu (if lw then [ops.size-1] else []) k o.op≠9/\qde ops o d (qX mu (if lw then [ops.size-1] else []) k o.op) (qX mu (if lw then [ops.size-1] else []) j d.op)=true/\(qX mu (if lw then [ops.size-1] else []) j d.op≠9\/qX mu (if lw then [ops.size-1] else []) k o.op=0):=by
   intro j d i m s r;have:=qBx.1 E j (qCe.2 (qCp.1 i).1);simp only[i,qDo,beq_iff_eq,qBq,bne_iff_ne,ne_eq]at this;rcases this with((h1|h1)|h1)|h1
   . exact absurd h1 m
   . rw[s]at h1;cases h1
   . exact absurd (by simpa using h1) r
   exact⟨h1.1,h1.2.1,h1.2.2⟩
  have stp:∀v σ',wM P G ops o env σ v σ'->YL P G ops mu (if lw then [ops.size-1] else []) Q l.length (listed.setIfInBounds k true) (upd env o.dst v) σ'->YL P G ops mu (if lw then [ops.size-1] else []) Q (l.length+1) listed env σ:=by
   intro v σ' h1 h2;by_cases u:qX mu (if lw then [ops.size-1] else []) k o.op=9
   . refine YL.solo h0 hd (fun j d i m s=>?_) x (.inl ⟨v,σ',h1,h2⟩);apply Classical.byContradiction;intro r;exact(rest j d i m s r).1 u
   exact YL.first h0 l.length listed env σ σ' hd (fun j d a b c e=>(rest j d a b c e).2) x h1 h2
  cases hdd:!(lw&&qsI l&&qeH o.op) with
  | true=>
   rw[hdd]at h;rcases wz h with⟨g,h⟩|⟨g,h⟩
   . exact stp _ _ (.inl ⟨g,rfl,rfl⟩) (ih _ _ h)
   obtain⟨v,σ',h1,h2⟩:=Kj h;exact stp _ _ (.inr ⟨g,h1⟩) (ih _ _ h2)
  | false=>
   rw[hdd]at h;simp only[Bool.not_eq_false',qBq]at hdd;obtain⟨⟨F,w⟩,y⟩:=hdd;have w:l=[]:=(by cases l with|nil=>rfl|cons _ _=>simp[qsI]at w);rcases wz h with⟨g,h⟩|⟨g,h⟩
   . exact stp _ _ (.inl ⟨g,rfl,rfl⟩) (ih _ _ h)
   -- the last operation
   have u:qX mu (if lw then [ops.size-1] else []) k o.op=9:=by
    subst w;simp only[qBB,qCc]at B;have I:k=ops.size-1:=(by omega);unfold qeH at y;split at y
    . rename_i f args L e;rw[e];simp[qX,F,I]
    cases y
   refine YL.solo h0 hd (fun j d i m s=>?_) x (.inr ⟨u,g,jO.imp h fun v σ' J=>ih _ _ J⟩);apply Classical.byContradiction;intro r;exact(rest j d i m s r).1 u
mutual
def qdW{Q}:∀(s) (fuel) (listed) (env) (σ),qej ops mu ac s listed=true->Vt s<=fuel->vcS P G mu ac ops s env σ Q->YL P G ops mu ac Q fuel listed env σ
 | .done,fuel,listed,env,σ,a,_,h=>by
  simp only[qej]at a;have c:Region.ready .any ops listed=[]:=by simpa using a
  cases fuel with
  |zero=>exact⟨c,h⟩
  |succ fuel=>exact⟨fun _=>h,fun i hi=>by rw[c]at hi;cases hi⟩
 | .step k dp s,fuel,listed,env,σ,a,b,h=>by
  simp only[Vt]at b;obtain⟨f,rfl⟩:∃f,fuel=f+1:=⟨fuel-1,by omega⟩;simp only[qej,qBq]at a;simp only[vcS]at h;split at h
  . rename_i o d;exact qkh d a.1 (vcG.imp h fun env v σ' e=>qdW s f _ _ _ a.2 (by omega) e)
  exact h.elim
 | .fork al,fuel,listed,env,σ,a,b,h=>by
  simp only[Vt]at b;obtain⟨f,rfl⟩:∃f,fuel=f+1:=⟨fuel-1,by omega⟩;simp only[qej,qBq,qC5]at a;simp only[vcS]at h;refine⟨fun h0=>by rw[h0]at a;simp at a,fun i hi=>?_⟩;exact Vh al f listed env σ _ a.2 (by omega) h i hi
def Vh{Q}:∀(al) (fuel) (listed) (env) (σ) (c),qdH ops mu ac al listed c=true->qbA al<=fuel->v7 P G mu ac ops al env σ Q->∀i∈c,∃o,ops[i]?=some o /\
 ((∃v σ',wM P G ops o env σ v σ'/\YL P G ops mu ac Q fuel (listed.setIfInBounds i true) (upd env o.dst v) σ') \/
  (qX mu ac i o.op=9/\jA ops env o=some true/\jO P G mu false o.op env σ (fun v σ'=>YL P G ops mu ac Q fuel (listed.setIfInBounds i true) (upd env o.dst v) σ')))
 | .nil,fuel,listed,env,σ,c,b,_,_,i,hi=>by
  simp only[qdH]at b;have:c=[]:=by simpa using b
  rw[this]at hi;cases hi
 | .cons k s r,fuel,listed,env,σ,c,b,g,h,i,hi=>by
  simp only[qbA]at g;simp only[qdH,qBq]at b;simp only[v7]at h;by_cases e:i=k
  . subst e;obtain⟨h,_⟩:=h;split at h
    . rename_i o j;refine⟨o,j,?_⟩;have h':=vcG.imp h fun env v σ' l=>qdW s fuel _ _ _ b.1.2 (by omega) l
      by_cases d:qX mu ac i o.op=9
      . rw[d]at h';rcases wz h' with⟨a,h'⟩|⟨a,h'⟩
        . exact .inl ⟨_,σ,.inl ⟨a,rfl,rfl⟩,h'⟩
        exact .inr ⟨d,a,h'⟩
      have f:(qX mu ac i o.op != 9)=true:=(by simpa using d);rw[f]at h';rcases wz h' with⟨a,h'⟩|⟨a,h'⟩
      . exact .inl ⟨_,σ,.inl ⟨a,rfl,rfl⟩,h'⟩
      obtain⟨v,σ',h1,h2⟩:=Kj h';exact .inl ⟨v,σ',.inr ⟨a,h1⟩,h2⟩
    exact h.elim
  exact Vh r fuel listed env σ _ b.2 (by omega) h.2 i (qCk.2 ⟨hi,by simpa using e⟩)
end
end
def qAi(P:Program)(G:Glo)(c:FuncId)(k:Nat):Prop :=
 bodied P c=true/\∀(w0) (ro0) (b L B) (K) (σ) (w) (sz) (rows:List (List AV)) (tok) (S:Nat->St->Prop),
  WRel G w0 ro0 K σ w->K.m b=some B->σ.H[b]?=some (.cells [.sl sz rows tok])->rows.length<2^62->S rows.length σ ->
  (∀ i σ' K' w',S (i+1) σ'->K.le K'->WRel G w0 ro0 K' σ' w'->∃rows tok r,σ'.H[b]?=some (.cells [.sl k rows tok])/\rows[i]?=some r/\∀v,qi K' (.agg r) v ->
    ∃ f tmps g body,(Instr.yield L #[.int .i64 i,v]).run P w'=.ok (.round L f tmps g body) w' /\
     RoundIn Fence.wide 0 P L f tmps g body w' (fun e h=>e=.returned (.bool true)/\∃a d,K'.le a/\WRel G w0 ro0 a d h/\S i d)) ->
  CallsIn Fence.wide 0 P c #[.func (.yield L) #[] #[],.pointer (some ⟨B,0,none⟩)] w (fun e w'=>(∃v,e=.returned v)/\∃K' σ',K.le K'/\WRel G w0 ro0 K' σ' w'/\S 0 σ')
def qwG(P:Program)(G:Glo)(d:FuncId)(cap:List AV)(pre:St->Prop)(c:List AV):Prop :=
 bodied P d=true/\∀(w0) (ro0) (L) (K) (σ) (w) (a) (S:Nat->St->Prop),
  WRel G w0 ro0 K σ w->qj K cap a.toList->(∀i σ,S i σ->pre σ)->S 0 σ ->
  (∀ i x σ' K' w',c[i]?=some x->S i σ'->K.le K'->WRel G w0 ro0 K' σ' w'->∀v,qi K' x v ->
    ∃ f tmps h body,(Instr.yield L #[v]).run P w'=.ok (.round L f tmps h body) w' /\
     RoundIn Fence.wide 0 P L f tmps h body w' (fun e j=>e=.returned (.bool true)/\∃b g,K'.le b/\WRel G w0 ro0 b g j/\S (i+1) g)) ->
  CallsIn Fence.wide 0 P d (#[.func (.yield L) #[] #[]]++a) w (fun e w'=>(∃v,e=.returned v)/\∃K' σ',K.le K'/\WRel G w0 ro0 K' σ' w'/\S c.length σ')
def qqO(Q:Exit->Env->St->Prop):Exit->Env->St->Prop
 |.goto _,_,_=>False
 |e,env,σ=>Q e env σ
def Yg(A B:Env->St->(Exit->Env->St->Prop)->Prop)(k b a pe:Nat)(env:Env):Nat->St->(St->Prop)->Prop
 |0,σ,Q=>Q σ
 | i+1,σ,Q=>match σ.H[b]? with
  | some (.cells [.sl sz rows _])=>sz=k/\match rows[i]? with
   |some r=>A (upd (upd env (some a) (.int .i64 i)) (some pe) (.agg r)) σ (fun e env' σ'=>e=.normal/\B env' σ' (fun e _ c=>e=.normal/\Yg A B k b a pe env i c Q))
   |none=>False
  |_=>False
def vcC(P:Program)(G:Glo)(o:Opts):Code->Env->St->(Exit->Env->St->Prop)->Prop
 |.skip,env,σ,Q=>Q .normal env σ
 |.ret,env,σ,Q=>Q .ret env σ
 |.exit id,env,σ,Q=>Q (.exit id) env σ
 |.seq x y,env,σ,Q=>vcC P G o x env σ (vj (fun env σ=>vcC P G o y env σ Q) Q)
 | .cond c x y,env,σ,Q=>match ev G env c with
  |.bool b=>qhq b (vcC P G o x env σ Q) (vcC P G o y env σ Q)
  |_=>False
 |.block id c,env,σ,Q=>vcC P G o c env σ (vk id Q)
 | .region id ops d,env,σ,Q=>match d,o.fk.lookup id with
  |true,some (s,ac)=>vcS P G o.mu ac ops s env σ (fun env σ=>Q .normal env σ)
  |d,_=>vcR P G o.mu ops d (o.lw.contains id) ops.toList env σ (fun env σ=>Q .normal env σ)
 |.loop c,env,σ,Q=>∃(I:Nat->Env->St->Prop) (n:Nat),I n env σ/\∀n env σ,I n env σ->vcC P G o c env σ (vj (fun env' σ'=>∃n',n'<n/\I n' env' σ') Q)
 | .rangeFunc g l x y,env,σ,Q=>match l.toList,ev G env g with
  | [h,pe],.fn f [] [.ptr b 0]=>∃k,G.NoX/\qAi P G f k/\(match σ.H[b]? with
   |some (.cells [.sl _ rows _])=>rows.length<2^62/\Yg (fun env σ Q=>vcC P G o x env σ Q) (fun env σ Q=>vcC P G o y env σ Q) k b h pe env rows.length σ (fun σ=>Q .normal env σ)
   |_=>False)
  | [pe],.fn f [] cap=>∃(pre:St->Prop) (a:List AV) (J:Nat->St->Prop),G.NoX/\qwG P G f cap pre a/\(∀i σ,J i σ->pre σ)/\J 0 σ /\
   (∀i v σ,a[i]?=some v->J i σ->vcC P G o x (upd env (some pe) v) σ (fun e env' σ'=>e=.normal/\vcC P G o y env' σ' (fun e _ j=>e=.normal/\J (i+1) j))) /\
   ∀σ,J a.length σ->Q .normal env σ
  |_,_=>False
 |.scope c,env,σ,Q=>vcC P G o c env σ (qqO Q)
 |.label _,env,σ,Q=>Q .normal env σ
 |_,_,_,_=>False
section
variable {P:Program}{G:Glo}{N:Nat}{env:Env}{σ:St}{ops:Array Oper}{mu:Bool}{ac:List Nat}
def AWp.any{id Q}(e:P.follows .mixedOrders=true)(l:Qf N ops=true)(h:YL P G ops mu ac (fun env σ=>Q .normal env σ) ops.size (Array.replicate ops.size false) env σ):
 AWp P G N (.region id ops true) env σ Q:=by
 intro w0 ro0 K a w g d;refine wp_region_any e ?_;exact Za l (Q:=J9 G w0 ro0 K N a.defers Q) ops.size (Array.replicate ops.size false) env σ K a {w with drawn:=w.drawn+1}
  (fun K' env' σ' b w' h1 h2 i hd j=>.inl ⟨K',env',σ',h1,h2,i,.same hd,j⟩) (fun c K' σ' b w' h1 h2 hd f=>.inr ⟨c,K',σ',rfl,h1,h2,.same hd,f⟩) g.drew d h
end
def qhd(ro:Option Nat)(P:Program)(G:Glo)(N:Nat)(c:Code)(env:Env)(σ:St)(Q:Exit->Env->St->Prop):Prop :=
 ∀(w0) (ro0) (K) (a) (w),WRel G w0 ro0 K σ w->ERel K N env a->c.wpIn (FR ro) 0 P (J9 G w0 ro0 K N a.defers Q) a w
section
variable {P:Program}{G:Glo}{N:Nat}{ro:Option Nat}{env:Env}{σ:St}{Q:Exit->Env->St->Prop}
def qhd.seq{x y}(h:qhd ro P G N x env σ (vj (fun env σ=>qhd ro P G N y env σ Q) Q)):qhd ro P G N (.seq x y) env σ Q:=by
 intro w0 ro0 K a w j i;refine wpIn_seq (wpIn_mono (h w0 ro0 K a w j i) ?_);intro e g w' b;rcases b with⟨K',env',σ',h1,h2,d,hd,f⟩|⟨c,K',σ',rfl,b⟩
 case inr=>exact .inr ⟨c,K',σ',rfl,b⟩
 cases e with
 |normal=>exact wpIn_mono (f w0 ro0 K' g w' h2 d) fun e a w x=>x.after h1 hd
 |_=>exact .inl ⟨K',env',σ',h1,h2,d,hd,f⟩
def qhd.block{id c}(h:qhd ro P G N c env σ (vk id Q)):qhd ro P G N (.block id c) env σ Q:=by
 intro w0 ro0 K a w i g;refine wpIn_block (wpIn_mono (h w0 ro0 K a w i g) ?_);intro e j w' f;rcases f with⟨K',env',σ',h1,h2,d,hd,b⟩|⟨c,K',σ',rfl,f⟩
 case inr=>exact .inr ⟨c,K',σ',rfl,f⟩
 cases e with
 | exit l=>
  simp only[vk]at b;simp only[Exit.inBlock];split
  . rename_i e;rw[if_pos e]at b;exact .inl ⟨K',env',σ',h1,h2,d,hd,b⟩
  rename_i e;rw[if_neg e]at b;exact .inl ⟨K',env',σ',h1,h2,d,hd,b⟩
 |_=>exact .inl ⟨K',env',σ',h1,h2,d,hd,b⟩
def qhd.mono{c Q'}(h:qhd ro P G N c env σ Q)(d:∀e env σ,Q e env σ->Q' e env σ):qhd ro P G N c env σ Q' :=
 fun w0 ro0 K a w f b=>wpIn_mono (h w0 ro0 K a w f b) fun e a w x=>x.mono d
end
def yh{P G N ro o}(i:G.NoX):∀(c){env:Env}{σ:St}{Q:Exit->Env->St->Prop},jf N c=true->vcC P G o c env σ Q->qhd ro P G N c env σ Q
 |.skip,env,σ,_,_,h=>fun w0 ro0 K a w g f=>wpIn_skip (.inl ⟨K,env,σ,qFX K,g,f,.same rfl,h⟩)
 |.exit id,env,σ,_,_,h=>fun w0 ro0 K a w g f=>wpIn_exit (.inl ⟨K,env,σ,qFX K,g,f,.same rfl,h⟩)
 | .seq x y,env,σ,Q,d,h=>by
  simp only[jf,qBq]at d;exact qhd.seq (qhd.mono (yh i x d.1 (by simpa only[vcC] using h)) fun e env σ j=>by
   cases e<;>first|exact yh i y d.2 j|exact j)
 | .cond c x y,env,σ,Q,d,h=>by
  simp only[jf,qBq]at d;simp only[vcC]at h;split at h
  . rename_i b hb;intro w0 ro0 K a w g f;have:=Jn g f c;rw[hb]at this;simp only[qi]at this;exact wpIn_cond_split this (fun e=>yh i x d.1 (h.1 e) w0 ro0 K a w g f) (fun e=>yh i y d.2 (h.2 e) w0 ro0 K a w g f)
  exact h.elim
 |.block id c,_,_,_,d,h=>qhd.block (yh i c d (by simpa only[vcC] using h))
 | .region id ops false,env,σ,Q,d,h=>by
  have h':vcR P G o.mu ops false (o.lw.contains id) ops.toList env σ (fun env σ=>Q .normal env σ):=by
   simp only[vcC]at h;exact h
  intro w0 ro0 K a w g f;have:=wpIn_region_list (F:=FR ro) (n:=0) (P:=P) (id:=id) (ops:=ops) (a:=a) (w:=w) (Q:=J9 G w0 ro0 K N a.defers Q) (by
   have:=Ki i (w0:=w0) (ro0:=ro0) (by simpa only[jf] using d) (ro:=ro) (n:=0) (more:=[]) ops.toList env σ K a w (by simp) h' g f (Q':=J9 G w0 ro0 K N a.defers Q) fun K' env' σ' s w' h1 h2 m hd _ r=>.inl ⟨K',env',σ',h1,h2,m,.same hd,r⟩
   simpa using this)
  exact this
 |.region id ops true,_,_,_,d,_=>by simp[jf]at d
 |.ret,_,_,_,d,_=>by simp[jf]at d
 |.loop c,_,_,_,d,_=>by simp[jf]at d
 |.rangeFunc ..,_,_,_,d,h=>by simp[jf]at d
 |.scope c,_,_,_,d,h=>by simp[jf]at d
 |.label l,_,_,_,d,h=>by simp[jf]at d
 |.goto l,_,_,_,d,h=>by simp[jf]at d
 |.refuse w,_,_,_,d,h=>by simp[jf]at d
def J3{P g}(hb:bodied P g=true)(args w):(callFunc g args).run P w=.ok (.enter g args) w:=by
 cases hg:P.funcs[g]? with
 |none=>simp[bodied,hg]at hb
 | some fn=>
  simp[bodied,hg]at hb;obtain⟨b1,b2⟩:=hb;simp[*,callFunc,show ¬fn.body=none by intro e;simp[e]at b1]
def AWp.range{P:Program}{G:Glo}(O:G.NoX){N:Nat}{env:Env}{σ:St}{Q:Exit->Env->St->Prop}{o:Opts}{g:Operand}{j pe:Nat}{x y:Code}{R b k:Nat}{sz:Nat}{rows:List (List AV)}{tok:Tok}
 (c2:j<N) (b6:pe<N) (hx:jf N x=true) (hy:jf N y=true) (hg:ev G env g=.fn R [] [.ptr b 0]) (a3:qAi P G R k) (c4:rows.length<2^62) (hb:σ.H[b]?=some (.cells [.sl sz rows tok]))
 (h:Yg (fun env σ Q=>vcC P G o x env σ Q) (fun env σ Q=>vcC P G o y env σ Q) k b j pe env rows.length σ (fun σ=>Q .normal env σ)):AWp P G N (.rangeFunc g #[j,pe] x y) env σ Q:=by
 intro w0 ro0 K a w E L;refine(wpIn_wide (n:=0)).1 (wpIn_rangeFunc fun fn b5=>?_);have J:=Jn E L g;rw[hg]at J;simp only[qi,qj]at J;obtain⟨va,vb,e1,e2,v1,vr,e3,⟨B,hB,e4⟩,e5⟩:=J;have ea:=qC8 (by rw[<- qCW,e2];rfl);have eb:vb = #[.pointer (some ⟨B,0,none⟩)]:=by rw[<- qDp (xs:=vb),e3,e4,e5]
 subst ea eb;obtain⟨c,t⟩:∃c:LoopState->Option Code->Loop,c=fun st b9=>{state:=st,pending:=b9,fn,tmps:=a.tmps,params:=#[j,pe],assign:=x,body:=y,defers:=w.heap.size}:=⟨_,rfl⟩
 obtain⟨z,a6⟩:∃z,(w.alloc (.deferred (some []))).alloc (.loop (c .ready none))=z:=⟨_,rfl⟩;have a7:=E.allocFix (.deferred (some []));have T:=a7.allocFix (.loop (c .ready none));rw[a6,World.size_alloc]at T;obtain⟨C,M⟩:∃C,((K.withFx fun b=>if b=w.heap.size then some (.deferred (some [])) else K.fx b).withFx fun b=>if b=w.heap.size+1 then some (.loop (c .ready none)) else(K.withFx fun b=>if b=w.heap.size then some (.deferred (some [])) else K.fx b).fx b)=C:=⟨_,rfl⟩;rw[M]at T;have S:K.le C:=by
  rw[<- M];refine qFY (Kn.le_fx fun B o e=>?_) (Kn.le_fx fun B o e=>?_)
  . have:=E.fx_lt e;rw[if_neg (by omega)];exact e
  have:=a7.fx_lt e;rw[World.size_alloc]at this;rw[if_neg (by omega)];exact e
 have a4:C.fx (w.heap.size+1)=some (.loop (c .ready none)):=by rw[<- M];simp[Kn.withFx]
 refine⟨w.heap.size+1,[qxa w.heap.size],z,{target:=.fn (.func R) #[.pointer (some ⟨B,0,none⟩)],args:=#[.func (.yield (w.heap.size+1)) #[] #[]]},z,R,
  #[.func (.yield (w.heap.size+1)) #[] #[]]++#[.pointer (some ⟨B,0,none⟩)],z,?_,?_,fun _ _=>trivial,?_,fun e=>by simp[Fence.wide]at e,?_⟩
 . rw[<- a6,t];exact run_enterLoop_outer _ _ _ _ _
 . simp only[resolve,e1];simp[go_sem]
 . simp[invoke,go_sem,J3 a3.1]
 refine CallsIn.mono (a3.2 w0 ro0 b (w.heap.size+1) B C σ z sz rows tok (fun i σ=>Yg (fun env σ Q=>vcC P G o x env σ Q) (fun env σ Q=>vcC P G o y env σ Q) k b j pe env i σ (fun σ=>Q .normal env σ)) T (S.m _ _ hB) hb c4 h ?_) ?_
 . -- one round
   intro i σ' K' w' l u A;simp only[Yg]at l;split at l
   . rename_i c7 a9 b2 b4;obtain⟨b1,l⟩:=l;subst b1;split at l
     . rename_i r b7;refine⟨a9,b2,r,b4,b7,fun v J=>?_⟩;have I:=u.fx _ _ a4;have W:=(A.fx _ _ I).1;refine⟨fn,_,x,y,by have:=run_yield (P:=P) (args:=#[.int .i64 i,v]) W (by rw[t];rfl);rw[t]at this;exact this,roundIn_of_wpIn b5 ?_⟩;have c3:ERel K' N (upd (upd env (some j) (.int .i64 i)) (some pe) (.agg r)) {tmps:=(a.tmps.setIfInBounds j (.int .i64 i)).setIfInBounds pe v,defers:=[]}:=by
        have h0:=L.mono (qFY S u);have h1:=(h0.put (dst:=some j) (fun d hd=>by cases hd;exact c2) (v:=.int .i64 i) (v':=.int .i64 i) (by simp[qi])).put (dst:=some pe) (fun d hd=>by cases hd;exact b6) J;exact⟨h1.size,h1.val⟩
       have c5:=yh O (ro:=some (w.heap.size+1)) x hx l w0 ro0 K' _ w' A c3;refine wpIn_mono (F:=FR (some (w.heap.size+1))) (show Code.wpIn (FR (some (w.heap.size+1))) 0 P x _ _ w' from by simpa using c5) ?_;rintro e a1 w1 (⟨K3,c8,X,g1,Z,g3,_,rfl,g4⟩|⟨_,_,X,_,_,_,_,g⟩)
       case inr=>exact(O _ X g).elim
       have V:=g1.fx _ _ I;have c6:=(Z.fx _ _ V).1;refine⟨_,run_beginRound c6 (by rw[t]),?_⟩;have b0:=Z.refix V (by intros;intro e;cases e) (.loop {c .ready none with state:=.busy});have a8:=yh O (ro:=some (w.heap.size+1)) y hy g4 w0 ro0 _ a1 _ b0 (g3.refx _);refine wpIn_mono (F:=FR (some (w.heap.size+1))) a8 ?_;rintro e a5 w5 (⟨K5,c9,U,k1,k2,k3,_,rfl,k4⟩|⟨_,_,U,_,_,_,_,g⟩)
       case inr=>exact(O _ U g).elim
       have Y:K5.fx (w.heap.size+1)=some (.loop {c .ready none with state:=.busy}):=k1.fx _ _ (by simp[Kn.withFx]);have c1:=(k2.fx _ _ Y).1;have b8:=k2.refix Y (by intros;intro e;cases e) (.loop (c .ready none));refine⟨.bool true,w5.putObj (w.heap.size+1) (.loop (c .ready none)),?_,rfl,_,U,?_,b8,k4⟩
       . have:=run_endRound (P:=P) none c1;rw[t]at this⊢;exact this
       refine qFY g1 (qFS k1 fun B o e=>?_);by_cases s:B=w.heap.size+1
       . subst s;rw[V]at e;simp[e]
       rw[if_neg s];refine k1.fx B o ?_;simp only[Kn.withFx,if_neg s];exact e
     exact l.elim
   exact l.elim
 -- behind the Yg
 rintro e w' ⟨⟨v,rfl⟩,K',σ',u,A,hS⟩;have I:=u.fx _ _ a4;have W:=(A.fx _ _ I).1;have c0:=(A.refix I (by intros;intro e;cases e) (.loop {c .ready none with state:=.exhausted})).unfix (f:=fun B=>if B=w.heap.size+1 then none else K'.fx B) (by
  intro B o e;by_cases s:B=w.heap.size+1
  . rw[if_pos s]at e;cases e
  rw[if_neg s]at e;simp only[Kn.withFx,if_neg s];exact e)
 refine⟨none,w'.putObj (w.heap.size+1) (.loop {c .ready none with state:=.exhausted}),?_,?_⟩
 . have:=run_endLoop (P:=P) W (by rw[t];simp);rw[t]at this⊢;exact this
 have a0:K.le (K'.withFx fun B=>if B=w.heap.size+1 then none else K'.fx B):=by
  have:=qFY S u;refine qFS this fun B o e=>?_
  have:=E.fx_lt e;rw[if_neg (by omega)];exact u.fx _ _ (S.fx _ _ e)
 have a2:=hS;simp only[Yg]at a2;refine .inl ⟨_,env,σ',a0,c0,⟨L.size,(L.mono a0).val⟩,⟨[w.heap.size],by simp,rfl,fun D hD=>?_⟩,a2⟩;simp at hD;subst hD;refine⟨?_,?_⟩
 . cases e:K.fx w.heap.size with
   |none=>rfl
   |some o=>have:=E.fx_lt e;omega
 simp only[Kn.withFx];rw[if_neg (by omega)];exact u.fx _ _ (by rw[<- M];simp[Kn.withFx])
def AWp.rangeF{P:Program}{G:Glo}(E:G.NoX){N:Nat}{env:Env}{σ:St}{Q:Exit->Env->St->Prop}{o:Opts}{g:Operand}{pe:Nat}{x y:Code}{I:Nat}{cap R:List AV}{pre:St->Prop}{J:Nat->St->Prop}
 (b2:pe<N) (hx:jf N x=true) (hy:jf N y=true) (hg:ev G env g=.fn I [] cap) (a3:qwG P G I cap pre R) (a6:∀i σ,J i σ->pre σ) (hJ:J 0 σ)
 (hs:∀i v σ,R[i]?=some v->J i σ->vcC P G o x (upd env (some pe) v) σ (fun e env' σ'=>e=.normal/\vcC P G o y env' σ' (fun e _ a8=>e=.normal/\J (i+1) a8)))
 (hq:∀σ,J R.length σ->Q .normal env σ):AWp P G N (.rangeFunc g #[pe] x y) env σ Q:=by
 intro w0 ro0 K a w t A;refine(wpIn_wide (n:=0)).1 (wpIn_rangeFunc fun fn b1=>?_);have z:=Jn t A g;rw[hg]at z;simp only[qi,qj]at z;obtain⟨va,S,e1,e2,e3⟩:=z;have ea:=qC8 (by rw[<- qCW,e2];rfl);subst ea;obtain⟨c,j⟩:∃c:LoopState->Option Code->Loop,c=fun st b5=>{state:=st,pending:=b5,fn,tmps:=a.tmps,params:=#[pe],assign:=x,body:=y,defers:=w.heap.size}:=⟨_,rfl⟩
 obtain⟨m,a0⟩:∃m,(w.alloc (.deferred (some []))).alloc (.loop (c .ready none))=m:=⟨_,rfl⟩;have a2:=t.allocFix (.deferred (some []));have M:=a2.allocFix (.loop (c .ready none));rw[a0,World.size_alloc]at M;obtain⟨s,C⟩:∃s,((K.withFx fun b=>if b=w.heap.size then some (.deferred (some [])) else K.fx b).withFx fun b=>if b=w.heap.size+1 then some (.loop (c .ready none)) else(K.withFx fun b=>if b=w.heap.size then some (.deferred (some [])) else K.fx b).fx b)=s:=⟨_,rfl⟩;rw[C]at M;have L:K.le s:=by
  rw[<- C];refine qFY (Kn.le_fx fun B o e=>?_) (Kn.le_fx fun B o e=>?_)
  . have:=t.fx_lt e;rw[if_neg (by omega)];exact e
  have:=a2.fx_lt e;rw[World.size_alloc]at this;rw[if_neg (by omega)];exact e
 have Z:s.fx (w.heap.size+1)=some (.loop (c .ready none)):=by rw[<- C];simp[Kn.withFx]
 refine⟨w.heap.size+1,[qxa w.heap.size],m,{target:=.fn (.func I) S,args:=#[.func (.yield (w.heap.size+1)) #[] #[]]},m,I,
  #[.func (.yield (w.heap.size+1)) #[] #[]]++S,m,?_,?_,fun _ _=>trivial,?_,fun e=>by simp[Fence.wide]at e,?_⟩
 . rw[<- a0,j];exact run_enterLoop_outer _ _ _ _ _
 . simp only[resolve,e1];simp[go_sem]
 . simp[invoke,go_sem,J3 a3.1]
 refine CallsIn.mono (a3.2 w0 ro0 (w.heap.size+1) s σ m S J M (qj.mono L _ e3) a6 hJ ?_) ?_
 . -- one round
   intro i xv σ' K' w' b6 a9 l r v z;have hr:=hs i xv σ' b6 a9;have u:=l.fx _ _ Z;have U:=(r.fx _ _ u).1;refine⟨fn,_,x,y,by have:=run_yield (P:=P) (args:=#[v]) U (by rw[j];rfl);rw[j]at this;exact this,roundIn_of_wpIn b1 ?_⟩
   . have b9:ERel K' N (upd env (some pe) xv) {tmps:=a.tmps.setIfInBounds pe v,defers:=[]}:=by
      have h0:=A.mono (qFY L l);have h1:=h0.put (dst:=some pe) (fun d hd=>by cases hd;exact b2) z;exact⟨h1.size,h1.val⟩
     have c0:=yh E (ro:=some (w.heap.size+1)) x hx hr w0 ro0 K' _ w' r b9;refine wpIn_mono (F:=FR (some (w.heap.size+1))) (show Code.wpIn (FR (some (w.heap.size+1))) 0 P x _ _ w' from by simpa using c0) ?_;rintro e a1 w1 (⟨K3,c2,V,g1,X,g3,_,rfl,g4⟩|⟨_,_,V,_,_,_,_,g⟩)
     case inr=>exact(E _ V g).elim
     have T:=g1.fx _ _ u;have c1:=(X.fx _ _ T).1;refine⟨_,run_beginRound c1 (by rw[j]),?_⟩;have a7:=X.refix T (by intros;intro e;cases e) (.loop {c .ready none with state:=.busy});have a4:=yh E (ro:=some (w.heap.size+1)) y hy g4 w0 ro0 _ a1 _ a7 (g3.refx _);refine wpIn_mono (F:=FR (some (w.heap.size+1))) a4 ?_;rintro e a5 w5 (⟨K5,c3,O,k1,k2,k3,_,rfl,k4⟩|⟨_,_,O,_,_,_,_,g⟩)
     case inr=>exact(E _ O g).elim
     have W:K5.fx (w.heap.size+1)=some (.loop {c .ready none with state:=.busy}):=k1.fx _ _ (by simp[Kn.withFx]);have b8:=(k2.fx _ _ W).1;have b4:=k2.refix W (by intros;intro e;cases e) (.loop (c .ready none));refine⟨.bool true,w5.putObj (w.heap.size+1) (.loop (c .ready none)),?_,rfl,_,O,?_,b4,k4⟩
     . have:=run_endRound (P:=P) none b8;rw[j]at this⊢;exact this
     refine qFY g1 (qFS k1 fun B o e=>?_);by_cases h:B=w.heap.size+1
     . subst h;rw[T]at e;simp[e]
     rw[if_neg h];refine k1.fx B o ?_;simp only[Kn.withFx,if_neg h];exact e
 -- behind the Yg
 rintro e w' ⟨⟨v,rfl⟩,K',σ',l,r,hS⟩;have u:=l.fx _ _ Z;have U:=(r.fx _ _ u).1;have b7:=(r.refix u (by intros;intro e;cases e) (.loop {c .ready none with state:=.exhausted})).unfix (f:=fun B=>if B=w.heap.size+1 then none else K'.fx B) (by
  intro B o e;by_cases h:B=w.heap.size+1
  . rw[if_pos h]at e;cases e
  rw[if_neg h]at e;simp only[Kn.withFx,if_neg h];exact e)
 refine⟨none,w'.putObj (w.heap.size+1) (.loop {c .ready none with state:=.exhausted}),?_,?_⟩
 . have:=run_endLoop (P:=P) U (by rw[j];simp);rw[j]at this⊢;exact this
 have Y:K.le (K'.withFx fun B=>if B=w.heap.size+1 then none else K'.fx B):=by
  have:=qFY L l;refine qFS this fun B o e=>?_
  have:=t.fx_lt e;rw[if_neg (by omega)];exact l.fx _ _ (L.fx _ _ e)
 have b0:=hq σ' hS;refine .inl ⟨_,env,σ',Y,b7,⟨A.size,(A.mono Y).val⟩,⟨[w.heap.size],by simp,rfl,fun D hD=>?_⟩,b0⟩;simp at hD;subst hD;refine⟨?_,?_⟩
 . cases e:K.fx w.heap.size with
   |none=>rfl
   |some o=>have:=t.fx_lt e;omega
 simp only[Kn.withFx];rw[if_neg (by omega)];exact l.fx _ _ (by rw[<- C];simp[Kn.withFx])
def yL{P:Program}{G:Glo}{N:Nat}{o:Opts}(f:P.follows .mixedOrders=true):∀(c:Code){env:Env}{σ:St}{Q:Exit->Env->St->Prop},jV N o c=true->vcC P G o c env σ Q->AWp P G N c env σ Q
 |.skip,_,_,_,_,h=>AWp.skip h
 |.ret,_,_,_,_,h=>AWp.ret h
 |.exit id,_,_,_,_,h=>AWp.exit h
 | .seq x y,env,σ,Q,d,h=>by
  simp only[jV,qBq]at d;exact AWp.seq (AWp.mono (yL f x d.1 (by simpa only[vcC] using h)) fun e env σ u=>by
   cases e<;>first|exact yL f y d.2 u|exact u)
 | .cond c x y,env,σ,Q,d,h=>by
  simp only[jV,qBq]at d;simp only[vcC]at h;split at h
  . rename_i b hb;exact AWp.cond hb (fun e=>yL f x d.1 (h.1 e)) (fun e=>yL f y d.2 (h.2 e))
  exact h.elim
 |.block id c,_,_,_,d,h=>AWp.block (yL f c d (by simpa only[vcC] using h))
 | .region id ops false,env,σ,Q,d,h=>by
  simp only[jV,qBq]at d;have h':vcR P G o.mu ops false (o.lw.contains id) ops.toList env σ (fun env σ=>Q .normal env σ):=by
   simp only[vcC]at h;exact h
  intro w0 ro0 K a w m j;have:=wp_region_lit (P:=P) (id:=id) (l:=ops.toList) (a:=a) (w:=w) (Q:=J9 G w0 ro0 K N a.defers Q) (qbU (by simpa using d.1) ops.toList env σ K a w (by simp) (by simpa using h') m j (fun K' env' σ' C w' h1 h2 B hd t=>.inl ⟨K',env',σ',h1,h2,B,.same hd,t⟩) fun c K' σ' C w' h1 h2 hd L=>.inr ⟨c,K',σ',rfl,h1,h2,.same hd,L⟩);simpa using this
 | .region id ops true,env,σ,Q,d,h=>by
  simp only[jV,qBq,qDo,qD5,qBP,false_or]at d;simp only[vcC]at h
  cases hl:o.fk.lookup id with
  | none=>
   rw[hl]at d h;simp only at d h;refine AWp.any f d.1 (mu:=o.mu) (ac:=if o.lw.contains id then [ops.size-1] else []) ?_;have:=qkP (P:=P) (G:=G) (ops:=ops) (lw:=o.lw.contains id) (mu:=o.mu) ops.toList 0 (Array.replicate ops.size false) env σ (by simp) (by simp) (by simpa[qqz] using d.2) h;simpa using this
  | some p=>
   obtain⟨s,ac⟩:=p;rw[hl]at d h;simp only[qBq,decide_eq_true_eq]at d h;exact AWp.any f d.1 (mu:=o.mu) (ac:=ac) (qdW s ops.size _ env σ d.2.1 d.2.2 h)
 | .loop c,_,_,_,d,h=>by
  simp only[vcC]at h;obtain⟨I,n,h0,U⟩:=h;exact AWp.loop I n h0 fun n env σ S=>yL f c d (U n env σ S)
 | .rangeFunc g v x y,env,σ,Q,d,h=>by
  simp only[jV,qBq]at d;obtain⟨⟨i,E⟩,D⟩:=d;simp only[vcC]at h;split at h
  . rename_i M pe O b r A;obtain⟨k,z,R,h⟩:=h;rw[r]at i;simp only[qBq,decide_eq_true_eq]at i;split at h
    . rename_i sz rows tok hb;have:v = #[M,pe]:=by rw[<- qDp (xs:=v),r]
      subst this;exact AWp.range z i.1 i.2 E D A R h.1 hb h.2
    exact h.elim
  . rename_i pe O cap r A;obtain⟨pre,Y,J,z,W,F,V,T,u⟩:=h;rw[r]at i;simp only[decide_eq_true_eq]at i;have:v = #[pe]:=by rw[<- qDp (xs:=v),r]
    subst this;exact AWp.rangeF z i E D A W F V T u
  exact h.elim
 | .scope c,env,σ,Q,d,h=>by
  simp only[jV]at d;intro w0 ro0 K a w m j;refine wp_scope_straight (wp_mono (yL f c d (by simpa only[vcC] using h) w0 ro0 K a w m j) ?_);rintro e C w' (⟨K',env',σ',h1,h2,B,hd,t⟩|⟨ch,K',σ',rfl,X⟩)
  . cases e with
    |goto l=>exact t.elim
    |_=>exact .inl ⟨K',env',σ',h1,h2,B,hd,t⟩
  exact .inr ⟨ch,K',σ',rfl,X⟩
 |.label l,env,σ,Q,d,h=>fun w0 ro0 K a w m j=>wp_label (.inl ⟨K,env,σ,qFX K,m,j,.same rfl,h⟩)
 |.goto l,_,_,_,d,h=>by simp[jV]at d
 |.refuse w,_,_,_,d,h=>by simp[jV]at d
section
variable {P:Program}{G:Glo}{σ:St}{f:FuncId}{args args':List AV}{r r':AV}
def Pure.sub(h:Pure P G f args' r')(i:zl args args')(a:Leq r' r):Pure P G f args r :=
 ⟨h.1,fun w0 ro vs c j m=>(h.2 w0 ro vs c j (zl.rel _ _ i m)).mono fun e w' ⟨v,ro',h1,h2,g,l,b,d⟩=>⟨v,ro',h1,h2,g,l,b,qFM _ _ a d⟩⟩
def Pure.less(h:Pure P G f args' r)(a:zl args args'):Pure P G f args r:=h.sub a (qFN r)
def qh.pure{Q}(h:Pure P G f args' r)(c:qr (args.map plain)=true)(a:zl (args.map plain) args')(b:Q r σ):qh P G f args σ Q :=
 Zj.acall (.inl ⟨c,h.less a⟩) b
def Zj.pure(h:Pure P G f args' r)(b:qr (args.map plain)=true)(a:zl (args.map plain) args'):Zj P G f args σ r:=.inl ⟨b,h.less a⟩
def Zj.lent(h:Pure P G f args' r)(hb:qt5 r=true)(a:zl (args.map (frz σ.H 8)) args'):Zj P G f args σ r:=.inr ⟨hb,h.less a⟩
def qb.of{d Q}(h:Zj P G f args σ r)(a:Q r σ):qb P G d f args σ Q:=by
 cases d
 . exact h.acall a
 exact⟨r,h,a⟩
def qb.pure{d Q}(h:Pure P G f args' r)(c:qr (args.map plain)=true)(a:zl (args.map plain) args')(b:Q r σ):qb P G d f args σ Q:=.of (.pure h c a) b
def qF5:=@qb.pure
def qb.lent{d Q}(h:Pure P G f args' r)(hb:qt5 r=true)(a:zl (args.map (frz σ.H 8)) args')(b:Q r σ):qb P G d f args σ Q:=.of (.lent h hb a) b
def qlf(P:Program)(deep:Bool)(a:List ResultVar)(r:AV)(env:Env)(σ:St):Prop :=
 match qfS (Dof P) a env σ with
 | some l=>match deep with
  |false=>qE (fin σ.H (Vl l))=true/\Leq (fin σ.H (Vl l)) r
  |true=>qE (frz σ.H 8 (Vl l))=true/\Leq (frz σ.H 8 (Vl l)) r
 |none=>False
def qdj(P:Program)(deep:Bool)(a:List ResultVar)(r:AV):Exit->Env->St->Prop
 |.ret,env,σ=>qlf P deep a r env σ
 |.normal,env,σ=>qlf P deep a r env σ
 |_,_,_=>False
def Pure.vcO{G:Nat->AV}{fn:Func}{c:Code}(o:Opts)(deep:Bool)(hf:P.funcs[f]?=some fn)
 (h:vcC P G o c (JW args) ⟨[],[]⟩ (qdj P deep fn.results.toList r)) (hb:fn.body=some c:=by exact rfl) (hk:(jV fn.ntmps o c && decide (args.length≤fn.ntmps) && fn.name != "runtime.NumGoroutine")=true:=by kernel_rfl) (hm:P.follows .mixedOrders=true:=by exact qcN):Pure P G f args r:=by
 simp at hk;refine Pure.of_body (KS G) hf hb hk.2 hk.1.2 (AWp.mono (yL hm c hk.1.1 h) fun e env σ hq=>?_);have key:qlf P deep fn.results.toList r env σ->∃l,qfS (Dof P) fn.results.toList env σ=some l/\((qE (fin σ.H (Vl l))=true/\Leq (fin σ.H (Vl l)) r)\/(qE (frz σ.H 8 (Vl l))=true/\Leq (frz σ.H 8 (Vl l)) r)):=fun h=>by
  unfold qlf at h;split at h
  . rename_i l hl;cases deep
    . exact⟨l,hl,.inl h⟩
    exact⟨l,hl,.inr h⟩
  exact h.elim
 cases e with
 |ret=>exact⟨.inl rfl,key hq⟩
 |normal=>exact⟨.inr rfl,key hq⟩
 |_=>exact hq.elim
def Pure.vc{G:Nat->AV}{fn:Func}{c:Code}(hf:P.funcs[f]?=some fn)
 (h:vcC P G o0 c (JW args) ⟨[],[]⟩ (qdj P false fn.results.toList r)) (hb:fn.body=some c:=by exact rfl) (hk:(jV fn.ntmps o0 c && decide (args.length≤fn.ntmps) && fn.name != "runtime.NumGoroutine")=true:=by kernel_rfl) (hm:P.follows .mixedOrders=true:=by exact qcN):Pure P G f args r:=Pure.vcO o0 false hf h hb hk hm
def qF6:=@Pure.vc
end
end
def jb{p q:Prop}(h:p=q):p=q:=by rw[h]
@[congr]def qpM{P G d f args args' σ Q}(h:args=args'):qb P G d f args σ Q=qb P G d f args' σ Q:=by rw[h]
def qK(P:Program)(G:Glo)(o:Opts)(c:Code)(env:Env)(σ:St)(Q:Exit->Env->St->Prop):Prop :=
 ∃(I:Nat->Env->St->Prop) (n:Nat),I n env σ/\∀n env σ,I n env σ->vcC P G o c env σ (vj (fun env' σ'=>∃n',n'<n/\I n' env' σ') Q)
@[congr]def qtH{c a}{A B:Prop}(h:c=a):qhq c A B=qhq a A B:=by rw[h]
@[simp]def quq{A B:Prop}:qhq true A B=A:=by simp[qhq]
@[simp]def qtG{A B:Prop}:qhq false A B=B:=by simp[qhq]
@[simp low]def qur{c}{A B:Prop}:qhq c A B=((c=true->A)/\(c=false->B)):=jb rfl
@[simp]def qwO{env d i v}:upd env (some d) v i=if i=d then v else env i:=rfl
@[simp]def qwP{env v}:upd env none v=env:=rfl
section
variable {P:Program}{G:Glo}{o:Opts}{env:Env}{σ:St}{Q:Exit->Env->St->Prop}
@[simp]def qyb:vcC P G o .skip env σ Q=Q .normal env σ:=by simp only[vcC]
@[simp]def qzF:vcC P G o .ret env σ Q=Q .ret env σ:=by simp only[vcC]
@[simp]def qyd{id}:vcC P G o (.exit id) env σ Q=Q (.exit id) env σ:=by simp only[vcC]
@[simp]def qzE{x y}:vcC P G o (.seq x y) env σ Q=vcC P G o x env σ (vj (fun env σ=>vcC P G o y env σ Q) Q):=by simp only[vcC]
@[simp]def qwL{id x}:vcC P G o (.block id x) env σ Q=vcC P G o x env σ (vk id Q):=by simp only[vcC]
@[simp]def qyc{x}:vcC P G o (.loop x) env σ Q=qK P G o x env σ Q:=by simp only[vcC]<;>rfl
@[simp]def qul{id ops}:vcC P G o (.region id ops false) env σ Q=vcR P G o.mu ops false (o.lw.contains id) ops.toList env σ (fun env σ=>Q .normal env σ):=by simp only[vcC]
@[simp]def qwK{id ops}:vcC P G o0 (.region id ops true) env σ Q=vcR P G false ops true false ops.toList env σ (fun env σ=>Q .normal env σ):=by simp[vcC,o0]
@[simp]def qye{c x y b}(h:ev G env c=.bool b):vcC P G o (.cond c x y) env σ Q=qhq b (vcC P G o x env σ Q) (vcC P G o y env σ Q):=by simp only[vcC,h]
@[simp]def qAm:o0.mu=false:=rfl
@[simp]def qAn:o0.lw=[]:=rfl
end
section
variable {P:Program}{G:Glo}{mu:Bool}{ops:Array Oper}{d lw:Bool}{env:Env}{σ:St}{Q:Env->St->Prop}
@[simp]def qyf:vcR P G mu ops d lw [] env σ Q=Q env σ:=jb rfl
@[simp]def qq7{dst:Option Nat}{op:Op}{type:TypeId}{pos:String}{after:Array Edge}{rest:List Oper}:
 vcR P G mu ops d false ({dst:=dst,op:=op,type:=type,pos:=pos,after:=after,guard:=none}::rest) env σ Q=jO P G mu d op env σ (fun v σ'=>vcR P G mu ops d false rest (upd env dst v) σ' Q):=by
 rw[vcR,vcG];simp
def v6(P:Program)(G:Glo)(mu:Bool)(ops:Array Oper)(d:Bool)(x:Option Nat)(b:Bool)(dst:Option Nat)(op:Op)(rest:List Oper)(env:Env)(σ:St)(Q:Env->St->Prop):Prop :=
 match x with
 | some t=>match env t with
  | .bool c=>qhq (c==b) (jO P G mu d op (upd env (some t) (.bool b)) σ (fun v σ'=>vcR P G mu ops d false rest (upd (upd env (some t) (.bool b)) dst v) σ' Q))
   (vcR P G mu ops d false rest (upd (upd env (some t) (.bool (!b))) dst (.tup [])) σ Q)
  |.tup []=>vcR P G mu ops d false rest (upd env dst (.tup [])) σ Q
  |_=>False
 |none=>vcR P G mu ops d false rest (upd env dst (.tup [])) σ Q
@[congr]def qmS{x x' b dst op rest}(h:x=x'):v6 P G mu ops d x b dst op rest env σ Q=v6 P G mu ops d x' b dst op rest env σ Q:=by rw[h]
@[simp]def qjc{dst:Option Nat}{op:Op}{type:TypeId}{pos:String}{after:Array Edge}{rest:List Oper}{j:Nat}{b:Bool}:
 vcR P G mu ops d false ({dst:=dst,op:=op,type:=type,pos:=pos,after:=after,guard:=some (j,b)}::rest) env σ Q=v6 P G mu ops d ((ops[j]?).bind (·.dst)) b dst op rest env σ Q:=by
 rw[vcR,vcG];simp only[qDy,qEy,qCR];rfl
@[simp]def qpL{t b c dst op rest}(h:env t=.bool c):v6 P G mu ops d (some t) b dst op rest env σ Q =
 qhq (c==b) (jO P G mu d op (upd env (some t) (.bool b)) σ (fun v σ'=>vcR P G mu ops d false rest (upd (upd env (some t) (.bool b)) dst v) σ' Q)) (vcR P G mu ops d false rest (upd (upd env (some t) (.bool (!b))) dst (.tup [])) σ Q):=by
 simp only[v6,h]
@[simp]def qq8{t b dst op rest}(h:env t=.tup []):v6 P G mu ops d (some t) b dst op rest env σ Q=vcR P G mu ops d false rest (upd env dst (.tup [])) σ Q:=by
 simp only[v6,h]
end
section
variable {P:Program}{G:Glo}{mu d:Bool}{env:Env}{σ:St}{Q:AV->St->Prop}
def jL(x:Option (AV×St))(Q:AV->St->Prop):Prop:=match x with
 |some (v,σ)=>Q v σ
 |none=>False
@[congr]def qq6{x x'}(h:x=x'):jL x Q=jL x' Q:=by rw[h]
@[simp]def qtD{v σ}:jL (some (v,σ)) Q=Q v σ:=jb rfl
@[simp]def qtE:jL none Q=False:=jb rfl
@[congr]def qum{l b s a}(h:l=b)(h':s=a):vcX l s Q=vcX b a Q:=by rw[h,h']
@[simp]def qah{s}:vcX none s Q=jL s Q:=by simp only[vcX,jL]
@[simp]def qq5{v τ s}:vcX (some [(v,τ)]) s Q=Q v τ:=by simp[vcX]
@[simp]def qq4{v v' τ c s}:vcX (some [(v,τ),(v',c)]) s Q=(Q v τ/\Q v' c):=by
 simp only[vcX,eq_iff_iff];constructor
 . exact fun h=>⟨h _ _ (by simp),h _ _ (by simp)⟩
 rintro⟨h1,h2⟩ a b d;simp only[qBN,qBK,qDk,or_false]at d;rcases d with⟨rfl,rfl⟩|⟨rfl,rfl⟩
 . exact h1
 exact h2
def qyh(P:Program)(G:Glo)(d:Bool)(f:AV)(args:List AV)(σ:St)(Q:AV->St->Prop):Prop:=match f with
 |.fn g first cap=>qb P G d g (kq first args cap) σ Q
 |_=>False
@[simp]def qyg{g first args cap}:qyh P G d (.fn g first cap) args σ Q=qb P G d g (kq first args cap) σ Q:=jb rfl
@[simp]def qup{f a t}:jO P G mu d (.call {callee:=.value f,args:=a,argTypes:=t}) env σ Q=qyh P G d (ev G env f) (qbJ G env a.toList) σ Q:=jb rfl
@[simp]def qjf{x}:jO P G mu d (.move x) env σ Q=jL (sem (Dof P) G env σ (.move x)) Q:=by cases d<;>rfl
@[simp]def qdY{x}:jO P G mu d (.assign x) env σ Q=jL (sem (Dof P) G env σ (.assign x)) Q:=by cases d<;>rfl
@[simp]def qje{a b c}:jO P G mu d (.pick a b c) env σ Q=jL (sem (Dof P) G env σ (.pick a b c)) Q:=by cases d<;>rfl
@[simp]def qhp{t}:jO P G mu d (.alloc t) env σ Q=jL (sem (Dof P) G env σ (.alloc t)) Q:=by cases d<;>rfl
@[simp]def qmR{t x}:jO P G mu d (.box t x) env σ Q=jL (sem (Dof P) G env σ (.box t x)) Q:=by cases d<;>rfl
@[simp]def qhn{t p}:jO P G mu d (.build t p) env σ Q=jL (sem (Dof P) G env σ (.build t p)) Q:=by cases d<;>rfl
@[simp]def Kl{t n p}:jO P G mu d (.buildSlice t n p) env σ Q=jL (sem (Dof P) G env σ (.buildSlice t n p)) Q:=by cases d<;>rfl
@[simp]def qjg{t x}:jO P G mu d (.load t x) env σ Q=jL (sem (Dof P) G env σ (.load t x)) Q:=by cases d<;>rfl
@[simp]def qhj{t x y}:jO P G mu d (.store t x y) env σ Q=jL (sem (Dof P) G env σ (.store t x y)) Q:=by cases d<;>rfl
@[simp]def qak{x}:jO P G mu d (.nilCheck x) env σ Q=jL (sem (Dof P) G env σ (.nilCheck x)) Q:=by cases d<;>rfl
def Kh{s}:vcX (qeu d none) s Q=jL s Q:=by cases d<;>exact qah
@[simp]def qho{o t u x y}(h:o≠.eql)(h':o≠.neq):jO P G mu d (.binOp o t x y u) env σ Q=jL (sem (Dof P) G env σ (.binOp o t x y u)) Q:=by
 have:qck (Dof P) G mu env σ (.binOp o t x y u)=none:=by cases o<;>first|rfl|exact absurd rfl h|exact absurd rfl h'
 simp only[jO,this];exact Kh
def qkD(d neg:Bool)(D:Nat->Option TI)(t:Nat)(x y:AV)(σ:St):Option (List (AV×St)):=match d with
 |true=>none
 |false=>VU D neg t x y σ
@[simp]def qmP{t u x y}:jO P G mu d (.binOp .eql t x y u) env σ Q=vcX (qkD d false (Dof P) t (ev G env x) (ev G env y) σ) (sem (Dof P) G env σ (.binOp .eql t x y u)) Q:=by cases d<;>rfl
@[simp]def qmM{t u x y}:jO P G mu d (.binOp .neq t x y u) env σ Q=vcX (qkD d true (Dof P) t (ev G env x) (ev G env y) σ) (sem (Dof P) G env σ (.binOp .neq t x y u)) Q:=by cases d<;>rfl
@[simp]def qjd{o t x}:jO P G mu d (.unOp o t x) env σ Q=jL (sem (Dof P) G env σ (.unOp o t x)) Q:=by cases d<;>rfl
@[simp]def qbX{t u x}:jO P G mu d (.convert t u x) env σ Q=jL (sem (Dof P) G env σ (.convert t u x)) Q:=by cases d<;>rfl
@[simp]def qal{f:Fn}{a b}:jO P G mu d (.makeFunc f a b) env σ Q=jL (sem (Dof P) G env σ (.makeFunc f a b)) Q:=by cases d<;>rfl
@[simp]def qbV{t r}:jO P G mu d (.makeMap t r) env σ Q=jL (sem (Dof P) G env σ (.makeMap t r)) Q:=by cases d<;>rfl
@[simp]def Kk{t x y}:jO P G mu true (.makeSlice t x y) env σ Q=jL (sem (Dof P) G env σ (.makeSlice t x y)) Q:=by rfl
@[simp]def Zk{t x y}:jO P G mu false (.makeSlice t x y) env σ Q=vcX (mkX (Dof P) mu σ t (ev G env x) (ev G env y)) (sem (Dof P) G env σ (.makeSlice t x y)) Q:=by rfl
@[simp]def qhk{t x lo hi mx}:jO P G mu d (.slice t x lo hi mx) env σ Q=jL (sem (Dof P) G env σ (.slice t x lo hi mx)) Q:=by cases d<;>rfl
@[simp]def W2{t x i}:jO P G mu d (.fieldAddr t x i) env σ Q=jL (sem (Dof P) G env σ (.fieldAddr t x i)) Q:=by cases d<;>rfl
@[simp]def qhm{t x i}:jO P G mu d (.field t x i) env σ Q=jL (sem (Dof P) G env σ (.field t x i)) Q:=by cases d<;>rfl
@[simp]def W1{t x y}:jO P G mu d (.indexAddr t x y) env σ Q=jL (sem (Dof P) G env σ (.indexAddr t x y)) Q:=by cases d<;>rfl
@[simp]def qhl{t x y}:jO P G mu d (.index t x y) env σ Q=jL (sem (Dof P) G env σ (.index t x y)) Q:=by cases d<;>rfl
@[simp]def qdX{t x y k}:jO P G mu d (.lookup t x y k) env σ Q=jL (sem (Dof P) G env σ (.lookup t x y k)) Q:=by cases d<;>rfl
@[simp]def W0{t x y z}:jO P G mu d (.mapUpdate t x y z) env σ Q=jL (sem (Dof P) G env σ (.mapUpdate t x y z)) Q:=by cases d<;>rfl
@[simp]def qtF{t x}:jO P G mu d (.range t x) env σ Q=jL (sem (Dof P) G env σ (.range t x)) Q:=by cases d<;>rfl
@[simp]def qun{x}:jO P G mu d (.next x true) env σ Q=jL (sem (Dof P) G env σ (.next x true)) Q:=by cases d<;>rfl
@[simp]def qbW{x i}:jO P G mu d (.extract x i) env σ Q=jL (sem (Dof P) G env σ (.extract x i)) Q:=by cases d<;>rfl
@[simp]def qmO{a t}:jO P G mu d (.call {callee:=.builtin .len,args:=a,argTypes:=t}) env σ Q=jL (sem (Dof P) G env σ (.call {callee:=.builtin .len,args:=a,argTypes:=t})) Q:=by
 have:qck (Dof P) G mu env σ (.call {callee:=.builtin .len,args:=a,argTypes:=t})=none:=by simp only[qck]
 simp only[jO,this];exact Kh
@[simp]def qmN{a t}:jO P G mu d (.call {callee:=.builtin .min,args:=a,argTypes:=t}) env σ Q=jL (sem (Dof P) G env σ (.call {callee:=.builtin .min,args:=a,argTypes:=t})) Q:=by
 have:qck (Dof P) G mu env σ (.call {callee:=.builtin .min,args:=a,argTypes:=t})=none:=by simp only[qck]
 simp only[jO,this];exact Kh
@[simp]def qwM{a t}:jO P G mu d (.call {callee:=.builtin .max,args:=a,argTypes:=t}) env σ Q=jL (sem (Dof P) G env σ (.call {callee:=.builtin .max,args:=a,argTypes:=t})) Q:=by
 have:qck (Dof P) G mu env σ (.call {callee:=.builtin .max,args:=a,argTypes:=t})=none:=by simp only[qck]
 simp only[jO,this];exact Kh
@[simp]def qdZ{a t}:jO P G false d (.call {callee:=.builtin .append,args:=a,argTypes:=t}) env σ Q=jL (sem (Dof P) G env σ (.call {callee:=.builtin .append,args:=a,argTypes:=t})) Q:=by
 have:qck (Dof P) G false env σ (.call {callee:=.builtin .append,args:=a,argTypes:=t})=none:=by
  simp only[qck];split<;>first|rfl|(rename_i h _ _;cases h;done)|(simp_all;done)
 simp only[jO,this];exact Kh
@[simp]def qbY{s x t u}:jO P G true false (.call {callee:=.builtin .append,args:=#[s,x],argTypes:=#[t,u]}) env σ Q=vcX ((qY (Dof P) σ t u (ev G env s) (ev G env x)).map fun p=>[p]) (sem (Dof P) G env σ (.call {callee:=.builtin .append,args:=#[s,x],argTypes:=#[t,u]})) Q:=jb rfl
@[simp]def qjh{x y t u}:jO P G mu false (.call {callee:=.builtin .copy,args:=#[x,y],argTypes:=#[t,u]}) env σ Q=vcX ((kh (Dof P) σ t (ev G env x) (ev G env y)).map fun p=>[p]) none Q:=jb rfl
@[simp]def qwN{x t}:jO P G mu false (.call {callee:=.builtin .cap,args:=#[x],argTypes:=#[t]}) env σ Q=vcX ((qt4 (Dof P) t (ev G env x)).map fun v=>[(v,σ)]) none Q:=jb rfl
end
attribute [simp] qkD VU qob sem ev qbJ qL wZ Yk zL qpm zV qro zY qgy Q5 qgN vi cut ZI TD.agg ofV ofAtom JW qfS Vl fin w9 kw pl1 qE plain pl2 qdj qlf kq Y3 unA St.push Vq zC AV.atom qr qM
section
variable {next:Env->St->Prop}{Q:Exit->Env->St->Prop}{env:Env}{σ:St}
@[simp]def qqN:vj next Q .normal env σ=next env σ:=jb rfl
@[simp]def qww:vj next Q .ret env σ=Q .ret env σ:=jb rfl
@[simp]def qua{i}:vj next Q (.exit i) env σ=Q (.exit i) env σ:=jb rfl
@[simp]def qpC{n}:vk n Q .normal env σ=Q .normal env σ:=jb rfl
@[simp]def qub{n}:vk n Q .ret env σ=Q .ret env σ:=jb rfl
@[simp]def qfm{n i}:vk n Q (.exit i) env σ=if i=n then Q .normal env σ else Q (.exit i) env σ:=jb rfl
def qK.intro{P G o c}(I:Nat->Env->St->Prop)(n)(h:I n env σ)(a:∀n env σ,I n env σ->vcC P G o c env σ (vj (fun env' σ'=>∃n',n'<n/\I n' env' σ') Q)):qK P G o c env σ Q:=⟨I,n,h,a⟩
def qF3:=@qK.intro
end
attribute [simp] Leq zl Leq.refl zl.refl WZ.refl ym.refl
def wr{n}(h:-9223372036854775808<=n:=by omega)(h':n<9223372036854775808:=by omega):IntKind.i64.wrap n=n:=by
 simp[IntKind.wrap,IntKind.bits,IntKind.signed];omega
def zn{α:Type}{l:List α}{i:Nat}{v:α}(h:l[i]?=some v):l.drop i=v::l.drop (i+1):=by
 obtain⟨h1,h2⟩:=qBk.1 h;rw[qBE h1,h2]
def KV{a}(h:qE a=true):pl1 a=a:=by
 unfold pl1;split
 . simp[qE]at h
 rfl
def VG:∀{l:List AV},qr l=true->l.map pl1=l
 |[],_=>rfl
 | a::r,h=>by
  simp only[qr,qBq]at h;rw[qBz,KV h.1,VG h.2]
def qcz{a}(h:qE a=true):pl2 a=a:=by
 unfold pl2;split
 . simp only[qE]at h;simp[VG h]
 exact KV h
def VF:∀{l:List AV},qr l=true->l.map pl2=l
 |[],_=>rfl
 | a::r,h=>by
  simp only[qr,qBq]at h;rw[qBz,qcz h.1,VF h.2]
def yy{a}(h:qE a=true):plain a=a:=by
 unfold plain;split
 . simp only[qE]at h;simp[VF h]
 exact qcz h
def yb:∀{l:List AV},qr l=true->l.map plain=l
 |[],_=>rfl
 | a::r,h=>by
  simp only[qr,qBq]at h;rw[qBz,yy h.1,yb h.2]
def ql{H n a}(h:qE a=true):frz H n a=a:=by
 cases n<;>simp[frz,h]
def Q4{H a}(h:qE a=true):kw H a=a:=by
 unfold kw;split
 . simp[qE]at h
 exact KV h
def yP:∀{l m:List AV},qr (l++m)=(qr l&&qr m)
 |[],m=>by simp[qr]
 |a::r,m=>by simp[qr,yP (l:=r),Bool.and_assoc]
def zj{α:Type}{f:α->List AV}(h:∀x,qr (f x)=true):∀(l:List α),qM (l.map f)=true
 |[]=>rfl
 |a::r=>by simp[qM,h,zj h r]
def W7{l m}:qM (l++m)=(qM l&&qM m):=by
 simp[VT]
def Leq.sl{sz l m tok}(h:l=m):Leq (.sl sz l tok) (.sl sz m .none):=by
 subst h;simp[Leq,qFP]
def Leq.slnil{sz a tok}:Leq (.sl sz [] tok) (.sl a [] .none):=by simp[Leq]
section
variable {P:Program}{G:Glo}{σ:St}{f:FuncId}{args args':List AV}{r r':AV}{Q:AV->St->Prop}
def qh.call(h:Pure P G f args r)(a:qr args=true)(b:Q r σ):qh P G f args σ Q :=
 qh.pure h (by rwa[yb a]) (by rw[yb a];exact qFO _) b
def qb.call{d}(h:Pure P G f args r)(b:Q r σ)(a:qr args=true:=by simp):qb P G d f args σ Q :=
 qF5 h (by rwa[yb a]) (by rw[yb a];exact qFO _) b
def qFQ:=@qb.call
def qb.less{d}(h:Pure P G f args' r)(a:qr args=true)(c:zl args args')(b:Q r σ):qb P G d f args σ Q :=
 qF5 h (by rwa[yb a]) (by rwa[yb a]) b
def qFR:=@qb.less
end
section
variable {P:Program}{G:Glo}{mu d lw:Bool}{ops:Array Oper}
def qaj{Q Q'}(a:∀env σ,Q env σ->Q' env σ):∀(l){env:Env}{σ:St},vcR P G mu ops d lw l env σ Q->vcR P G mu ops d lw l env σ Q'
 |[],env,σ,h=>a _ _ h
 | o::r,env,σ,h=>by
  simp only[vcR]at h⊢;exact vcG.imp h fun env v σ h=>qaj a r h
mutual
def qai{ac Q Q'}(b:∀env σ,Q env σ->Q' env σ):∀(s){env:Env}{σ:St},vcS P G mu ac ops s env σ Q->vcS P G mu ac ops s env σ Q'
 |.done,env,σ,h=>by simp only[vcS]at h⊢;exact b _ _ h
 | .step k dp s,env,σ,h=>by
  simp only[vcS]at h⊢;split at h
  . rename_i o c;exact vcG.imp h fun env v σ h=>qai b s h
  exact h.elim
 | .fork a,env,σ,h=>by
  simp only[vcS]at h⊢;exact Vg b a h
def Vg{ac Q Q'}(b:∀env σ,Q env σ->Q' env σ):∀(a){env:Env}{σ:St},v7 P G mu ac ops a env σ Q->v7 P G mu ac ops a env σ Q'
 |.nil,env,σ,h=>by simp only[v7]
 | .cons k s r,env,σ,h=>by
  simp only[v7]at h⊢;refine⟨?_,Vg b r h.2⟩;have h1:=h.1;split at h1
  . rename_i o c;exact vcG.imp h1 fun env v σ h=>qai b s h
  exact h1.elim
end
def wn{n n' Q Q'}(a:∀env σ,n env σ->n' env σ)(b:∀e env σ,Q e env σ->Q' e env σ):∀e env σ,vj n Q e env σ->vj n' Q' e env σ:=by
 intro e env σ h;cases e<;>first|exact a _ _ h|exact b _ _ _ h
def qiQ{id Q Q'}(a:∀e env σ,Q e env σ->Q' e env σ):∀e env σ,vk id Q e env σ->vk id Q' e env σ:=by
 intro e env σ h
 cases e with
 | exit i=>
  simp only[qfm]at h⊢;split at h
  . rename_i hi;rw[if_pos hi];exact a _ _ _ h
  rename_i hi;rw[if_neg hi];exact a _ _ _ h
 |_=>exact a _ _ _ h
def yq:Code->Bool
 |.seq x y=>yq x&&yq y
 |.cond _ x y=>yq x&&yq y
 |.block _ c=>yq c
 |.loop c=>yq c
 |.scope c=>yq c
 |.rangeFunc .. =>false
 |_=>true
def kx{o}:∀(c){env:Env}{σ:St}{Q Q':Exit->Env->St->Prop},yq c=true->(∀e env σ,Q e env σ->Q' e env σ)->vcC P G o c env σ Q->vcC P G o c env σ Q'
 |.skip,_,_,_,_,_,a,h=>a _ _ _ h
 |.ret,_,_,_,_,_,a,h=>a _ _ _ h
 |.exit _,_,_,_,_,_,a,h=>a _ _ _ h
 | .seq x y,env,σ,Q,Q',b,a,h=>by
  simp only[yq,qBq]at b;simp only[vcC]at h⊢;exact kx x b.1 (wn (fun env σ h=>kx y b.2 a h) a) h
 | .cond c x y,env,σ,Q,Q',b,a,h=>by
  simp only[yq,qBq]at b;simp only[vcC]at h⊢;split at h
  . exact⟨fun e=>kx x b.1 a (h.1 e),fun e=>kx y b.2 a (h.2 e)⟩
  exact h.elim
 | .block id c,env,σ,Q,Q',b,a,h=>by
  simp only[yq]at b;simp only[vcC]at h⊢;exact kx c b (qiQ a) h
 | .region id ops false,env,σ,Q,Q',b,a,h=>by
  simp only[vcC]at h⊢;exact qaj (fun env σ h=>a _ _ _ h) _ h
 | .region id ops true,env,σ,Q,Q',b,a,h=>by
  simp only[vcC]at h⊢;split at h
  . exact qai (fun env σ h=>a _ _ _ h) _ h
  exact qaj (fun env σ h=>a _ _ _ h) _ h
 | .loop c,env,σ,Q,Q',b,a,h=>by
  simp only[yq]at b;simp only[vcC]at h⊢;obtain⟨I,n,h0,d⟩:=h;exact⟨I,n,h0,fun n env σ f=>kx c b (wn (fun _ _ h=>h) a) (d n env σ f)⟩
 |.rangeFunc ..,_,_,_,_,b,_,_=>by simp[yq]at b
 | .scope c,_,_,_,_,b,a,h=>by
  simp only[yq]at b;simp only[vcC]at h⊢;refine kx c b (fun e env σ h=>?_) h
  cases e with
  |goto l=>exact h
  |_=>exact a _ _ _ h
 | .label l,_,_,_,_,_,a,h=>by
  simp only[vcC]at h⊢;exact a _ _ _ h
 |.goto l,_,_,_,_,_,_,h=>by simp only[vcC]at h
 |.refuse w,_,_,_,_,_,_,h=>by simp only[vcC]at h
def Vf{o x y env σ Q}(I)(a:yq x=true)(h1:vcC P G o x env σ (vj I Q))(h2:∀env σ,I env σ->vcC P G o y env σ Q):vcC P G o (.seq x y) env σ Q:=by
 simp only[vcC];exact kx x a (wn h2 fun _ _ _ h=>h) h1
end
section
variable {P:Program}{G:Glo}{o:Opts}{c:Code}{env:Env}{σ:St}{Q:Exit->Env->St->Prop}{α:Type}
def qK.list(l)(J:List α->Env->St->Prop)(h0:J [] env σ)
 (i:∀d v r env σ,l=d++v::r->l[d.length]?=some v->d.length<l.length->J d env σ->vcC P G o c env σ (vj (J (d++[v])) Q))
 (g:∀env σ,J l env σ->vcC P G o c env σ (vj (fun _ _=>False) Q)) (f:yq c=true:=by rfl):qK P G o c env σ Q:=by
 refine qF3 (fun n ev σ=>∃d r,l=d++r/\n=r.length/\J d ev σ) l.length ⟨[],l,rfl,rfl,h0⟩ ?_;rintro n ev σ ⟨d,r,a,rfl,b⟩
 cases r with
 | nil=>
  rw[qB4]at a;subst a;exact kx c f (fun e env σ h=>wn (fun _ _ h=>h.elim) (fun _ _ _ h=>h) e env σ h) (g ev σ b)
 | cons v r=>
  refine kx c f (fun e env σ h=>wn (fun env σ h=>?_) (fun _ _ _ h=>h) e env σ h) (i d v r ev σ a (by rw[a];simp) (by rw[a];simp) b);exact⟨r.length,by simp,d++[v],r,by rw[a];simp,rfl,h⟩
def qK.count(n)(J:Nat->Env->St->Prop)(h0:J 0 env σ)
 (g:∀i env σ,i<n->J i env σ->vcC P G o c env σ (vj (J (i+1)) Q))
 (f:∀env σ,J n env σ->vcC P G o c env σ (vj (fun _ _=>False) Q)) (b:yq c=true:=by rfl):qK P G o c env σ Q:=by
 refine qF3 (fun m ev σ=>∃i,i<=n/\m=n-i/\J i ev σ) n ⟨0,by omega,by omega,h0⟩ ?_;rintro m ev σ ⟨i,hi,rfl,a⟩;by_cases d:i=n
 . subst d;exact kx c b (fun e env σ h=>wn (fun _ _ h=>h.elim) (fun _ _ _ h=>h) e env σ h) (f ev σ a)
 refine kx c b (fun e env σ h=>wn (fun env σ h=>?_) (fun _ _ _ h=>h) e env σ h) (g i ev σ (by omega) a);exact⟨n-(i+1),by omega,i+1,by omega,rfl,h⟩
end
def wN{α:Type}(sz:Nat)(en:α->List AV)(t:Nat)(s:List α):AV:=match s with
 |[]=>.sl 0 [] .nil
 |a::r=>.sl sz ((a::r).map en) (.chain t (r.length+1))
def jP{α:Type}(T:List (Option Nat))(s:List α):List (Option Nat):=match s with
 |[]=>T
 |_::r=>T++[some (r.length+1)]
section
variable {α:Type}{sz t:Nat}{en:α->List AV}{T:List (Option Nat)}{s m:List α}
@[simp]def qw7:wN sz en t ([]:List α)=.sl 0 [] .nil:=rfl
@[simp]def qu8:jP T ([]:List α)=T:=rfl
def qev(h:s≠[]):wN sz en t s=.sl sz (s.map en) (.chain t s.length):=by
 cases s with
 |nil=>exact absurd rfl h
 |cons a r=>rfl
def qaP(h:s≠[]):jP T s=T++[some s.length]:=by
 cases s with
 |nil=>exact absurd rfl h
 |cons a r=>rfl
def yg{D H ty e i j tok}(hi:D ty=some i)(hd:i.d=.sl e)(c:D e=some j)(l:j.size=sz)(h0:0<sz)(f:j.zero.length=sz)(hb:j.bytes<=256)(g:s.length+m.length<=549755813888)(h)(h2:h=sz\/m=[]):
 qm D ⟨H,jP T s⟩ ty (wN sz en T.length s) (.sl h (m.map en) tok)=some (wN sz en T.length (s++m),⟨H,jP T (s++m)⟩):=by
 subst l;by_cases b:m=[]
 . subst b;rw[qB4]
   cases s with
   |nil=>simp[qm,hi,hd,c,h0,f,hb,qR]
   | cons a r=>
    have:r.length+1<=549755813888:=by simpa using g
    simp[qm,hi,hd,c,h0,f,hb,qR,wN,jP,this]
 have h2:=h2.resolve_right b;subst h2
 cases s with
 | nil=>
  have:m.length<=549755813888:=by simpa using g
  simp[qm,hi,hd,c,h0,f,hb,qR,qaP b,qev b,this,b]
 | cons a r=>
  have:r.length+1+m.length<=549755813888:=by simpa using g
  simp only[qBV,wN,jP];simp[qm,hi,hd,c,h0,f,hb,qR,this,b];omega
def qp4{α:Type}(sz:Nat)(en:α->List AV)(s:List α):AV:=match s with
 |[]=>.sl 0 [] .nil
 |a::r=>.sl sz ((a::r).map en) .none
@[simp high]def VD:plain (wN sz en t s)=qp4 sz en s:=by cases s<;>rfl
@[simp high]def qvS{H}:w9 H (wN sz en t s)=qp4 sz en s:=by cases s<;>rfl
@[simp high]def qxu{H}:fin H (wN sz en t s)=qp4 sz en s:=by cases s<;>rfl
@[simp high]def qh1(b:∀x,qr (en x)=true):qE (qp4 sz en s)=true:=by
 cases s with
 |nil=>rfl
 |cons a r=>simpa[qp4] using zj b (a::r)
def qgp:Leq (qp4 sz en s) (.sl sz (s.map en) .none):=by
 cases s with
 |nil=>simp[qp4,Leq]
 |cons a r=>exact Leq.sl rfl
@[simp high]def qvu:Leq (qp4 sz en s) (.sl sz (s.map en) .none)=True:=eq_true qgp
end
