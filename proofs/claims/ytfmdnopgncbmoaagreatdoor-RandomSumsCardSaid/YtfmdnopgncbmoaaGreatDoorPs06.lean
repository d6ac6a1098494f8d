import Derived.Test.YtfmdnopgncbmoaaGreatDoorPs03
import Derived.Test.YtfmdnopgncbmoaaGreatDoorPs04
import Derived.Test.YtfmdnopgncbmoaaGreatDoorPs05
import Derived.RangeFuncRecord
import Derived.Sort.LoopGhostIn
import Derived.TacticsIn
import Derived.OrdersIn
import Derived.RangeFuncIn
import Derived.Scope
set_option linter.all false
set_option linter.defProp false
namespace Go.Abs
open Go Go.RowKit
def jh(ops:Array Oper)(env:Env)(o:Oper):Option Bool :=
 match o.guard with
 |none=>some true
 | some (j,b)=>match(ops[j]?).bind (·.dst) with
  | some t=>match env t with
   |.bool c=>some (c==b)
   |.tup []=>some false
   |_=>none
  |none=>some false
def yB(first args cap:List AV):List AV:=first++args++cap
def OpA(P:Program)(G:Nat->AV)(o:Oper)(env:Env)(U:St)(v:AV)(U':St):Prop :=
 sem (Dof P) G env U o.op=some (v,U') \/
 ∃f args ts g first cap,o.op=.call {callee:=.value f,args:=args,argTypes:=ts}/\ev G env f=.fn g first cap/\Qk P G g (yB first (V8 G env args.toList) cap) U v/\U'=U
def wj(P:Program)(G:Nat->AV)(ops:Array Oper)(o:Oper)(env:Env)(U:St)(v:AV)(U':St):Prop :=
 (jh ops env o=some false/\v=.tup []/\U'=U)\/(jh ops env o=some true/\OpA P G o env U v U')
section
variable {P:Program}{G:Nat->AV}{N:Nat}{env:Env}{U U':St}{w0:World}{ro0:Nat->Nat->Option Value}{K:Kn}{a:Act}{w:World}{ops:Array Oper}{o:Oper}{v:AV}
def yk(he:ERel K N env a){b}(hj:∀j,o.guard=some (j,true)\/o.guard=some (j,false)->∀t,(ops[j]?).bind (·.dst)=some t->t<N)(h:jh ops env o=some b):
 Region.wanted o (yielded ops a.tmps)=b:=by
 unfold jh at h;unfold Region.wanted;split at h
 . rename_i hg;simp at h;subst h;simp[hg]
 rename_i j c hg;simp only[hg];split at h
 . rename_i t ht;have htN:=hj j (by cases c<;>simp[hg]) t ht;have hv:=he.val t;have hsz:t<a.tmps.size:=(by rwa[he.size]);simp only[yielded,ht,Option.bind_some];split at h
   . rename_i x hx;simp at h;subst h;rw[hx]at hv;simp only[qg]at hv;have:a.tmps[t]?=some (.bool x):=by
      rw[qB6 hsz];simp[hsz]at hv;rw[hv]
     simp only[this];cases x<;>cases c<;>rfl
   . rename_i hx;simp at h;subst h;rw[hx]at hv;simp only[qg,qh]at hv;obtain⟨vs,hv1,hv2⟩:=hv;have:a.tmps[t]?=some (.tuple vs):=by
      rw[qB6 hsz];simp[hsz]at hv1;rw[hv1]
     simp only[this];rfl
   cases h
 rename_i ht;simp at h;subst h;simp[yielded,ht]
def Y6(hw:WRel G w0 ro0 K U w)(he:ERel K N env a){f args ts g first cap}(ho:o.op=.call {callee:=.value f,args:=args,argTypes:=ts})
 (hf:ev G env f=.fn g first cap) (hb:bodied P g=true):
 ∃vs:Array Value,(execOp a.eval o).run P w=.ok (.enter g vs) w/\qh K (yB first (V8 G env args.toList) cap) vs.toList:=by
 have hv:=Zf hw he f;rw[hf]at hv;simp only[qg]at hv;obtain⟨va,vb,e1,h1,h2⟩:=hv;refine⟨va++args.map a.eval++vb,?_,?_⟩
 . cases hg:P.funcs[g]? with
   |none=>simp[bodied,hg]at hb
   | some fn=>
    simp[bodied,hg]at hb;obtain⟨b1,b2⟩:=hb;simp[execOp,ho,resolve,e1,Deferred.ofValue,invoke,callFunc,hg,b2,show ¬fn.body=none by intro e;simp[e]at b1]
 have:=vY hw he args.toList;simp only[yB,Array.toList_append,Array.toList_map];exact(h1.append this).append h2
def Act.put_defers'{a:Act}{d:Option Tmp}{v}:(a.put d v).defers=a.defers:=by
 unfold Act.put;split<;>rfl
def qCG:=@Act.put_defers'
def qpu(hw:WRel G w0 ro0 K U w)(he:ERel K N env a)(hd:∀d,o.dst=some d->d<N)(h:OpA P G o env U v U'){next Q}
 (hn:∀K' a' w',K.le K'->WRel G w0 ro0 K' U' w'->ERel K' N (upd env o.dst v) a'->a'.defers=a.defers->next a' w'):o.wp P a w next Q:=by
 rcases h with h|⟨f,args,ts,g,first,cap,ho,hf,hp,rfl⟩
 . obtain⟨v',w',K',hr,h1,h2,h3⟩:=Yf hw he o h;unfold Oper.wp;rcases hr with hr|⟨hr,rfl⟩
   . rw[hr];exact hn K' _ w' h1 h2 ((he.mono h1).put hd h3) qCG
   rw[hr];exact hn K' _ w' h1 h2 ((he.mono h1).put hd h3) qCG
 obtain⟨vs,hr,hvs⟩:=Y6 hw he ho hf hp.bodied;unfold Oper.wp;rw[hr,Oper.upon_enter];refine(qso hw hp hvs).mono ?_;rintro e w' ⟨v',K',rfl,h1,h2,h3⟩;exact hn K' _ w' h1 h2 ((he.mono h1).put hd h3) qCG
def vw(N:Nat)(ops:Array Oper):Bool:=ops.toList.all fun o=>match o.dst with|some d=>decide (d<N)|none=>true
def QR{N ops}(h:vw N ops=true){o}(ho:o∈ops.toList):∀d,o.dst=some d->d<N:=by
 intro d hd;have:=qyP.1 h o ho;simpa[hd] using this
def Qw{N ops}(h:vw N ops=true)(o:Oper):∀j,o.guard=some (j,true)\/o.guard=some (j,false)->∀t,(ops[j]?).bind (·.dst)=some t->t<N:=by
 intro j _ t ht;obtain⟨o',h1,h2⟩:=qz6.1 ht;exact QR h (qyG (by simpa using h1)) t h2
def ZQ(args:List AV):Env:=fun t=>args.getD t (.tup [])
def qdX(D:Nat->Option TI)(rs:List ResultVar)(env:Env)(U:St):Option (List AV) :=
 match rs with
 |[]=>some []
 |.tmp t::r=>(qdX D r env U).map (env t::·)
 | .cell x t::r=>match yQ D U t (env x),qdX D r env U with
  |some v,some l=>some (v::l)
  |_,_=>none
def KT:List AV->AV
 |[v]=>v
 |l=>.tup l
def qaT(a:Act):ResultVar->Sem Value
 |.tmp t=>pure (a.tmps.getD t undef)
 |.cell x t=>do loadVar t (<- asAddr (a.tmps.getD x undef))
def Qx(hw:WRel G w0 ro0 K U w)(he:ERel K N env a):∀(rs:List ResultVar) (l),qdX (Dof P) rs env U=some l ->
 ∃vs:List Value,(rs.mapM (qaT a)).run P w=.ok vs w/\qh K l vs
 |[],l,h=>by simp[qdX]at h;subst h;exact⟨[],by simp,by simp[qh]⟩
 | .tmp t::r,l,h=>by
  simp only[qdX]at h;obtain⟨l',hl',rfl⟩:=qyM.1 h;obtain⟨vs,h1,h2⟩:=Qx hw he r l' hl';refine⟨a.tmps.getD t undef::vs,?_,by simp only[qh];exact⟨_,_,rfl,he.val t,h2⟩⟩;rw[qCr,Sem.run_bind];simp only[qaT,pure,Sem.run,Result.andThen_ok,Sem.run_bind,h1]
 | .cell x t::r,l,h=>by
  simp only[qdX]at h;split at h
  . rename_i v l' hv hl';simp only[qyU]at h;subst h;obtain⟨vs,h1,h2⟩:=Qx hw he r l' hl';obtain⟨v',r1,r2⟩:=qbh hw (he.val x) hv;have hx:=he.val x;have hptr:∃ad,a.tmps.getD x undef=.pointer (some ad):=by
     cases hxx:env x<;>rw[hxx]at hx hv<;>simp only[qg]at hx<;>first
      |(obtain⟨B,_,e⟩:=hx;exact⟨_,e⟩)
      |(obtain⟨B,o,e,_⟩:=hx;exact⟨_,e⟩)
      |(unfold yQ at hv;split at hv<;>simp_all)
    obtain⟨ad,had⟩:=hptr;refine⟨v'::vs,?_,by simp only[qh];exact⟨_,_,rfl,r2,h2⟩⟩;rw[had]at r1;simp only[Instr.loadAt,Instr.sureAddr,pure,Sem.run_bind,Sem.run,Result.andThen_ok]at r1;rw[qCr,Sem.run_bind];simp only[qaT,had,asAddr,pure,Sem.run,Result.andThen_ok,Sem.run_bind,r1,h1]
  cases h
def Yh(hw:WRel G w0 ro0 K U w)(he:ERel K N env a){fn l}(h:qdX (Dof P) fn.results.toList env U=some l):
 ∃v,(results fn a.tmps).run P w=.ok v w/\qg K (KT l) v:=by
 obtain⟨vs,h1,h2⟩:=Qx hw he _ _ h;have hrun:(fn.results.mapM (qaT a)).run P w=.ok vs.toArray w:=by
  rw[Array.mapM_eq_mapM_toList];simp[h1]
 have hres:results fn a.tmps=(fn.results.mapM (qaT a)).bind fun vs=>Sem.pure (if h:vs.size=1 then vs[0] else .tuple vs):=by
  unfold results;congr 2
 have hlen:=h2.length
 cases l with
 | nil=>
  simp only[qh]at h2;subst h2;refine⟨.tuple #[],?_,by simp only[KT,qg];exact⟨#[],rfl,by simp[qh]⟩⟩;rw[hres,Sem.run_bind',hrun];rfl
 | cons x r=>
  cases r with
  | nil=>
   simp only[qh]at h2;obtain⟨v,vr,rfl,g1,rfl⟩:=h2;refine⟨v,?_,g1⟩;rw[hres,Sem.run_bind',hrun];rfl
  | cons y r=>
   refine⟨.tuple vs.toArray,?_,by simp only[KT,qg];exact⟨_,rfl,by simpa using h2⟩⟩;rw[hres,Sem.run_bind',hrun];have:¬vs.toArray.size=1:=by simp at hlen⊢;omega
   simp only[Result.andThen_ok,dif_neg this,Sem.run]
def ERel.enter{args vs n}(hvs:qh K args vs.toList)(hn:args.length<=n):
 ERel K n (ZQ args) {tmps:=vs++Array.replicate (n-vs.size) undef,defers:=[]}:=by
 have hlen:=hvs.length;simp only[qzS]at hlen;refine⟨by simp;omega,fun t=>?_⟩;simp only[ZQ];by_cases ht:t<vs.size
 . have h1:args[t]?=some args[t]:=qyH (by omega);obtain⟨v,e1,e2⟩:=hvs.get t _ h1;simp only[qyS,h1,Option.getD_some]
   rwa[qB1,qBl ht,show vs[t]?=some v by simpa using e1]
 have h1:args[t]?=none:=qy6 (by omega);simp only[qyS,h1,Option.getD_none];rw[qB1,Array.getElem?_append_right (by omega)];have:(Array.replicate (n-vs.size) undef)[t-vs.size]?.getD undef=undef:=by
  rw[Array.getElem?_replicate];split<;>rfl
 rw[this];exact⟨#[],rfl,by simp[qh]⟩
def vF{u:FrameMode}(hu:u≠.run){fn R tmps f0}:∀(Ds:List Nat) (K) (w),WRel G w0 ro0 K U w->Ds.Nodup->(∀D∈Ds,K.fx D=some (.deferred (some []))/\f0 D=none) ->
 (∀B o,f0 B=some o->K.fx B=some o) ->
 (∀(w'),WRel G w0 ro0 (K.withFx f0) U w'->LeavesIn Fence.wide 0 P fn tmps R [] u w')->LeavesInM Fence.wide 0 P fn tmps R (Ds.map que) u w
 |[],K,w,hw,_,_,hf,h=>h w (hw.unfix hf)
 | D::Ds,K,w,hw,hn,hD,hf,h=>by
  obtain⟨d1,d2⟩:=hD D (by simp);obtain⟨b1,_⟩:=hw.fx D _ d1;have hw1:=hw.refix d1 (by intros;intro e;cases e) (.deferred none);refine⟨hu,.inl ⟨D,_,rfl,run_takeDeferred b1,?_⟩⟩;refine vF hu Ds _ _ hw1 (qBg.1 hn).2 (fun D' hD'=>?_) (fun B o e=>?_) h
  . have hne:¬D'=D:=fun e=>(qBg.1 hn).1 (e▸hD')
    simp only[Kn.withFx,if_neg hne];exact hD D' (by simp[hD'])
  have hne:¬B=D:=fun e'=>by subst e';rw[d2]at e;cases e
  simp only[Kn.withFx,if_neg hne];exact hf B o e
def Jp{G:Glo}{f:FuncId}{fn:Func}{c:Code}{vs:Array Value}{R:Ending->World->Prop}{Q:Exit->Env->St->Prop}(hf:P.funcs[f]?=some fn)(hb:fn.body=some c)
 (h:c.wp P (Z8 G w0 ro0 K fn.ntmps [] Q) {tmps:=vs++Array.replicate (fn.ntmps-vs.size) undef,defers:=[]} w)
 (hR:∀e K' env U a w',K.le K'->WRel G w0 ro0 K' U w'->ERel K' fn.ntmps env a->Q e env U->(e=.ret\/e=.normal)/\∃v,(results fn a.tmps).run P w'=.ok v w'/\R (.returned v) w')
 (hX:∀c K' U w',K.le K'->WRel G w0 ro0 K' U w'->G.X c U->R (.panicked c) w'):Calls P f vs w R:=by
 refine(callsIn_wide (n:=0)).1 (callsIn_of_wp_marks hf hb trivial (wpIn_mono (wpIn_wide.2 h) ?_));rintro e a w' (⟨K',env,U',h1,h2,h3,⟨Ds,n1,n2,n3⟩,hq⟩|⟨c,K',U',rfl,h1,h2,⟨Ds,n1,n2,n3⟩,hq⟩)
 . have he:=(hR e K' env U' a w' h1 h2 h3 hq).1;have key:LeavesInM Fence.wide 0 P fn a.tmps R a.defers .returning w':=by
    rw[n2,qzp];refine vF (by simp) (G:=G) (w0:=w0) (ro0:=ro0) (U:=U') (f0:=K.fx) Ds K' w' h2 n1 (fun D hD=>⟨(n3 D hD).2,(n3 D hD).1⟩) h1.fx fun w'' hw''=>?_
    exact(hR e _ env U' a w'' (qCY (K:=K) (f:=K.fx) h1 fun _ _ e=>e) hw'' (h3.refx K.fx) hq).2
   rcases he with rfl|rfl
   . exact key
   exact key
 show LeavesInM Fence.wide 0 P fn a.tmps R a.defers (.panicking c) w';rw[n2,qzp];refine vF (by simp) (G:=G) (w0:=w0) (ro0:=ro0) (U:=U') (f0:=K.fx) Ds K' w' h2 n1 (fun D hD=>⟨(n3 D hD).2,(n3 D hD).1⟩) h1.fx fun w'' hw''=>?_
 exact hX c _ U' w'' (qCY (K:=K) (f:=K.fx) h1 fun _ _ e=>e) hw'' hq
def Pure.of_body {G} (hX : G.NoX) {f fn c args r} (hf : P.funcs[f]? = some fn) (hb : fn.body = some c) (hnm : fn.name ≠ "runtime.NumGoroutine") (hn : args.length ≤ fn.ntmps)
 (h:AWp P G fn.ntmps c (ZQ args) ⟨[],[]⟩ (fun e env U=>(e=.ret\/e=.normal)/\∃l,qdX (Dof P) fn.results.toList env U=some l/\((zb (fin U.H (KT l))=true/\Leq (fin U.H (KT l)) r)\/(zb (frz U.H 8 (KT l))=true/\Leq (frz U.H 8 (KT l)) r)))):Pure P G f args r:=by
 refine⟨by simp[bodied,hf,hb,hnm],?_⟩;intro w0 ro vs hg hro hvs;have hw:WRel G w0 ro (K0 ro) ⟨[],[]⟩ w0:=⟨Below.refl _ _,hg,hro,fun b o v e _=>e,by simp,fun _ _ _ e=>by simp[K0]at e,fun _ _ e=>by simp[K0]at e,by simp,fun _ _ e=>by simp[K0]at e,
  fun _ _ _ _ e=>by simp[K0]at e,rfl,fun _ _ _ _ _ e=>by simp[K0]at e,fun _ _ e=>by simp[K0]at e,fun _ _ e=>by simp[K0]at e⟩
 have he:=ERel.enter hvs hn;refine Jp hf hb (h w0 ro (K0 ro) _ w0 hw he) ?_ fun c _ U _ _ _ hc=>(hX c U hc).elim
 rintro e K' env U a w h1 h2 h3 ⟨hend,l,hl,hfin⟩;refine⟨hend,?_⟩;obtain⟨v,hr,hv⟩:=Yh h2 h3 hl;have hv3:qg (K0 (vA w0 w K'.ro)) r v:=by
  rcases hfin with⟨hno,hfin⟩|⟨hno,hfin⟩
  . exact qCS _ _ hfin (qg.toK0 _ hno (qqh h2 hv))
  exact qCS _ _ hfin (qiI h2 8 hv)
 obtain⟨q1,q2⟩:=h2.end_ro;exact⟨v,hr,v,vA w0 w K'.ro,rfl,h2.below,fun b o v e=>JJ _ _ _ _ _ _ (h1.ro b o v e),q1,q2,hv3⟩
def qf.of_body {G f fn c args Q} (hf : P.funcs[f]? = some fn) (hb : fn.body = some c) (hnm : fn.name ≠ "runtime.NumGoroutine") (hn : args.length ≤ fn.ntmps)
 (h:AWp P G fn.ntmps c (ZQ args) U (fun e env U'=>(e=.ret\/e=.normal)/\∃l,qdX (Dof P) fn.results.toList env U'=some l/\Q (KT l) U')):qf P G f args U Q:=by
 refine⟨by simp[bodied,hf,hb,hnm],?_⟩;intro w0 ro0 K w vs hw hvs;refine Jp hf hb (h w0 ro0 K _ w hw (ERel.enter hvs hn)) ?_ fun c K' U' w' h1 h2 hc=>.inr ⟨c,U',K',rfl,h1,h2,hc⟩
 rintro e K' env U' a w h1 h2 h3 ⟨hend,l,hl,hq⟩;obtain⟨v,hr,hv⟩:=Yh h2 h3 hl;exact⟨hend,v,hr,.inl ⟨v,KT l,U',K',rfl,h1,h2,hv,hq⟩⟩
end
def qb(P:Program)(G:Glo)(d:Bool)(g:FuncId)(args:List AV)(U:St)(Q:AV->St->Prop):Prop :=
 match d with
 |true=>∃r,Qk P G g args U r/\Q r U
 |false=>qf P G g args U Q
def qcJ{α:Type}(d:Bool)(l:Option α):Option α:=match d with
 |true=>none
 |false=>l
def vcX(l:Option (List (AV×St)))(s:Option (AV×St))(Q:AV->St->Prop):Prop :=
 match l with
 |some l=>∀v U',(v,U')∈l->Q v U'
 | none=>match s with
  |some (v,U')=>Q v U'
  |none=>False
def jy(P:Program)(G:Glo)(mu d:Bool)(op:Op)(env:Env)(U:St)(Q:AV->St->Prop):Prop :=
 match op with
 | .call {callee:=.value f,args:=args,argTypes:=_}=>match ev G env f with
  |.fn g first cap=>qb P G d g (yB first (V8 G env args.toList) cap) U Q
  |_=>False
 |op=>vcX (qcJ d (qaM (Dof P) G mu env U op)) (sem (Dof P) G env U op) Q
section
variable {P:Program}{G:Glo}{N:Nat}{env:Env}{U U':St}{w0:World}{ro0:Nat->Nat->Option Value}{K:Kn}{a:Act}{w:World}{ops:Array Oper}{o:Oper}{v:AV}{mu:Bool}
def qhT(hw:WRel G w0 ro0 K U w)(he:ERel K N env a)(hd:∀d,o.dst=some d->d<N){R}(h:jy P G mu false o.op env U R){next Q}
 (hn:∀v U' K' a' w',R v U'->K.le K'->WRel G w0 ro0 K' U' w'->ERel K' N (upd env o.dst v) a'->a'.defers=a.defers->next a' w')
 (hp:∀c U' K' w',G.X c U'->K.le K'->WRel G w0 ro0 K' U' w'->Q (.panic c) a w'):o.wp P a w next Q:=by
 have did:∀v U',R v U'->Did P G w0 ro0 K w (execOp a.eval o) v U'->o.wp P a w next Q:=by
  intro v U' hr hdid;obtain⟨v',w',K',hrun,h1,h2,h3⟩:=hdid;unfold Oper.wp;rcases hrun with hrun|⟨hrun,rfl⟩
  . rw[hrun];exact hn v U' K' _ w' hr h1 h2 ((he.mono h1).put hd h3) qCG
  rw[hrun];exact hn v U' K' _ w' hr h1 h2 ((he.mono h1).put hd h3) qCG
 unfold jy at h;split at h
 . rename_i f args ts hop;split at h
   . rename_i g first cap hf
     have hac:=h;obtain⟨vs,hr,hvs⟩:=Y6 hw he hop hf hac.1;unfold Oper.wp;rw[hr,Oper.upon_enter];refine(hac.2 w0 ro0 K w vs hw hvs).mono ?_;rintro e w' (⟨v',v,U',K',rfl,h1,h2,h3,h4⟩|⟨c,U',K',rfl,h1,h2,h3⟩)
     . exact hn v U' K' _ w' h4 h1 h2 ((he.mono h1).put hd h3) qCG
     exact hp c U' K' w' h3 h1 h2
   exact h.elim
 simp only[vcX,qcJ]at h;split at h
 . rename_i l hl;obtain⟨v,U',h1,h2⟩:=K6 hw he o hl;exact did v U' (h v U' h1) h2
 split at h
 . rename_i v U' hs;exact did v U' h (Yf hw he o hs)
 exact h.elim
def qf.imp{f args Q Q'}(h:qf P G f args U Q)(hq:∀v U,Q v U->Q' v U):qf P G f args U Q' :=
 ⟨h.1,fun w0 ro0 K w vs hw hvs=>(h.2 w0 ro0 K w vs hw hvs).mono fun e w' h=>h.imp (fun⟨v',v,U',K',h1,h2,h3,h4,h5⟩=>⟨v',v,U',K',h1,h2,h3,h4,hq _ _ h5⟩) id⟩
def qC0:=@qf.imp
def vcX.imp{l s R R'}(h:vcX l s R)(hr:∀v U,R v U->R' v U):vcX l s R':=by
 unfold vcX at h⊢;split at h
 . exact fun v U' hm=>hr _ _ (h v U' hm)
 split at h
 . exact hr _ _ h
 exact h.elim
def jy.plain{d op}(hop:¬∃f args ts,op=.call {callee:=.value f,args:=args,argTypes:=ts})(R):
 jy P G mu d op env U R=vcX (qcJ d (qaM (Dof P) G mu env U op)) (sem (Dof P) G env U op) R:=by
 unfold jy;split
 . exact absurd ⟨_,_,_,rfl⟩ hop
 rfl
def jy.imp{d op R R'}(h:jy P G mu d op env U R)(hr:∀v U,R v U->R' v U):jy P G mu d op env U R':=by
 by_cases hop:∃f args ts,op=.call {callee:=.value f,args:=args,argTypes:=ts}
 . obtain⟨f,args,ts,rfl⟩:=hop;simp only[jy]at h⊢;split at h
   . rename_i g first cap hf
     cases d
     . exact qC0 h hr
     obtain⟨r,h1,h2⟩:=h;exact⟨r,h1,hr _ _ h2⟩
   exact h.elim
 rw[jy.plain hop]at h⊢;exact h.imp hr
variable {G:Nat->AV}
def qlN:∀{a b:AV},Leq a b->b.atom=true->a.atom=true:=by
 intro a b h hb;cases b<;>simp only[AV.atom]at hb<;>first|(cases hb;done)|skip
 all_goals(cases a<;>simp only[Leq]at h<;>first|(cases h;done)|rfl|(exact h.elim)|skip)
def qbi:∀{l m:List AV},zq l m->m.all AV.atom=true->l.all AV.atom=true
 |[],[],_,_=>rfl
 | a::r,b::s,h,hm=>by
  simp only[zq,qAh,qyJ]at h hm⊢;exact⟨qlN h.1 hm.1,qbi h.2 hm.2⟩
 |[],_::_,h,_=>by simp[zq]at h
 |_::_,[],h,_=>by simp[zq]at h
def zq.of_map{f g}(h:∀a,Leq (f a) (g a)):∀l:List AV,zq (l.map f) (l.map g)
 |[]=>by simp[zq]
 |a::r=>by simp only[qyR,zq];exact⟨h a,zq.of_map h r⟩
def qC1:=@zq.of_map
def Kw.of_map{f g}(h:∀a,Leq (f a) (g a)):∀l:List AV,Kw (l.map f) (l.map g)
 |[]=>by simp[Kw]
 |a::r=>by simp only[qyR,Kw];exact⟨h a,Kw.of_map h r⟩
def yj.of_map{f g}(h:∀a,Leq (f a) (g a)):∀l:List (List AV),(l.map (·.map g)).all (·.all AV.atom)=true->yj (l.map (·.map f)) (l.map (·.map g))
 |[],_=>by simp[yj]
 | a::r,ha=>by
  simp only[qyR,qAh,qyJ,yj]at ha⊢;exact⟨.inr ⟨qC1 h a,ha.1⟩,yj.of_map h r ha.2⟩
def Yl{f g}(h:∀a,Leq (f a) (g a)):∀l:List (List AV),(l.map (·.map g)).all (·.all AV.atom)=true->(l.map (·.map f)).all (·.all AV.atom)=true
 |[],_=>rfl
 | a::r,ha=>by
  simp only[qyR,qAh,qyJ]at ha⊢;exact⟨qbi (qC1 h a) ha.1,Yl h r ha.2⟩
def Leq.any(a):Leq a .any:=by cases a<;>simp[Leq]
def qeB{H H':List Blk}(hH:∀(b:Nat) (x:Blk),H[b]?=some x->H'[b]?=some x):∀(n:Nat) (a:AV),Leq (frz H' n a) (frz H n a)
 |0,a=>by simp only[frz];exact qCT _
 | n+1,a=>by
  have ih:=qeB hH n;by_cases hn:zb a=true
  . simp only[frz,hn,if_true];exact qCT _
  cases a with
  | ptr b off=>
   simp only[frz,hn,qy4,if_false]
   cases hb:H[b]? with
   |none=>exact Leq.any _
   | some x=>
    rw[hH b x hb]
    cases x with
    |cells c=>simp only[Leq];exact Kw.of_map ih _
    |_=>exact Leq.any _
  | ms b off len sz=>
   simp only[frz,hn,qy4,if_false]
   cases hb:H[b]? with
   |none=>exact Leq.any _
   | some x=>
    rw[hH b x hb]
    cases x with
    | cells c=>
     simp only;by_cases hc:off+len*sz<=c.length/\((vg sz len (c.drop off)).map (·.map (frz H n))).all (·.all AV.atom)=true
     . rw[if_pos hc,if_pos ⟨hc.1,Yl ih _ hc.2⟩];simp only[Leq];exact .inr ⟨trivial,yj.of_map ih _ hc.2,.inl trivial⟩
     rw[if_neg hc];exact Leq.any _
    |_=>exact Leq.any _
  |rptr c=>simp only[frz,hn,qy4,if_false,Leq];exact Kw.of_map ih _
  | sl sz rows tok=>
   simp only[frz,hn,qy4,if_false];by_cases hc:(rows.map (·.map (frz H n))).all (·.all AV.atom)=true
   . rw[if_pos hc,if_pos (Yl ih _ hc)];simp only[Leq];exact .inr ⟨trivial,yj.of_map ih _ hc,.inl trivial⟩
   rw[if_neg hc];exact Leq.any _
  |fn f x y=>simp only[frz,hn,qy4,if_false,Leq];exact⟨trivial,qC1 ih _,qC1 ih _⟩
  |agg c=>simp only[frz,hn,qy4,if_false,Leq];exact qC1 ih _
  |tup c=>simp only[frz,hn,qy4,if_false,Leq];exact qC1 ih _
  |_=>simp only[frz,hn,qy4,if_false];exact qCT _
def Pure.less'{f args args' r}(h:Pure P G f args' r)(ha:zq args args'):Pure P G f args r :=
 ⟨h.1,fun w0 ro vs hg hro hvs=>h.2 w0 ro vs hg hro (zq.rel _ _ ha hvs)⟩
def Qk.mono{g args r}{U τ:St}(h:Qk P G g args U r)(hH:∀(b:Nat) (x:Blk),U.H[b]?=some x->τ.H[b]?=some x):Qk P G g args τ r:=by
 rcases h with h|⟨h1,h2⟩
 . exact .inl h
 exact .inr ⟨h1,h2.less' (qC1 (qeB hH 8) args)⟩
end
def qjq:Op->Nat
 |.move _|.assign _|.pick ..|.nilCheck _|.binOp ..|.unOp ..|.convert ..|.fieldAddr ..|.field ..|.indexAddr ..|.index ..|.extract ..|.slice ..|.makeFunc ..|.build ..|.buildSlice .. =>0
 |.load ..|.lookup .. =>1
 |.call {callee:=.builtin b,.. }=>match b with|.len=>1|.min=>0|.max=>0|_=>2
 |.call {callee:=.value _,.. }=>1
 |_=>2
section
variable {P:Program}{G:Nat->AV}{N:Nat}{env env':Env}{U U':St}{ops:Array Oper}{o:Oper}{v:AV}
def qwJ(h:qjq o.op=0)(hs:wj P G ops o env U v U'):U'=U/\∀τ,wj P G ops o env τ v τ:=by
 rcases hs with⟨h1,rfl,rfl⟩|⟨h1,h2⟩
 . exact⟨rfl,fun τ=>.inl ⟨h1,rfl,rfl⟩⟩
 rcases h2 with h2|⟨f,args,ts,g,first,cap,ho,_⟩
 . have key:U'=U/\∀τ,sem (Dof P) G env τ o.op=some (v,τ):=by
    obtain⟨dst,op,ty,pos,after,guard⟩:=o;simp only at h h2⊢;cases op<;>simp only[qjq]at h<;>try(cases h;done)
    case call c=>
     obtain⟨callee,args,ts⟩:=c
     cases callee with
     | builtin b=>
      simp only at h;split at h
      . cases h
      . simp only[sem,zB]at h2⊢;split at h2<;>first
         | (obtain⟨u,hu,he⟩:=qyM.1 h2
            simp only[qyW]at he;obtain⟨rfl,rfl⟩:=he;exact⟨rfl,fun τ=>by simp_all⟩)
         |(rename_i hb _ _;cases hb;done)
         |(cases h2;done)
         |skip
        all_goals simp_all
      . simp only[sem,zB]at h2⊢;split at h2<;>first
         | (obtain⟨u,hu,he⟩:=qyM.1 h2
            simp only[qyW]at he;obtain⟨rfl,rfl⟩:=he;exact⟨rfl,fun τ=>by simp_all⟩)
         |(rename_i hb _ _;cases hb;done)
         |(cases h2;done)
         |skip
        all_goals simp_all
      cases h
     |value f=>simp at h
     |invoke r m=>simp at h
    case makeFunc fn a b=>
     cases fn<;>simp only[sem]at h2⊢<;>first|(cases h2;done)|skip
     cases h2;exact⟨rfl,fun τ=>rfl⟩
    case pick c a b=>
     simp only[sem]at h2⊢;split at h2
     . cases h2;exact⟨rfl,fun τ=>by simp_all⟩
     cases h2
    case nilCheck x=>
     simp only[sem]at h2⊢;split at h2
     . cases h2;exact⟨rfl,fun τ=>by simp_all⟩
     . cases h2;exact⟨rfl,fun τ=>by simp_all⟩
     cases h2
    case slice t x lo hi mx=>
     simp only[sem]at h2⊢;split at h2
     . split at h2
       . obtain⟨u,hu,he⟩:=qyM.1 h2;simp only[qyW]at he;obtain⟨rfl,rfl⟩:=he;exact⟨rfl,fun τ=>by simp_all⟩
       . split at h2
         . split at h2
           . obtain⟨u,hu,he⟩:=qyM.1 h2;simp only[qyW]at he;obtain⟨rfl,rfl⟩:=he;exact⟨rfl,fun τ=>by simp_all⟩
           . cases h2
         . split at h2
           . obtain⟨u,hu,he⟩:=qyM.1 h2;simp only[qyW]at he;obtain⟨rfl,rfl⟩:=he;exact⟨rfl,fun τ=>by simp_all⟩
           . cases h2
         . cases h2
       . cases h2
     cases h2
    all_goals
     simp only[sem]at h2⊢
     first
      | (obtain⟨u,hu,he⟩:=qyM.1 h2
         simp only[qyW]at he;obtain⟨rfl,rfl⟩:=he;exact⟨rfl,fun τ=>by rw[hu];rfl⟩)
      | (cases h2
         exact⟨rfl,fun τ=>rfl⟩)
   exact⟨key.1,fun τ=>.inr ⟨h1,.inl (key.2 τ)⟩⟩
 rw[ho]at h;simp[qjq]at h
def qxN(h:qjq o.op=1)(hs:wj P G ops o env U v U'):U'=U:=by
 rcases hs with⟨h1,rfl,rfl⟩|⟨h1,h2⟩
 . rfl
 rcases h2 with h2|⟨f,args,ts,g,first,cap,ho,_,_,e⟩
 . obtain⟨dst,op,ty,pos,after,guard⟩:=o;simp only at h h2;cases op<;>simp only[qjq]at h<;>try(cases h;done)
   case load t a=>
    simp only[sem]at h2;obtain⟨u,hu,he⟩:=qyM.1 h2;simp only[qyW]at he;exact he.2.symm
   case lookup t a i ok=>
    simp only[sem]at h2;obtain⟨u,hu,he⟩:=qyM.1 h2;simp only[qyW]at he;exact he.2.symm
   case call c=>
    obtain⟨callee,args,ts⟩:=c
    cases callee with
    | builtin b=>
     simp only[sem]at h2;simp only at h;unfold zB at h2;split at h2
     . obtain⟨u,hu,he⟩:=qyM.1 h2;simp only[qyW]at he;exact he.2.symm
     . simp at h
     . simp at h
     . simp at h
     . simp at h
     cases h2
    |value f=>simp[sem]at h2
    |invoke r m=>simp[sem]at h2
 exact e
def qn2{t u x}(h:∀d,t=some d->x≠.tmp d):ev G (upd env t u) x=ev G env x:=by
 cases t with
 |none=>rfl
 | some d=>
  cases x with
  | tmp n=>
   have:¬n=d:=fun e=>h d rfl (by rw[e])
   simp[ev,upd,this]
  |_=>rfl
def wv{l}(h:∀x∈l,ev G env x=ev G env' x):V8 G env l=V8 G env' l:=qzW h
def qaL(D){op}(h:∀x∈op.operands,ev G env x=ev G env' x):sem D G env U op=sem D G env' U op:=by
 have pairs:∀ps:Array (Nat×Operand),(∀x∈ps.map (·.2),ev G env x=ev G env' x)->(ps.toList.map fun p=>(p.1,ev G env p.2))=(ps.toList.map fun p=>(p.1,ev G env' p.2)):=fun ps hp=>
  qzW fun p hm=>by
   rw[hp p.2 (Array.mem_map.2 ⟨p,by simpa using hm,rfl⟩)]
 have opt:∀m:Option Operand,(∀x,m=some x->ev G env x=ev G env' x)->m.map (ev G env)=m.map (ev G env'):=by
  intro m hm
  cases m with
  |none=>rfl
  |some x=>simp[hm x rfl]
 cases op<;>simp only[Op.operands]at h<;>simp only[sem]
 case build t ps=>rw[pairs ps fun x hx=>h x (by simpa using hx)]
 case buildSlice t n ps=>rw[pairs ps fun x hx=>h x (by simpa using hx)]
 case makeFunc fn a b=>
  cases fn<;>simp only;rw[wv (env:=env) (env':=env') (l:=a.toList) (fun x hx=>h x (by simp at hx;simp[hx])),wv (env:=env) (env':=env') (l:=b.toList) (fun x hx=>h x (by simp at hx;simp[hx]))]
 case call c=>
  obtain⟨callee,args,ts⟩:=c;cases callee<;>simp only;rw[wv (env:=env) (env':=env') (l:=args.toList) (fun x hx=>h x (by simp at hx;simp[Call.operands,hx]))]
 case slice t x lo hi mx=>
  rw[h x (by simp),opt lo (fun y e=>h y (by simp[e])),opt hi (fun y e=>h y (by simp[e])),opt mx (fun y e=>h y (by simp[e]))]
 case pick c a b=>rw[h c (by simp),h a (by simp),h b (by simp)]
 case store t a b=>rw[h a (by simp),h b (by simp)]
 case binOp op t a b u=>rw[h a (by simp),h b (by simp)]
 case makeSlice t a b=>rw[h a (by simp),h b (by simp)]
 case indexAddr t a b=>rw[h a (by simp),h b (by simp)]
 case index t a b=>rw[h a (by simp),h b (by simp)]
 case lookup t a b ok=>rw[h a (by simp),h b (by simp)]
 case mapUpdate t a b c=>rw[h a (by simp),h b (by simp),h c (by simp)]
 case makeMap t r=>cases r<;>rfl
 case next it b=>cases b<;>first|rfl|simp only[h it (by simp)]
 all_goals first
  |(rw[h _ (by simp)];done)
  |rfl
def jY{t:Option Nat}{u:AV}(h:∀d,t=some d->d∉o.looksAt ops):wj P G ops o (upd env t u) U v U'↔wj P G ops o env U v U':=by
 have hop:∀x∈o.op.operands,ev G (upd env t u) x=ev G env x:=fun x hx=>qn2 fun d hd hxd=>h d hd (by
  subst hxd;exact qzM _ (List.mem_filterMap.2 ⟨.tmp d,by simpa using hx,rfl⟩))
 have hw:jh ops (upd env t u) o=jh ops env o:=by
  unfold jh
  cases hg:o.guard with
  |none=>rfl
  | some jb=>
   obtain⟨j,b⟩:=jb
   cases hj:(ops[j]?).bind (·.dst) with
   |none=>simp[hj]
   | some s=>
    simp only[hj];have:upd env t u s=env s:=by
     cases t with
     |none=>rfl
     | some d=>
      have:¬s=d:=fun e=>h d rfl (by subst e;simp[Oper.looksAt,hg,hj])
      simp[upd,this]
    rw[this]
 have hsem:=qaL (G:=G) (U:=U) (Dof P) (op:=o.op) (env:=upd env t u) (env':=env) hop;have hpure:∀f args ts,o.op=.call {callee:=.value f,args:=args,argTypes:=ts}->ev G (upd env t u) f=ev G env f/\V8 G (upd env t u) args.toList=V8 G env args.toList:=by
  intro f args ts ho;rw[ho]at hop;simp only[Op.operands,Call.operands]at hop;exact⟨hop f (by simp),wv fun x hx=>hop x (by simp at hx;simp[hx])⟩
 unfold wj OpA;rw[hw,hsem];constructor
 . rintro(h1|⟨h1,h2|⟨f,args,ts,g,first,cap,ho,h3,h4⟩⟩)
   . exact .inl h1
   . exact .inr ⟨h1,.inl h2⟩
   . obtain⟨e1,e2⟩:=hpure f args ts ho;rw[e1]at h3;rw[e2]at h4;exact .inr ⟨h1,.inr ⟨f,args,ts,g,first,cap,ho,h3,h4⟩⟩
 rintro(h1|⟨h1,h2|⟨f,args,ts,g,first,cap,ho,h3,h4⟩⟩)
 . exact .inl h1
 . exact .inr ⟨h1,.inl h2⟩
 obtain⟨e1,e2⟩:=hpure f args ts ho;rw[<- e1]at h3;rw[<- e2]at h4;exact .inr ⟨h1,.inr ⟨f,args,ts,g,first,cap,ho,h3,h4⟩⟩
def qdC{s t u v}(h:∀d,s=some d->t≠some d):upd (upd env s u) t v=upd (upd env t v) s u:=by
 cases s with
 |none=>rfl
 | some d=>
  cases t with
  |none=>rfl
  | some e=>
   have hne:e≠d:=fun x=>h d rfl (by rw[x])
   funext i;simp only[upd];by_cases h1:i=e
   . subst h1;simp[hne]
   simp[h1]
def qX(mu:Bool)(ac:List Nat)(k:Nat)(op:Op):Nat :=
 match op with
 |.alloc _=>2
 |.box .. =>2
 |.makeMap _ none=>2
 |.call {callee:=.builtin .append,.. }=>if mu then 9 else 3
 |.call {callee:=.value _,.. }=>if ac.contains k then 9 else 1
 |op=>match qjq op with|0=>0|1=>1|_=>9
def qsV(x y:Nat):Bool:=x==0||y==0||(x==1&&(y==1||y==2||y==3))||(x==3&&(y==1||y==2))||(x==2&&y==3)
def qbz(ops:Array Oper)(x y:Oper)(cx cy:Nat):Bool:=x.apart ops y&&qsV cx cy
def qf2{D}{U τ:St}{t:Nat}{a u:AV}(hH:∀(b:Nat) (x:Blk),U.H[b]?=some x->τ.H[b]?=some x)(h:yQ D U t a=some u):yQ D τ t a=some u:=by
 unfold yQ at h⊢
 cases hD:D t with
 |none=>simp[hD]at h
 | some i=>
  cases a<;>simp only[hD]at h⊢<;>first|exact h|(cases h;done)|skip
  rename_i b off
  cases hb:U.H[b]? with
  |none=>simp[hb]at h
  |some x=>rw[hH _ _ hb];rwa[hb]at h
def qbg{D}{U τ:St}{t}{m k u:AV}{ok:Bool}(hH:∀(b:Nat) (x:Blk),U.H[b]?=some x->τ.H[b]?=some x)(h:zl D U t m k ok=some u):zl D τ t m k ok=some u:=by
 unfold zl at h⊢
 cases hD:D t with
 |none=>simp[hD]at h
 | some i=>
  simp only[hD]at h⊢;cases hd:i.d<;>simp only[hd]at h⊢<;>first|(cases h;done)|skip
  rename_i kt et;by_cases hk:zt D kt k=true
  . rw[if_pos hk]at h⊢;cases m<;>simp only at h⊢<;>first|exact h|(cases h;done)|skip
    rename_i b
    cases hb:U.H[b]? with
    |none=>simp[hb]at h
    |some x=>rw[hH _ _ hb];rwa[hb]at h
  rw[if_neg hk]at h;cases h
def qij{D}{U τ:St}{t:Nat}{x u:AV}(hH:∀(b:Nat) (x:Blk),U.H[b]?=some x->τ.H[b]?=some x)(h:JO D U t x=some u):JO D τ t x=some u:=by
 unfold JO at h⊢
 cases hD:D t with
 |none=>simp[hD]at h
 | some i=>
  simp only[hD]at h⊢;cases x<;>cases hd:i.d<;>simp only[hd]at h⊢<;>first|exact h|(cases h;done)|skip
  rename_i b _ _
  cases hb:U.H[b]? with
  |none=>simp[hb]at h
  |some x=>rw[hH _ _ hb];rwa[hb]at h
def qxO{D U ts vs v U'}(h:zB D U .append ts vs=some (v,U')):∃t s x,ts=[t,t]/\vs=[s,x]/\qL D U t s x=some (v,U'):=by
 match ts,vs,h with
 | [t,u],[s,x],h=>
  simp only[zB]at h;split at h
  . rename_i hut;subst hut;exact⟨_,s,x,rfl,rfl,h⟩
  cases h
 |[],_,h=>simp[zB]at h
 |[_],_,h=>simp[zB]at h
 |_::_::_::_,_,h=>simp[zB]at h
 |[_,_],[],h=>simp[zB]at h
 |[_,_],[_],h=>simp[zB]at h
 |[_,_],_::_::_::_,h=>simp[zB]at h
def qxM{D U ts vs v U'}(h:zB D U .len ts vs=some (v,U')):∃t x,ts=[t]/\vs=[x]/\JO D U t x=some v:=by
 cases ts with
 |nil=>simp[zB]at h
 | cons t r=>
  cases r with
  |cons _ _=>simp[zB]at h
  | nil=>
   cases vs with
   |nil=>simp[zB]at h
   | cons x s=>
    cases s with
    |cons _ _=>simp[zB]at h
    | nil=>
     simp only[zB]at h;obtain⟨u,hu,he⟩:=qyM.1 h;simp only[qyW]at he;obtain⟨rfl,_⟩:=he;exact⟨t,x,rfl,rfl,hu⟩
def Yp(h:qjq o.op=1)(hs:wj P G ops o env U v U'):U'=U/\∀τ:St,(∀(b:Nat) (x:Blk),U.H[b]?=some x->τ.H[b]?=some x)->wj P G ops o env τ v τ:=by
 have e:=qxN h hs;refine⟨e,fun τ hH=>?_⟩;subst e;rcases hs with⟨h1,rfl,_⟩|⟨h1,h2⟩
 . exact .inl ⟨h1,rfl,rfl⟩
 refine .inr ⟨h1,?_⟩;rcases h2 with h2|⟨f,args,ts,g,first,cap,ho,hf,hp,_⟩
 . left;obtain⟨dst,op,type,pos,after,guard⟩:=o;simp only at h h2⊢;cases op<;>simp only[qjq]at h<;>try(cases h;done)
   case load t a=>
    simp only[sem]at h2⊢;obtain⟨u,hu,he⟩:=qyM.1 h2;simp only[qyW]at he;obtain⟨rfl,_⟩:=he;rw[qf2 hH hu];rfl
   case lookup t a i ok=>
    simp only[sem]at h2⊢;obtain⟨u,hu,he⟩:=qyM.1 h2;simp only[qyW]at he;obtain⟨rfl,_⟩:=he;rw[qbg hH hu];rfl
   case call c=>
    obtain⟨callee,args,ts⟩:=c
    cases callee with
    | builtin b=>
     simp only at h;simp only[sem]at h2⊢;cases b<;>simp only at h<;>try(cases h;done)
     obtain⟨t,x,e1,e2,hu⟩:=qxM h2;rw[e1,e2];simp only[zB,qij hH hu];rfl
    |value f=>simp[sem]at h2
    |invoke r m=>simp[sem]at h2
 exact .inr ⟨f,args,ts,g,first,cap,ho,hf,hp.mono hH,rfl⟩
def Vo(h:(∃e,o.op=.alloc e)\/(∃e x,o.op=.box e x)\/(∃t,o.op=.makeMap t none))(hs:wj P G ops o env U v U'):
 (∀(b:Nat) (x:Blk),U.H[b]?=some x->U'.H[b]?=some x)/\U'.T=U.T/\∀T,wj P G ops o env ⟨U.H,T⟩ v ⟨U'.H,T⟩:=by
 have push:∀(b:Blk) (i:Nat) (x:Blk),U.H[i]?=some x->(U.H++[b])[i]?=some x:=fun b i x hi=>by
  rw[qyT (qyF.1 hi).1];exact hi
 rcases hs with⟨h1,rfl,rfl⟩|⟨h1,h2⟩
 . exact⟨fun _ _ e=>e,rfl,fun T=>.inl ⟨h1,rfl,rfl⟩⟩
 rcases h2 with h2|⟨f,args,ts,g,first,cap,ho,hf,hp,_⟩
 . obtain⟨dst,op,type,pos,after,guard⟩:=o;simp only at h h2;rcases h with⟨e,rfl⟩|⟨e,x,rfl⟩|⟨t,rfl⟩
   . simp only[sem]at h2;split at h2
     . rename_i i hD;split at h2
       . rename_i hz;cases h2;exact⟨push _,rfl,fun T=>.inr ⟨h1,.inl (by simp[sem,hD,hz,St.push])⟩⟩
       cases h2
     cases h2
   . simp only[sem]at h2;obtain⟨c,hc,he⟩:=qyM.1 h2;simp only[qyW]at he;obtain⟨rfl,rfl⟩:=he;exact⟨push _,rfl,fun T=>.inr ⟨h1,.inl (by simp[sem,hc,St.push])⟩⟩
   simp only[sem,qyU,qyW]at h2;obtain⟨rfl,rfl⟩:=h2;exact⟨push _,rfl,fun T=>.inr ⟨h1,.inl (by simp[sem,St.push])⟩⟩
 rw[ho]at h;rcases h with⟨e,h⟩|⟨e,x,h⟩|⟨t,h⟩<;>cases h
def VX{args ts}(h:o.op=.call {callee:=.builtin .append,args:=args,argTypes:=ts})(hs:wj P G ops o env U v U'):
 U'.H=U.H/\∀H,wj P G ops o env ⟨H,U.T⟩ v ⟨H,U'.T⟩:=by
 rcases hs with⟨h1,rfl,rfl⟩|⟨h1,h2⟩
 . exact⟨rfl,fun H=>.inl ⟨h1,rfl,rfl⟩⟩
 rcases h2 with h2|⟨f,args',ts',g,first,cap,ho,hf,hp,_⟩
 . obtain⟨dst,op,type,pos,after,guard⟩:=o;simp only at h;subst h;simp only[sem]at h2;have key:U'.H=U.H/\∀H,zB (Dof P) ⟨H,U.T⟩ .append ts.toList (V8 G env args.toList)=some (v,⟨H,U'.T⟩):=by
    obtain⟨t,s,x,e1,e2,h3⟩:=qxO h2;rw[e1,e2];simp only[zB,if_true];unfold qL at h3⊢;split at h3
    case h_2=>cases h3
    rename_i i sz rows tok sz2 rows2 hD hr
    try simp only[]
    split at h3
    case h_2=>cases h3
    rename_i e hd;split at h3
    case h_2=>cases h3
    rename_i j hj
    try simp only[hj]
    split at h3
    case isFalse=>cases h3
    rename_i hc
    try simp only[if_pos hc]
    split at h3
    . rename_i hn;cases h3;exact⟨rfl,fun H=>by rw[if_pos hn]⟩
    rename_i hn;split at h3
    . cases h3
    . cases h3;exact⟨rfl,fun H=>by rw[if_neg hn]⟩
    . cases h3;exact⟨rfl,fun H=>by rw[if_neg hn]⟩
    split at h3
    . rename_i hk;cases h3;exact⟨rfl,fun H=>by rw[if_neg hn,if_pos hk]⟩
    cases h3
   exact⟨key.1,fun H=>.inr ⟨h1,.inl (by simp only[sem];exact key.2 H)⟩⟩
 rw[h]at ho;cases ho
def qjp{mu ac k op}:
 (qX mu ac k op=0->qjq op=0)/\(qX mu ac k op=1->qjq op=1)/\(qX mu ac k op=2->(∃e,op=.alloc e)\/(∃e x,op=.box e x)\/(∃t,op=.makeMap t none)) /\
   (qX mu ac k op=3->∃args ts,op=.call {callee:=.builtin .append,args:=args,argTypes:=ts}):=by
 unfold qX;split
 . simp
 . simp
 . simp
 . cases mu<;>simp
 . split<;>simp[qjq]
 rename_i op h1 h2 h3 h4 h5;split
 . rename_i h;simp[h]
 . rename_i h;simp[h]
 simp
def qvv{oi oj vi vj U1 U2 mu ac i j}(hf:qbz ops oi oj (qX mu ac i oi.op) (qX mu ac j oj.op)=true)(hi:wj P G ops oi env U vi U1)(hj:wj P G ops oj (upd env oi.dst vi) U1 vj U2):
 ∃τ,wj P G ops oj env U vj τ/\wj P G ops oi (upd env oj.dst vj) τ vi U2/\upd (upd env oj.dst vj) oi.dst vi=upd (upd env oi.dst vi) oj.dst vj:=by
 simp only[qbz,qsV,qyJ,qA1,beq_iff_eq]at hf;obtain⟨ha,hc⟩:=hf;obtain⟨a1,a2,a3⟩:=Oper.apart_spec ha;have hj':=(jY a1).1 hj;have hcomm:upd (upd env oj.dst vj) oi.dst vi=upd (upd env oi.dst vi) oj.dst vj:=(qdC a2).symm;obtain⟨ci0,ci1,ci2,ci3⟩:=qjp (mu:=mu) (ac:=ac) (k:=i) (op:=oi.op);obtain⟨cj0,cj1,cj2,cj3⟩:=qjp (mu:=mu) (ac:=ac) (k:=j) (op:=oj.op);rcases hc with(((hc|hc)|⟨hc,hc2⟩)|⟨hc,hc2⟩)|⟨hc,hc2⟩
 . obtain⟨rfl,hall⟩:=qwJ (ci0 hc) hi;exact⟨U2,hj',(jY a3).2 (hall U2),hcomm⟩
 . obtain⟨rfl,hall⟩:=qwJ (cj0 hc) hj';exact⟨U,hall U,(jY a3).2 hi,hcomm⟩
 . obtain⟨rfl,hall⟩:=Yp (ci1 hc) hi;have hH:∀(b:Nat) (x:Blk),U1.H[b]?=some x->U2.H[b]?=some x:=by
    rcases hc2 with(hc2|hc2)|hc2
    . obtain⟨rfl,_⟩:=Yp (cj1 hc2) hj';exact fun _ _ e=>e
    . exact(Vo (cj2 hc2) hj').1
    obtain⟨args,ts,ho⟩:=cj3 hc2;rw[(VX ho hj').1];exact fun _ _ e=>e
   exact⟨U2,hj',(jY a3).2 (hall U2 hH),hcomm⟩
 . obtain⟨args,ts,ho⟩:=ci3 hc;obtain⟨e1,hall⟩:=VX ho hi;obtain⟨H,T⟩:=U;obtain⟨H1,T1⟩:=U1;simp only at e1 hall;subst e1;rcases hc2 with hc2|hc2
   . obtain⟨rfl,hallj⟩:=Yp (cj1 hc2) hj';exact⟨⟨H1,T⟩,hallj _ (fun _ _ e=>e),(jY a3).2 (hall H1),hcomm⟩
   obtain⟨_,e2,hallj⟩:=Vo (cj2 hc2) hj';obtain⟨H2,T2⟩:=U2;simp only at e2 hallj;subst e2;exact⟨⟨H2,T⟩,hallj T,(jY a3).2 (hall H2),hcomm⟩
 obtain⟨args,ts,ho⟩:=cj3 hc2;obtain⟨e1,hallj⟩:=VX ho hj';obtain⟨_,e2,hall⟩:=Vo (ci2 hc) hi;obtain⟨H,T⟩:=U;obtain⟨H1,T1⟩:=U1;obtain⟨H2,T2⟩:=U2;simp only at e1 e2 hall hallj;subst e1;subst e2;exact⟨⟨H,T2⟩,hallj H,(jY a3).2 (hall T2),hcomm⟩
def JE(P:Program)(G:Glo)(ops:Array Oper)(mu:Bool)(ac:List Nat)(R:Env->St->Prop):Nat->Array Bool->Env->St->Prop
 |0,listed,env,U=>Region.ready .any ops listed=[]/\R env U
 | fuel+1,listed,env,U=>(Region.ready .any ops listed=[]->R env U) /\
  ∀ i∈Region.ready .any ops listed,∃o,ops[i]?=some o /\
   ((∃v U',wj P G ops o env U v U'/\JE P G ops mu ac R fuel (listed.setIfInBounds i true) (upd env o.dst v) U') \/
    (qX mu ac i o.op=9/\jh ops env o=some true/\jy P G mu false o.op env U (fun v U'=>JE P G ops mu ac R fuel (listed.setIfInBounds i true) (upd env o.dst v) U')))
def qgj(ops:Array Oper)(listed:Array Bool)(i:Nat)(dp:List Nat):Bool :=
 dp.all fun j=>!listed.getD j true&&(match ops[j]? with
  |some oj=>oj.after.any fun e=>Region.binds .any e&&(e.on==i||dp.contains e.on)
  |none=>true)
def qh0{listed i j dp}(hd:qgj ops listed i dp=true)(hi:listed.getD i true=false)(hj:j∈Region.ready .any ops listed):j∉dp:=by
 intro hm;have h1:=qyP.1 hd j hm;simp only[qyJ,qz4]at h1;obtain⟨hun,oj,hoj,hall⟩:=mem_ready.1 hj;rw[hoj]at h1;obtain⟨e,he,he2⟩:=Array.any_eq_true'.1 h1.2;simp only[qyJ,qA1,beq_iff_eq]at he2;have hl:=hall e he he2.1;have tt:∀k,listed.getD k true=false->listed.getD k false=true->False:=by
  intro k h2 h3;rcases qCa k listed.size with h'|h'
  . simp[h']at h2 h3;rw[h2]at h3;cases h3
  simp[Array.getElem?_eq_none h']at h3
 rcases he2.2 with h2|h2
 . rw[h2]at hl;exact tt i hi hl
 have h3:=qyP.1 hd e.on (by simpa using h2);simp only[qyJ,qz4]at h3;exact tt _ h3.1 hl
def qbO{listed i j dp}(hd:qgj ops listed i dp=true)(hj:j∉dp):qgj ops (listed.setIfInBounds j true) i dp=true:=by
 refine qyP.2 fun k hk=>?_
 have h1:=qyP.1 hd k hk;simp only[qyJ,qz4]at h1⊢;have hjk:j≠k:=fun e=>hj (e▸hk)
 exact⟨by rw[getD_set_ne true hjk];exact h1.1,h1.2⟩
def qcN{o:Oper}{d:Nat}(h:d∉o.looksAt ops):.tmp d∉o.op.operands.toList:=fun hm=>h (qzM _ (List.mem_filterMap.2 ⟨.tmp d,hm,rfl⟩))
def qah{t:Option Nat}{u:AV}(h:∀d,t=some d->d∉o.looksAt ops):jh ops (upd env t u) o=jh ops env o:=by
 unfold jh
 cases hg:o.guard with
 |none=>rfl
 | some jb=>
  obtain⟨j,b⟩:=jb
  cases hj:(ops[j]?).bind (·.dst) with
  |none=>simp[hj]
  | some s=>
   simp only[hj];have:upd env t u s=env s:=by
    cases t with
    |none=>rfl
    | some d=>
     have:¬s=d:=fun e=>h d rfl (by subst e;simp[Oper.looksAt,hg,hj])
     simp[upd,this]
   rw[this]
def qfA(D){mu op}(h:∀x∈op.operands,ev G env x=ev G env' x):qaM D G mu env U op=qaM D G mu env' U op:=by
 cases op<;>simp only[Op.operands]at h<;>simp only[qaM]
 case makeSlice t x y=>rw[h x (by simp),h y (by simp)]
 case binOp o t x y u=>rw[h x (by simp),h y (by simp)]
 case call c=>
  obtain⟨callee,args,ts⟩:=c;cases callee<;>simp only;rename_i b;have ha:∀x∈args.toList,ev G env x=ev G env' x:=fun x hx=>h x (by simp at hx;simp[Call.operands,hx])
  generalize ts.toList=tl;generalize args.toList=al at ha;split
  . cases mu
    . rfl
    . simp only[ha _ (qAu),ha _ (qAk _ (qAu))]
  . simp only[ha _ (qAu)]
  . simp only[ha _ (qAu),ha _ (qAk _ (qAu))]
  rfl
variable {G:Glo}
def qkv{mu op t u R}(h:∀d,t=some d->.tmp d∉op.operands.toList):jy P G mu false op (upd env t u) U R↔jy P G mu false op env U R:=by
 have hop:∀x∈op.operands,ev G (upd env t u) x=ev G env x:=fun x hx=>qn2 fun d hd hxd=>h d hd (by subst hxd;simpa using hx)
 by_cases hc:∃f args ts,op=.call {callee:=.value f,args:=args,argTypes:=ts}
 . obtain⟨f,args,ts,rfl⟩:=hc;simp only[Op.operands,Call.operands]at hop;simp only[jy];rw[hop f (by simp),wv (l:=args.toList) (fun x hx=>hop x (by simp at hx;simp[hx]))]
 rw[jy.plain hc,jy.plain hc,qfA (Dof P) hop,qaL (Dof P) hop]
variable {mu:Bool}{ac:List Nat}
def JE.first{R i oi vi dp}(hi:ops[i]?=some oi):∀(fuel) (listed) (env) (U U1),
 qgj ops listed i dp=true ->
 (∀(j) (oj),ops[j]?=some oj->j≠i->listed.getD j true=false->j∉dp->qbz ops oi oj (qX mu ac i oi.op) (qX mu ac j oj.op)=true/\(qX mu ac j oj.op≠9\/qX mu ac i oi.op=0)) ->
 i∈Region.ready .any ops listed->wj P G ops oi env U vi U1->JE P G ops mu ac R fuel (listed.setIfInBounds i true) (upd env oi.dst vi) U1->JE P G ops mu ac R (fuel+1) listed env U:=by
 intro fuel
 induction fuel with
 | zero=>
  intro listed env U U1 hd _ hr hs H;refine⟨fun h=>(by rw[h]at hr;cases hr),fun j hj=>?_⟩;by_cases hji:j=i
  . subst hji;exact⟨oi,hi,.inl ⟨vi,U1,hs,H⟩⟩
  have:=ready_mono hj hji;rw[H.1]at this;cases this
 | succ fuel ih=>
  intro listed env U U1 hd hfree hr hs H;refine⟨fun h=>(by rw[h]at hr;cases hr),fun j hj=>?_⟩;by_cases hji:j=i
  . subst hji;exact⟨oi,hi,.inl ⟨vi,U1,hs,H⟩⟩
  obtain⟨oj,hoj,hst⟩:=H.2 j (ready_mono hj hji);obtain⟨hjun,oj',hoj',hall⟩:=mem_ready.1 hj;rw[hoj]at hoj';cases hoj';have hnd:=qh0 hd (mem_ready.1 hr).1 hj;obtain⟨hf1,hf2⟩:=hfree j oj hoj hji hjun hnd;have rest:∀(k:Nat) (ok:Oper),ops[k]?=some ok->k≠i->(listed.setIfInBounds j true).getD k true=false->k∉dp->qbz ops oi ok (qX mu ac i oi.op) (qX mu ac k ok.op)=true/\(qX mu ac k ok.op≠9\/qX mu ac i oi.op=0):=by
   intro k ok hk hki hun hkd;refine hfree k ok hk hki ?_ hkd;by_cases hjk:j=k
   . subst hjk;exact hjun
   rwa[getD_set_ne true hjk]at hun
  rcases hst with⟨vj,U2,hsj,H2⟩|⟨hc9,hw9,H2⟩
  . obtain⟨τ,s1,s2,s3⟩:=qvv hf1 hs hsj;refine⟨oj,hoj,.inl ⟨vj,τ,s1,ih (listed.setIfInBounds j true) _ τ U2 (qbO hd hnd) rest (ready_mono hr (Ne.symm hji)) s2 ?_⟩⟩
    rwa[qCb _ _ hji,s3]
  have h0:=hf2.resolve_left (fun h=>h hc9);simp only[qbz,qyJ]at hf1;obtain⟨a1,a2,a3⟩:=Oper.apart_spec hf1.1;obtain⟨rfl,hpure⟩:=qwJ ((qjp (mu:=mu) (ac:=ac) (k:=i) (op:=oi.op)).1 h0) hs;refine⟨oj,hoj,.inr ⟨hc9,by rw[<- qah (t:=oi.dst) (u:=vi) a1];exact hw9,?_⟩⟩;refine((qkv (t:=oi.dst) (u:=vi) (fun d hd=>qcN (a1 d hd))).1 H2).imp fun v U' hv=>?_
  refine ih (listed.setIfInBounds j true) _ U' U' (qbO hd hnd) rest (ready_mono hr (Ne.symm hji)) ((jY a3).2 (hpure U')) ?_
  rwa[qCb _ _ hji,qdC (s:=oj.dst) (t:=oi.dst) (fun d hd e=>a2 d e hd)]
def JE.solo{R i oi dp}(hi:ops[i]?=some oi){fuel listed env U}(hd:qgj ops listed i dp=true)
 (hall:∀(j) (oj),ops[j]?=some oj->j≠i->listed.getD j true=false->j∈dp) (hr:i∈Region.ready .any ops listed)
 (H:(∃v U',wj P G ops oi env U v U'/\JE P G ops mu ac R fuel (listed.setIfInBounds i true) (upd env oi.dst v) U') \/
   (qX mu ac i oi.op=9/\jh ops env oi=some true/\jy P G mu false oi.op env U (fun v U'=>JE P G ops mu ac R fuel (listed.setIfInBounds i true) (upd env oi.dst v) U'))):
 JE P G ops mu ac R (fuel+1) listed env U:=by
 refine⟨fun h=>(by rw[h]at hr;cases hr),fun j hj=>?_⟩;by_cases hji:j=i
 . subst hji;exact⟨oi,hi,H⟩
 obtain⟨hjun,oj,hoj,_⟩:=mem_ready.1 hj;exact absurd (hall j oj hoj hji hjun) (qh0 hd (mem_ready.1 hr).1 hj)
def Qf(hsl:vw N ops=true){R w0 ro0 Q}:∀(fuel) (listed) (env) (U) (K) (a) (w),
 (∀K' env' U' a' w',K.le K'->WRel G w0 ro0 K' U' w'->ERel K' N env' a'->a'.defers=a.defers->R env' U'->Q .normal a' w') ->
 (∀c K' U' a' w',K.le K'->WRel G w0 ro0 K' U' w'->a'.defers=a.defers->G.X c U'->Q (.panic c) a' w')->WRel G w0 ro0 K U w->ERel K N env a->JE P G ops mu ac R fuel listed env U->wpAny P .any ops Q fuel listed a w
 |0,listed,env,U,K,a,w,hq,_,hw,he,h=>⟨h.1,hq K env U a w (qC3 K) hw he rfl h.2⟩
 | fuel+1,listed,env,U,K,a,w,hq,hp,hw,he,h=>by
  refine⟨fun h0=>hq K env U a w (qC3 K) hw he rfl (h.1 h0),fun i hi=>?_⟩;obtain⟨o,ho,H⟩:=h.2 i hi;have hmem:o∈ops.toList:=qyG (i:=i) (by simpa using ho);have hd:=QR hsl hmem;have hgd:=Qw hsl o;unfold wpOp;simp only[ho];rcases H with⟨v,U',hs,H⟩|⟨_,hwant,H⟩
  . rcases hs with⟨hwant,rfl,rfl⟩|⟨hwant,hop⟩
    . rw[if_neg (by simp[yk he hgd hwant])];exact Qf hsl fuel _ _ _ K _ w (fun K2 env2 U2 a2 w2 hle x1 x2 xd=>hq K2 env2 U2 a2 w2 hle x1 x2 (xd.trans qCG)) (fun c K2 U2 a2 w2 hle x1 xd=>hp c K2 U2 a2 w2 hle x1 (xd.trans qCG)) hw (he.put hd (by simp only[qg];exact⟨#[],rfl,by simp[qh]⟩)) H
    . rw[if_pos (yk he hgd hwant)];refine .inl (qpu hw he hd hop fun K' a' w' h1 h2 h3 hds=>?_);exact Qf hsl fuel _ _ _ K' a' w' (fun K2 env2 U2 a2 w2 hle x1 x2 xd=>hq K2 env2 U2 a2 w2 (qC4 h1 hle) x1 x2 (xd.trans hds)) (fun c K2 U2 a2 w2 hle x1 xd=>hp c K2 U2 a2 w2 (qC4 h1 hle) x1 (xd.trans hds)) h2 h3 H
  rw[if_pos (yk he hgd hwant)];refine .inl (qhT hw he hd H (fun v U' K' a' w' hA h1 h2 h3 hds=>?_) fun c U' K' w' hx h1 h2=>hp c K' U' _ w' h1 h2 rfl hx);exact Qf hsl fuel _ _ _ K' a' w' (fun K2 env2 U2 a2 w2 hle x1 x2 xd=>hq K2 env2 U2 a2 w2 (qC4 h1 hle) x1 x2 (xd.trans hds)) (fun c K2 U2 a2 w2 hle x1 xd=>hp c K2 U2 a2 w2 (qC4 h1 hle) x1 (xd.trans hds)) h2 h3 hA
end
mutual
inductive Sch where
 |done
 |step (k:Nat) (dp:List Nat) (s:Sch)
 |fork (a:Alts)
inductive Alts where
 |nil
 |cons (k:Nat) (s:Sch) (r:Alts)
end
def qaH(ops:Array Oper)(mu:Bool)(ac:List Nat)(listed:Array Bool)(k:Nat)(dp:List Nat):Bool :=
 (Region.ready .any ops listed).contains k&&qgj ops listed k dp&&(match ops[k]? with
   | some ok=>(List.range ops.size).all fun j=>j==k||listed.getD j true||dp.contains j||(qX mu ac k ok.op != 9&&(match ops[j]? with
    |some oj=>qbz ops ok oj (qX mu ac k ok.op) (qX mu ac j oj.op)&&(qX mu ac j oj.op != 9||qX mu ac k ok.op==0)
    |none=>true))
   |none=>false)
mutual
def qcA(ops:Array Oper)(mu:Bool)(ac:List Nat):Sch->Array Bool->Bool
 |.done,listed=>(Region.ready .any ops listed).isEmpty
 |.step k dp s,listed=>qaH ops mu ac listed k dp&&qcA ops mu ac s (listed.setIfInBounds k true)
 |.fork a,listed=>!(Region.ready .any ops listed).isEmpty&&qb4 ops mu ac a listed (Region.ready .any ops listed)
def qb4(ops:Array Oper)(mu:Bool)(ac:List Nat):Alts->Array Bool->List Nat->Bool
 |.nil,_,need=>need.isEmpty
 |.cons k s r,listed,need=>need.contains k&&qcA ops mu ac s (listed.setIfInBounds k true)&&qb4 ops mu ac r listed (need.filter (· != k))
end
mutual
def K7:Sch->Nat
 |.done=>0
 |.step _ _ s=>K7 s+1
 |.fork a=>VY a+1
def VY:Alts->Nat
 |.nil=>0
 |.cons _ s r=>max (K7 s) (VY r)
end
def qxr(ops:Array Oper)(k:Nat):List Nat :=
 (List.range ops.size).foldl (fun dp j=>match ops[j]? with
   |some oj=>if oj.after.any (fun e=>Region.binds .any e&&(e.on==k||dp.contains e.on)) then j::dp else dp
   |none=>dp) []
def qsD(ops:Array Oper)(mu:Bool)(ac:List Nat):Nat->Nat->Array Bool->Bool
 |0,_,listed=>(Region.ready .any ops listed).isEmpty
 |fuel+1,k,listed=>qaH ops mu ac listed k (qxr ops k)&&qsD ops mu ac fuel (k+1) (listed.setIfInBounds k true)
def qn9(ops:Array Oper)(mu lw:Bool):Bool:=qsD ops mu (if lw then [ops.size-1] else []) ops.size 0 (Array.replicate ops.size false)
structure Opts where
 mu:Bool
 fk:List (Nat×Sch×List Nat)
 lw:List Nat
 bw:List (Nat×Nat):=[]
def o0:Opts:=⟨false,[],[],[]⟩
def zT(N:Nat):Code->Bool
 |.skip|.exit _=>true
 |.region _ ops false=>vw N ops
 |.seq x y=>zT N x&&zT N y
 |.cond _ x y=>zT N x&&zT N y
 |.block _ c=>zT N c
 |_=>false
def jC(N:Nat)(o:Opts):Code->Bool
 |.skip|.ret|.exit _=>true
 | .region id ops d=>vw N ops&&(!d||(match o.fk.lookup id with
  |some (s,ac)=>qcA ops o.mu ac s (Array.replicate ops.size false)&&decide (K7 s<=ops.size)
  |none=>qn9 ops o.mu (o.lw.contains id)))
 |.seq x y=>jC N o x&&jC N o y
 |.cond _ x y=>jC N o x&&jC N o y
 |.block _ c=>jC N o c
 |.loop c=>jC N o c
 | .rangeFunc _ ps x y=>(match ps.toList with
  |[p,q]=>decide (p<N)&&decide (q<N)
  |[p]=>decide (p<N)
  |_=>false)&&zT N x&&zT N y
 |.scope c=>jC N o c
 |.label _=>true
 |_=>false
def qfg(c:Bool)(A B:Prop):Prop:=(c=true->A)/\(c=false->B)
def vcG(P:Program)(G:Glo)(mu d:Bool)(ops:Array Oper)(o:Oper)(env:Env)(U:St)(k:Env->AV->St->Prop):Prop :=
 match o.guard with
 |none=>jy P G mu d o.op env U (k env)
 | some (j,b)=>match(ops[j]?).bind (·.dst) with
  | some t=>match env t with
   |.bool c=>qfg (c==b) (jy P G mu d o.op (upd env (some t) (.bool b)) U (k (upd env (some t) (.bool b)))) (k (upd env (some t) (.bool (!b))) (.tup []) U)
   |.tup []=>k env (.tup []) U
   |_=>False
  |none=>k env (.tup []) U
def qcW:Op->Bool
 |.call {callee:=.value _,.. }=>true
 |_=>false
def qp0{α:Type}:List α->Bool
 |[]=>true
 |_=>false
def vcR(P:Program)(G:Glo)(mu:Bool)(ops:Array Oper)(d lw:Bool):List Oper->Env->St->(Env->St->Prop)->Prop
 |[],env,U,Q=>Q env U
 |o::rest,env,U,Q=>vcG P G mu (d&&!(lw&&qp0 rest&&qcW o.op)) ops o env U (fun env v U'=>vcR P G mu ops d lw rest (upd env o.dst v) U' Q)
mutual
def vcS(P:Program)(G:Glo)(mu:Bool)(ac:List Nat)(ops:Array Oper):Sch->Env->St->(Env->St->Prop)->Prop
 |.done,env,U,Q=>Q env U
 | .step k _ s,env,U,Q=>match ops[k]? with
  |some o=>vcG P G mu (qX mu ac k o.op != 9) ops o env U (fun env v U'=>vcS P G mu ac ops s (upd env o.dst v) U' Q)
  |none=>False
 |.fork a,env,U,Q=>vl P G mu ac ops a env U Q
def vl(P:Program)(G:Glo)(mu:Bool)(ac:List Nat)(ops:Array Oper):Alts->Env->St->(Env->St->Prop)->Prop
 |.nil,_,_,_=>True
 | .cons k s r,env,U,Q=>(match ops[k]? with
  |some o=>vcG P G mu (qX mu ac k o.op != 9) ops o env U (fun env v U'=>vcS P G mu ac ops s (upd env o.dst v) U' Q)
  |none=>False)/\vl P G mu ac ops r env U Q
end
abbrev FR(ro:Option Nat):Fence:={Fence.wide with round:=ro}
def qdB{env t v}(h:env t=v):upd env (some t) v=env:=by
 funext i;simp only[upd];split
 . rename_i e;rw[e,h]
 rfl
section
variable {P:Program}{G:Glo}{N:Nat}{env:Env}{U U':St}{w0:World}{ro0:Nat->Nat->Option Value}{K:Kn}{a:Act}{w:World}{ops:Array Oper}{o:Oper}{v:AV}{mu d:Bool}{ac:List Nat}
def kD{k}(h:vcG P G mu d ops o env U k):(jh ops env o=some false/\k env (.tup []) U)\/(jh ops env o=some true/\jy P G mu d o.op env U (k env)):=by
 unfold vcG at h;split at h
 . rename_i hg;exact .inr ⟨by simp[jh,hg],h⟩
 rename_i j b hg;split at h
 . rename_i t ht;split at h
   . rename_i c hc;by_cases hcb:c=b
     . have:=h.1 (by simp[hcb]);rw[hcb]at hc;rw[qdB hc]at this;exact .inr ⟨by simp[jh,hg,ht,hc],this⟩
     have hcb':c = !b:=(by cases c<;>cases b<;>simp_all);have:=h.2 (by simp[hcb]);rw[hcb']at hc;rw[qdB hc]at this;exact .inl ⟨by simp[jh,hg,ht,hc],this⟩
   . rename_i hc;exact .inl ⟨by simp[jh,hg,ht,hc],h⟩
   exact h.elim
 rename_i ht;exact .inl ⟨by simp[jh,hg,ht],h⟩
def qai(hs:vw N ops=true){lw Q}:∀(l) (env) (U) (K) (a) (w),(∀o∈l,o∈ops.toList)->vcR P G mu ops false lw l env U Q->WRel G w0 ro0 K U w->ERel K N env a ->
 ∀{Q':Exit->Act->World->Prop},(∀K' env' U' a' w',K.le K'->WRel G w0 ro0 K' U' w'->ERel K' N env' a'->a'.defers=a.defers->Q env' U'->Q' .normal a' w') ->
 (∀c K' U' a' w',K.le K'->WRel G w0 ro0 K' U' w'->a'.defers=a.defers->G.X c U'->Q' (.panic c) a' w')->wpList P ops Q' l a w
 |[],env,U,K,a,w,_,h,hw,he,Q',hq,_=>hq K env U a w (qC3 K) hw he rfl h
 | o::rest,env,U,K,a,w,hm,h,hw,he,Q',hq,hp=>by
  have hd:=QR hs (hm o (by simp));have hgd:=Qw hs o;have hrest:∀x∈rest,x∈ops.toList:=fun x hx=>hm x (by simp[hx])
  have cont:∀(v) (U') (K1) (a1) (w1),vcR P G mu ops false lw rest (upd env o.dst v) U' Q->K.le K1->WRel G w0 ro0 K1 U' w1->ERel K1 N (upd env o.dst v) a1->a1.defers=a.defers->wpList P ops Q' rest a1 w1 :=
   fun v U' K1 a1 w1 hv hle h1 h2 hds=>qai hs rest _ U' K1 a1 w1 hrest hv h1 h2 (fun K' env' U'' a' w' hle' x1 x2 xd=>hq K' env' U'' a' w' (qC4 hle hle') x1 x2 (xd.trans hds)) fun c K' U'' a' w' hle' x1 xd=>hp c K' U'' a' w' (qC4 hle hle') x1 (xd.trans hds)
  simp only[vcR,qAD]at h;unfold wpList;rcases kD h with⟨hwant,h⟩|⟨hwant,h⟩
  . have:=yk he hgd hwant;rw[if_neg (by simp[this])];exact cont _ U K _ w h (qC3 K) hw (he.put hd (by simp only[qg];exact⟨#[],rfl,by simp[qh]⟩)) qCG
  have:=yk he hgd hwant;rw[if_pos this];exact .inl (qhT hw he hd h (fun v U' K' a' w' hv h1 h2 h3 hds=>cont v U' K' a' w' hv h1 h2 h3 hds) fun c U' K' w' hx h1 h2=>hp c K' U' _ w' h1 h2 rfl hx)
def qhS(hX:G.NoX){ro n}(hw:WRel G w0 ro0 K U w)(he:ERel K N env a)(hd:∀d,o.dst=some d->d<N){R}(h:jy P G mu false o.op env U R){next Q}
 (hn:∀v v' U' K' w',R v U'->K.le K'->WRel G w0 ro0 K' U' w'->ERel K' N (upd env o.dst v) (a.put o.dst v')->next (a.put o.dst v') w'):o.wpIn (FR ro) n P a w next Q:=by
 have hnd:∀c,o.op≠.defer c:=by
  intro c e;rw[e]at h;simp[jy,vcX,qcJ,qaM,sem]at h
 refine⟨fun _ _=>trivial,?_⟩;rw[Oper.semAt_eq _ _ _ hnd];have did:∀v U',R v U'->Did P G w0 ro0 K w (execOp a.eval o) v U'->o.uponIn (FR ro) n P a next Q ((execOp a.eval o).run P w):=by
  intro v U' hr hdid;obtain⟨v',w',K',hrun,h1,h2,h3⟩:=hdid;rcases hrun with hrun|⟨hrun,rfl⟩
  . rw[hrun];exact hn v v' U' K' w' hr h1 h2 ((he.mono h1).put hd h3)
  rw[hrun];exact hn v _ U' K' w' hr h1 h2 ((he.mono h1).put hd h3)
 unfold jy at h;split at h
 . rename_i f args ts hop;split at h
   . rename_i g first cap hf
     have hac:=h;obtain⟨vs,hr,hvs⟩:=Y6 hw he hop hf hac.1;rw[hr,Oper.uponIn_enter];refine⟨fun e=>by simp[Fence.wide]at e,?_⟩;refine CallsIn.mono (F:=FR ro) (show CallsIn (FR ro) (n-1) P g vs w _ from(callsIn_wide (n:=n-1)).2 (hac.2 w0 ro0 K w vs hw hvs)) ?_;rintro e w' (⟨v',v,U',K',rfl,h1,h2,h3,h4⟩|⟨c,U',K',rfl,h1,h2,h3⟩)
     . exact hn v v' U' K' w' h4 h1 h2 ((he.mono h1).put hd h3)
     exact(hX c U' h3).elim
   exact h.elim
 simp only[vcX,qcJ]at h;split at h
 . rename_i l hl;obtain⟨v,U',h1,h2⟩:=K6 hw he o hl;exact did v U' (h v U' h1) h2
 split at h
 . rename_i v U' hs;exact did v U' h (Yf hw he o hs)
 exact h.elim
def J5(hX:G.NoX)(hs:vw N ops=true){ro n lw Q more}:∀(l) (env) (U) (K) (a) (w),(∀o∈l,o∈ops.toList)->vcR P G mu ops false lw l env U Q->WRel G w0 ro0 K U w->ERel K N env a ->
 ∀{Q':Exit->Act->World->Prop},(∀K' env' U' a' w',K.le K'->WRel G w0 ro0 K' U' w'->ERel K' N env' a'->a'.defers=a.defers->(∀t,(∀o∈l,o.dst≠some t)->a'.tmps.getD t undef=a.tmps.getD t undef)->Q env' U'->wpListIn (FR ro) n P ops Q' more a' w')->wpListIn (FR ro) n P ops Q' (l++more) a w
 |[],env,U,K,a,w,_,h,hw,he,Q',hq=>hq K env U a w (qC3 K) hw he rfl (fun _ _=>rfl) h
 | o::rest,env,U,K,a,w,hm,h,hw,he,Q',hq=>by
  have hd:=QR hs (hm o (by simp));have hgd:=Qw hs o;have hrest:∀x∈rest,x∈ops.toList:=fun x hx=>hm x (by simp[hx])
  have cont:∀(v) (v') (U') (K1) (w1),vcR P G mu ops false lw rest (upd env o.dst v) U' Q->K.le K1->WRel G w0 ro0 K1 U' w1->ERel K1 N (upd env o.dst v) (a.put o.dst v')->wpListIn (FR ro) n P ops Q' (rest++more) (a.put o.dst v') w1 :=
   fun v v' U' K1 w1 hv hle h1 h2=>J5 hX hs rest _ U' K1 _ w1 hrest hv h1 h2 fun K' env' U'' a' w' hle' x1 x2 xd xk=>hq K' env' U'' a' w' (qC4 hle hle') x1 x2 (xd.trans qCG) fun t ht=>by
    rw[xk t fun x hx=>ht x (by simp[hx])];have hne:=ht o (by simp);unfold Act.put;split
    . rename_i d hdd;have:d≠t:=fun e=>hne (by rw[hdd,e])
      simp[this]
    rfl
  simp only[vcR,qAD]at h;rw[qy3];unfold wpListIn;rcases kD h with⟨hwant,h⟩|⟨hwant,h⟩
  . have:=yk he hgd hwant;rw[if_neg (by simp[this])];exact⟨fun _ _=>trivial,cont _ _ U K w h (qC3 K) hw (he.put hd (by simp only[qg];exact⟨#[],rfl,by simp[qh]⟩))⟩
  have:=yk he hgd hwant;rw[if_pos this];exact qhS hX hw he hd h fun v v' U' K' w' hv h1 h2 h3=>cont v v' U' K' w' hv h1 h2 h3
def J6{R}(h:jy P G mu true o.op env U R):∃v U',OpA P G o env U v U'/\R v U':=by
 unfold jy at h;split at h
 . rename_i f args ts hop;split at h
   . rename_i g first cap hf
     obtain⟨r,h1,h2⟩:=h;exact⟨r,U,.inr ⟨f,args,ts,g,first,cap,hop,hf,h1,rfl⟩,h2⟩
   exact h.elim
 simp only[vcX,qcJ]at h;split at h
 . rename_i v U' hs;exact⟨v,U',.inl hs,h⟩
 exact h.elim
def qhM{R i oi dp}(hi:ops[i]?=some oi){fuel listed}(hs:qaH ops mu ac listed i dp=true)
 (h:vcG P G mu (qX mu ac i oi.op != 9) ops oi env U (fun env v U'=>JE P G ops mu ac R fuel (listed.setIfInBounds i true) (upd env oi.dst v) U')):JE P G ops mu ac R (fuel+1) listed env U:=by
 simp only[qaH,hi,qyJ]at hs;obtain⟨⟨hr,hd⟩,hall⟩:=hs;have hr':i∈Region.ready .any ops listed:=by simpa using hr
 have rest:∀(j:Nat) (oj:Oper),ops[j]?=some oj->j≠i->listed.getD j true=false->j∉dp->qX mu ac i oi.op≠9/\qbz ops oi oj (qX mu ac i oi.op) (qX mu ac j oj.op)=true/\(qX mu ac j oj.op≠9\/qX mu ac i oi.op=0):=by
  intro j oj hoj hji hun hnd;have:=qyP.1 hall j (qzP.2 (qzv.1 hoj).1);simp only[hoj,qA1,beq_iff_eq,qyJ,bne_iff_ne,ne_eq]at this;rcases this with((h1|h1)|h1)|h1
  . exact absurd h1 hji
  . rw[hun]at h1;cases h1
  . exact absurd (by simpa using h1) hnd
  exact⟨h1.1,h1.2.1,h1.2.2⟩
 by_cases h9:qX mu ac i oi.op=9
 . have solo:∀(j:Nat) (oj:Oper),ops[j]?=some oj->j≠i->listed.getD j true=false->j∈dp:=by
    intro j oj hoj hji hun;apply Classical.byContradiction;intro hnd;exact(rest j oj hoj hji hun hnd).1 h9
   rw[h9]at h;refine JE.solo hi hd solo hr' ?_;rcases kD h with⟨hwant,h⟩|⟨hwant,h⟩
   . exact .inl ⟨_,U,.inl ⟨hwant,rfl,rfl⟩,h⟩
   exact .inr ⟨h9,hwant,h⟩
 have hd1:(qX mu ac i oi.op != 9)=true:=by simpa using h9
 rw[hd1]at h;rcases kD h with⟨hwant,h⟩|⟨hwant,h⟩
 . exact JE.first hi fuel listed env U U hd (fun j oj a b c e=>(rest j oj a b c e).2) hr' (.inl ⟨hwant,rfl,rfl⟩) h
 obtain⟨v,U',h1,h2⟩:=J6 h;exact JE.first hi fuel listed env U U' hd (fun j oj a b c e=>(rest j oj a b c e).2) hr' (.inr ⟨hwant,h1⟩) h2
def vcG.imp{k k'}(h:vcG P G mu d ops o env U k)(hk:∀env v U,k env v U->k' env v U):vcG P G mu d ops o env U k':=by
 unfold vcG at h⊢
 cases hg:o.guard with
 |none=>simp only[hg]at h⊢;exact jy.imp h (hk _)
 | some p=>
  obtain⟨j,b⟩:=p;simp only[hg]at h⊢
  cases ht:(ops[j]?).bind (·.dst) with
  |none=>simp only[ht]at h⊢;exact hk _ _ _ h
  | some t=>
   simp only[ht]at h⊢;generalize env t=x at h⊢
   match x,h with
   |.bool c,h=>exact⟨fun e=>jy.imp (h.1 e) (hk _),fun e=>hk _ _ _ (h.2 e)⟩
   |.tup [],h=>exact hk _ _ _ h
def qig{lw:Bool}{Q:Env->St->Prop}{mu:Bool}:∀(l:List Oper) (k:Nat) (listed:Array Bool) (env:Env) (U:St),(∀j:Nat,l[j]?=ops[k+j]?)->k+l.length=ops.size->qsD ops mu (if lw then [ops.size-1] else []) l.length k listed=true ->
 vcR P G mu ops true lw l env U Q->JE P G ops mu (if lw then [ops.size-1] else []) Q l.length listed env U
 |[],k,listed,env,U,_,_,hB,h=>⟨by simpa[qsD] using hB,h⟩
 | o::l,k,listed,env,U,hl,hlen,hB,h=>by
  have h0:ops[k]?=some o:=by simpa using(hl 0).symm
  simp only[qyY,qsD,qyJ]at hB;obtain⟨hst,hB'⟩:=hB;simp only[vcR,qzN]at h;have ih:=fun env U h=>qig (lw:=lw) (Q:=Q) (mu:=mu) l (k+1) (listed.setIfInBounds k true) env U (fun j=>by have:=hl (j+1);simpa[qAR,qAt 1 j] using this) (by simp only[qyY]at hlen;omega) hB' h
  have hst0:=hst;simp only[qaH,h0,qyJ]at hst;obtain⟨⟨hr,hd⟩,hall⟩:=hst;have hr':k∈Region.ready .any ops listed:=by simpa using hr
  have rest:∀(j:Nat) (oj:Oper),ops[j]?=some oj->j≠k->listed.getD j true=false->j∉qxr ops k->qX mu (if lw then [ops.size-1] else []) k o.op≠9/\qbz ops o oj (qX mu (if lw then [ops.size-1] else []) k o.op) (qX mu (if lw then [ops.size-1] else []) j oj.op)=true/\(qX mu (if lw then [ops.size-1] else []) j oj.op≠9\/qX mu (if lw then [ops.size-1] else []) k o.op=0):=by
   intro j oj hoj hji hun hnd;have:=qyP.1 hall j (qzP.2 (qzv.1 hoj).1);simp only[hoj,qA1,beq_iff_eq,qyJ,bne_iff_ne,ne_eq]at this;rcases this with((h1|h1)|h1)|h1
   . exact absurd h1 hji
   . rw[hun]at h1;cases h1
   . exact absurd (by simpa using h1) hnd
   exact⟨h1.1,h1.2.1,h1.2.2⟩
  have stp:∀v U',wj P G ops o env U v U'->JE P G ops mu (if lw then [ops.size-1] else []) Q l.length (listed.setIfInBounds k true) (upd env o.dst v) U'->JE P G ops mu (if lw then [ops.size-1] else []) Q (l.length+1) listed env U:=by
   intro v U' h1 h2;by_cases h9:qX mu (if lw then [ops.size-1] else []) k o.op=9
   . refine JE.solo h0 hd (fun j oj hoj hji hun=>?_) hr' (.inl ⟨v,U',h1,h2⟩);apply Classical.byContradiction;intro hnd;exact(rest j oj hoj hji hun hnd).1 h9
   exact JE.first h0 l.length listed env U U' hd (fun j oj a b c e=>(rest j oj a b c e).2) hr' h1 h2
  cases hdd:!(lw&&qp0 l&&qcW o.op) with
  | true=>
   rw[hdd]at h;rcases kD h with⟨hwant,h⟩|⟨hwant,h⟩
   . exact stp _ _ (.inl ⟨hwant,rfl,rfl⟩) (ih _ _ h)
   obtain⟨v,U',h1,h2⟩:=J6 h;exact stp _ _ (.inr ⟨hwant,h1⟩) (ih _ _ h2)
  | false=>
   rw[hdd]at h;simp only[Bool.not_eq_false',qyJ]at hdd;obtain⟨⟨hlw,hnil⟩,hcall⟩:=hdd;have hnil:l=[]:=(by cases l with|nil=>rfl|cons _ _=>simp[qp0]at hnil);rcases kD h with⟨hwant,h⟩|⟨hwant,h⟩
   . exact stp _ _ (.inl ⟨hwant,rfl,rfl⟩) (ih _ _ h)
   -- the last operation
   have h9:qX mu (if lw then [ops.size-1] else []) k o.op=9:=by
    subst hnil;simp only[qyY,qzH]at hlen;have hk1:k=ops.size-1:=(by omega);unfold qcW at hcall;split at hcall
    . rename_i f args ts e;rw[e];simp[qX,hlw,hk1]
    cases hcall
   refine JE.solo h0 hd (fun j oj hoj hji hun=>?_) hr' (.inr ⟨h9,hwant,jy.imp h fun v U' hv=>ih _ _ hv⟩);apply Classical.byContradiction;intro hnd;exact(rest j oj hoj hji hun hnd).1 h9
mutual
def qci{Q}:∀(s) (fuel) (listed) (env) (U),qcA ops mu ac s listed=true->K7 s<=fuel->vcS P G mu ac ops s env U Q->JE P G ops mu ac Q fuel listed env U
 | .done,fuel,listed,env,U,hk,_,h=>by
  simp only[qcA]at hk;have hr:Region.ready .any ops listed=[]:=by simpa using hk
  cases fuel with
  |zero=>exact⟨hr,h⟩
  |succ fuel=>exact⟨fun _=>h,fun i hi=>by rw[hr]at hi;cases hi⟩
 | .step k dp s,fuel,listed,env,U,hk,hf,h=>by
  simp only[K7]at hf;obtain⟨f,rfl⟩:∃f,fuel=f+1:=⟨fuel-1,by omega⟩;simp only[qcA,qyJ]at hk;simp only[vcS]at h;split at h
  . rename_i o ho;exact qhM ho hk.1 (vcG.imp h fun env v U' hv=>qci s f _ _ _ hk.2 (by omega) hv)
  exact h.elim
 | .fork al,fuel,listed,env,U,hk,hf,h=>by
  simp only[K7]at hf;obtain⟨f,rfl⟩:∃f,fuel=f+1:=⟨fuel-1,by omega⟩;simp only[qcA,qyJ,qz4]at hk;simp only[vcS]at h;refine⟨fun h0=>by rw[h0]at hk;simp at hk,fun i hi=>?_⟩;exact KP al f listed env U _ hk.2 (by omega) h i hi
def KP{Q}:∀(al) (fuel) (listed) (env) (U) (need),qb4 ops mu ac al listed need=true->VY al<=fuel->vl P G mu ac ops al env U Q->∀i∈need,∃o,ops[i]?=some o /\
 ((∃v U',wj P G ops o env U v U'/\JE P G ops mu ac Q fuel (listed.setIfInBounds i true) (upd env o.dst v) U') \/
  (qX mu ac i o.op=9/\jh ops env o=some true/\jy P G mu false o.op env U (fun v U'=>JE P G ops mu ac Q fuel (listed.setIfInBounds i true) (upd env o.dst v) U')))
 | .nil,fuel,listed,env,U,need,hk,_,_,i,hi=>by
  simp only[qb4]at hk;have:need=[]:=by simpa using hk
  rw[this]at hi;cases hi
 | .cons k s r,fuel,listed,env,U,need,hk,hf,h,i,hi=>by
  simp only[VY]at hf;simp only[qb4,qyJ]at hk;simp only[vl]at h;by_cases hik:i=k
  . subst hik;obtain⟨h,_⟩:=h;split at h
    . rename_i o ho;refine⟨o,ho,?_⟩;have h':=vcG.imp h fun env v U' hv=>qci s fuel _ _ _ hk.1.2 (by omega) hv
      by_cases h9:qX mu ac i o.op=9
      . rw[h9]at h';rcases kD h' with⟨hwant,h'⟩|⟨hwant,h'⟩
        . exact .inl ⟨_,U,.inl ⟨hwant,rfl,rfl⟩,h'⟩
        exact .inr ⟨h9,hwant,h'⟩
      have hd1:(qX mu ac i o.op != 9)=true:=(by simpa using h9);rw[hd1]at h';rcases kD h' with⟨hwant,h'⟩|⟨hwant,h'⟩
      . exact .inl ⟨_,U,.inl ⟨hwant,rfl,rfl⟩,h'⟩
      obtain⟨v,U',h1,h2⟩:=J6 h';exact .inl ⟨v,U',.inr ⟨hwant,h1⟩,h2⟩
    exact h.elim
  exact KP r fuel listed env U _ hk.2 (by omega) h.2 i (qBN.2 ⟨hi,by simpa using hik⟩)
end
end
def qxA(P:Program)(G:Glo)(gb:FuncId)(k:Nat):Prop :=
 bodied P gb=true/\∀(w0) (ro0) (b L B) (K) (U) (w) (sz) (rows:List (List AV)) (tok) (S:Nat->St->Prop),
  WRel G w0 ro0 K U w->K.m b=some B->U.H[b]?=some (.cells [.sl sz rows tok])->rows.length<2^62->S rows.length U ->
  (∀ i U' K' w',S (i+1) U'->K.le K'->WRel G w0 ro0 K' U' w'->∃rows tok r,U'.H[b]?=some (.cells [.sl k rows tok])/\rows[i]?=some r/\∀v,qg K' (.agg r) v ->
    ∃ f tmps asn body,(Instr.yield L #[.int .i64 i,v]).run P w'=.ok (.round L f tmps asn body) w' /\
     RoundIn Fence.wide 0 P L f tmps asn body w' (fun e w''=>e=.returned (.bool true)/\∃K'' U'',K'.le K''/\WRel G w0 ro0 K'' U'' w''/\S i U'')) ->
  CallsIn Fence.wide 0 P gb #[.func (.yield L) #[] #[],.pointer (some ⟨B,0,none⟩)] w (fun e w'=>(∃v,e=.returned v)/\∃K' U',K.le K'/\WRel G w0 ro0 K' U' w'/\S 0 U')
def qu2(P:Program)(G:Glo)(gb:FuncId)(cap:List AV)(pre:St->Prop)(vals:List AV):Prop :=
 bodied P gb=true/\∀(w0) (ro0) (L) (K) (U) (w) (vcap) (S:Nat->St->Prop),
  WRel G w0 ro0 K U w->qh K cap vcap.toList->(∀i U,S i U->pre U)->S 0 U ->
  (∀ i x U' K' w',vals[i]?=some x->S i U'->K.le K'->WRel G w0 ro0 K' U' w'->∀v,qg K' x v ->
    ∃ f tmps asn body,(Instr.yield L #[v]).run P w'=.ok (.round L f tmps asn body) w' /\
     RoundIn Fence.wide 0 P L f tmps asn body w' (fun e w''=>e=.returned (.bool true)/\∃K'' U'',K'.le K''/\WRel G w0 ro0 K'' U'' w''/\S (i+1) U'')) ->
  CallsIn Fence.wide 0 P gb (#[.func (.yield L) #[] #[]]++vcap) w (fun e w'=>(∃v,e=.returned v)/\∃K' U',K.le K'/\WRel G w0 ro0 K' U' w'/\S vals.length U')
def qop(Q:Exit->Env->St->Prop):Exit->Env->St->Prop
 |.goto _,_,_=>False
 |e,env,U=>Q e env U
def Je(A B:Env->St->(Exit->Env->St->Prop)->Prop)(k b pi pe:Nat)(env:Env):Nat->St->(St->Prop)->Prop
 |0,U,Q=>Q U
 | i+1,U,Q=>match U.H[b]? with
  | some (.cells [.sl sz rows _])=>sz=k/\match rows[i]? with
   |some r=>A (upd (upd env (some pi) (.int .i64 i)) (some pe) (.agg r)) U (fun e env' U'=>e=.normal/\B env' U' (fun e _ U''=>e=.normal/\Je A B k b pi pe env i U'' Q))
   |none=>False
  |_=>False
def vcC(P:Program)(G:Glo)(o:Opts):Code->Env->St->(Exit->Env->St->Prop)->Prop
 |.skip,env,U,Q=>Q .normal env U
 |.ret,env,U,Q=>Q .ret env U
 |.exit id,env,U,Q=>Q (.exit id) env U
 |.seq x y,env,U,Q=>vcC P G o x env U (wE (fun env U=>vcC P G o y env U Q) Q)
 | .cond c x y,env,U,Q=>match ev G env c with
  |.bool b=>qfg b (vcC P G o x env U Q) (vcC P G o y env U Q)
  |_=>False
 |.block id c,env,U,Q=>vcC P G o c env U (wF id Q)
 | .region id ops d,env,U,Q=>match d,o.fk.lookup id with
  |true,some (s,ac)=>vcS P G o.mu ac ops s env U (fun env U=>Q .normal env U)
  |d,_=>vcR P G o.mu ops d (o.lw.contains id) ops.toList env U (fun env U=>Q .normal env U)
 |.loop c,env,U,Q=>∃(I:Nat->Env->St->Prop) (n:Nat),I n env U/\∀n env U,I n env U->vcC P G o c env U (wE (fun env' U'=>∃n',n'<n/\I n' env' U') Q)
 | .rangeFunc g ps x y,env,U,Q=>match ps.toList,ev G env g with
  | [pi,pe],.fn gb [] [.ptr b 0]=>∃k,G.NoX/\qxA P G gb k/\(match U.H[b]? with
   |some (.cells [.sl _ rows _])=>rows.length<2^62/\Je (fun env U Q=>vcC P G o x env U Q) (fun env U Q=>vcC P G o y env U Q) k b pi pe env rows.length U (fun U=>Q .normal env U)
   |_=>False)
  | [pe],.fn gb [] cap=>∃(pre:St->Prop) (vals:List AV) (J:Nat->St->Prop),G.NoX/\qu2 P G gb cap pre vals/\(∀i U,J i U->pre U)/\J 0 U /\
   (∀i v U,vals[i]?=some v->J i U->vcC P G o x (upd env (some pe) v) U (fun e env' U'=>e=.normal/\vcC P G o y env' U' (fun e _ U''=>e=.normal/\J (i+1) U''))) /\
   ∀U,J vals.length U->Q .normal env U
  |_,_=>False
 |.scope c,env,U,Q=>vcC P G o c env U (qop Q)
 |.label _,env,U,Q=>Q .normal env U
 |_,_,_,_=>False
section
variable {P:Program}{G:Glo}{N:Nat}{env:Env}{U:St}{ops:Array Oper}{mu:Bool}{ac:List Nat}
def AWp.any{id Q}(hm:P.follows .mixedOrders=true)(hs:vw N ops=true)(h:JE P G ops mu ac (fun env U=>Q .normal env U) ops.size (Array.replicate ops.size false) env U):
 AWp P G N (.region id ops true) env U Q:=by
 intro w0 ro0 K a w hw he;refine wp_region_any hm ?_;exact Qf hs (Q:=Z8 G w0 ro0 K N a.defers Q) ops.size (Array.replicate ops.size false) env U K a {w with drawn:=w.drawn+1}
  (fun K' env' U' a' w' h1 h2 h3 hd h4=>.inl ⟨K',env',U',h1,h2,h3,.same hd,h4⟩) (fun c K' U' a' w' h1 h2 hd hx=>.inr ⟨c,K',U',rfl,h1,h2,.same hd,hx⟩) hw.drew he h
end
def qe4(ro:Option Nat)(P:Program)(G:Glo)(N:Nat)(c:Code)(env:Env)(U:St)(Q:Exit->Env->St->Prop):Prop :=
 ∀(w0) (ro0) (K) (a) (w),WRel G w0 ro0 K U w->ERel K N env a->c.wpIn (FR ro) 0 P (Z8 G w0 ro0 K N a.defers Q) a w
section
variable {P:Program}{G:Glo}{N:Nat}{ro:Option Nat}{env:Env}{U:St}{Q:Exit->Env->St->Prop}
def qe4.seq{x y}(h:qe4 ro P G N x env U (wE (fun env U=>qe4 ro P G N y env U Q) Q)):qe4 ro P G N (.seq x y) env U Q:=by
 intro w0 ro0 K a w hw he;refine wpIn_seq (wpIn_mono (h w0 ro0 K a w hw he) ?_);intro e a' w' hp;rcases hp with⟨K',env',U',h1,h2,h3,hd,h4⟩|⟨c,K',U',rfl,hp⟩
 case inr=>exact .inr ⟨c,K',U',rfl,hp⟩
 cases e with
 |normal=>exact wpIn_mono (h4 w0 ro0 K' a' w' h2 h3) fun e a w x=>x.after h1 hd
 |_=>exact .inl ⟨K',env',U',h1,h2,h3,hd,h4⟩
def qe4.block{id c}(h:qe4 ro P G N c env U (wF id Q)):qe4 ro P G N (.block id c) env U Q:=by
 intro w0 ro0 K a w hw he;refine wpIn_block (wpIn_mono (h w0 ro0 K a w hw he) ?_);intro e a' w' hp;rcases hp with⟨K',env',U',h1,h2,h3,hd,h4⟩|⟨c,K',U',rfl,hp⟩
 case inr=>exact .inr ⟨c,K',U',rfl,hp⟩
 cases e with
 | exit id'=>
  simp only[wF]at h4;simp only[Exit.inBlock];split
  . rename_i e;rw[if_pos e]at h4;exact .inl ⟨K',env',U',h1,h2,h3,hd,h4⟩
  rename_i e;rw[if_neg e]at h4;exact .inl ⟨K',env',U',h1,h2,h3,hd,h4⟩
 |_=>exact .inl ⟨K',env',U',h1,h2,h3,hd,h4⟩
def qe4.mono{c Q'}(h:qe4 ro P G N c env U Q)(hq:∀e env U,Q e env U->Q' e env U):qe4 ro P G N c env U Q' :=
 fun w0 ro0 K a w hw he=>wpIn_mono (h w0 ro0 K a w hw he) fun e a w x=>x.mono hq
end
def jM{P G N ro o}(hX:G.NoX):∀(c){env:Env}{U:St}{Q:Exit->Env->St->Prop},zT N c=true->vcC P G o c env U Q->qe4 ro P G N c env U Q
 |.skip,env,U,_,_,h=>fun w0 ro0 K a w hw he=>wpIn_skip (.inl ⟨K,env,U,qC3 K,hw,he,.same rfl,h⟩)
 |.exit id,env,U,_,_,h=>fun w0 ro0 K a w hw he=>wpIn_exit (.inl ⟨K,env,U,qC3 K,hw,he,.same rfl,h⟩)
 | .seq x y,env,U,Q,hk,h=>by
  simp only[zT,qyJ]at hk;exact qe4.seq (qe4.mono (jM hX x hk.1 (by simpa only[vcC] using h)) fun e env U hq=>by
   cases e<;>first|exact jM hX y hk.2 hq|exact hq)
 | .cond c x y,env,U,Q,hk,h=>by
  simp only[zT,qyJ]at hk;simp only[vcC]at h;split at h
  . rename_i b hb;intro w0 ro0 K a w hw he;have:=Zf hw he c;rw[hb]at this;simp only[qg]at this;exact wpIn_cond_split this (fun e=>jM hX x hk.1 (h.1 e) w0 ro0 K a w hw he) (fun e=>jM hX y hk.2 (h.2 e) w0 ro0 K a w hw he)
  exact h.elim
 |.block id c,_,_,_,hk,h=>qe4.block (jM hX c hk (by simpa only[vcC] using h))
 | .region id ops false,env,U,Q,hk,h=>by
  have h':vcR P G o.mu ops false (o.lw.contains id) ops.toList env U (fun env U=>Q .normal env U):=by
   simp only[vcC]at h;exact h
  intro w0 ro0 K a w hw he;have:=wpIn_region_list (F:=FR ro) (n:=0) (P:=P) (id:=id) (ops:=ops) (a:=a) (w:=w) (Q:=Z8 G w0 ro0 K N a.defers Q) (by
   have:=J5 hX (w0:=w0) (ro0:=ro0) (by simpa only[zT] using hk) (ro:=ro) (n:=0) (more:=[]) ops.toList env U K a w (by simp) h' hw he (Q':=Z8 G w0 ro0 K N a.defers Q) fun K' env' U' a' w' h1 h2 h3 hd _ h4=>.inl ⟨K',env',U',h1,h2,h3,.same hd,h4⟩
   simpa using this)
  exact this
 |.region id ops true,_,_,_,hk,_=>by simp[zT]at hk
 |.ret,_,_,_,hk,_=>by simp[zT]at hk
 |.loop c,_,_,_,hk,_=>by simp[zT]at hk
 |.rangeFunc ..,_,_,_,hk,h=>by simp[zT]at hk
 |.scope c,_,_,_,hk,h=>by simp[zT]at hk
 |.label l,_,_,_,hk,h=>by simp[zT]at hk
 |.goto l,_,_,_,hk,h=>by simp[zT]at hk
 |.refuse w,_,_,_,hk,h=>by simp[zT]at hk
def Z0{P g}(hb:bodied P g=true)(args w):(callFunc g args).run P w=.ok (.enter g args) w:=by
 cases hg:P.funcs[g]? with
 |none=>simp[bodied,hg]at hb
 | some fn=>
  simp[bodied,hg]at hb;obtain⟨b1,b2⟩:=hb;simp[callFunc,hg,b2,show ¬fn.body=none by intro e;simp[e]at b1]
def AWp.range{P:Program}{G:Glo}(hX:G.NoX){N:Nat}{env:Env}{U:St}{Q:Exit->Env->St->Prop}{o:Opts}{g:Operand}{pi pe:Nat}{x y:Code}{gb b k:Nat}{sz:Nat}{rows:List (List AV)}{tok:Tok}
 (hpi:pi<N) (hpe:pe<N) (hx:zT N x=true) (hy:zT N y=true) (hg:ev G env g=.fn gb [] [.ptr b 0]) (hbw:qxA P G gb k) (hlen:rows.length<2^62) (hb:U.H[b]?=some (.cells [.sl sz rows tok]))
 (h:Je (fun env U Q=>vcC P G o x env U Q) (fun env U Q=>vcC P G o y env U Q) k b pi pe env rows.length U (fun U=>Q .normal env U)):AWp P G N (.rangeFunc g #[pi,pe] x y) env U Q:=by
 intro w0 ro0 K a w hw he;refine(wpIn_wide (n:=0)).1 (wpIn_rangeFunc fun fn hfn=>?_);have hv:=Zf hw he g;rw[hg]at hv;simp only[qg,qh]at hv;obtain⟨va,vb,e1,e2,v1,vr,e3,⟨B,hB,e4⟩,e5⟩:=hv;have ea:=qAn (by rw[<- qzS,e2];rfl);have eb:vb = #[.pointer (some ⟨B,0,none⟩)]:=by rw[<- qAO (xs:=vb),e3,e4,e5]
 subst ea eb;obtain⟨rec,hrec⟩:∃rec:LoopState->Option Code->Loop,rec=fun st pe'=>{state:=st,pending:=pe',fn,tmps:=a.tmps,params:=#[pi,pe],assign:=x,body:=y,defers:=w.heap.size}:=⟨_,rfl⟩
 obtain⟨W1,hW1⟩:∃W1,(w.alloc (.deferred (some []))).alloc (.loop (rec .ready none))=W1:=⟨_,rfl⟩;have hw1:=hw.allocFix (.deferred (some []));have hw2:=hw1.allocFix (.loop (rec .ready none));rw[hW1,World.size_alloc]at hw2;obtain⟨K2,hK2⟩:∃K2,((K.withFx fun b=>if b=w.heap.size then some (.deferred (some [])) else K.fx b).withFx fun b=>if b=w.heap.size+1 then some (.loop (rec .ready none)) else(K.withFx fun b=>if b=w.heap.size then some (.deferred (some [])) else K.fx b).fx b)=K2:=⟨_,rfl⟩;rw[hK2]at hw2;have hleK:K.le K2:=by
  rw[<- hK2];refine qC4 (Kn.le_fx fun B o e=>?_) (Kn.le_fx fun B o e=>?_)
  . have:=hw.fx_lt e;rw[if_neg (by omega)];exact e
  have:=hw1.fx_lt e;rw[World.size_alloc]at this;rw[if_neg (by omega)];exact e
 have hL2:K2.fx (w.heap.size+1)=some (.loop (rec .ready none)):=by rw[<- hK2];simp[Kn.withFx]
 refine⟨w.heap.size+1,[que w.heap.size],W1,{target:=.fn (.func gb) #[.pointer (some ⟨B,0,none⟩)],args:=#[.func (.yield (w.heap.size+1)) #[] #[]]},W1,gb,
  #[.func (.yield (w.heap.size+1)) #[] #[]]++#[.pointer (some ⟨B,0,none⟩)],W1,?_,?_,fun _ _=>trivial,?_,fun e=>by simp[Fence.wide]at e,?_⟩
 . rw[<- hW1,hrec];exact run_enterLoop_outer _ _ _ _ _
 . simp only[resolve,e1];simp[go_sem]
 . simp[invoke,go_sem,Z0 hbw.1]
 refine CallsIn.mono (hbw.2 w0 ro0 b (w.heap.size+1) B K2 U W1 sz rows tok (fun i U=>Je (fun env U Q=>vcC P G o x env U Q) (fun env U Q=>vcC P G o y env U Q) k b pi pe env i U (fun U=>Q .normal env U)) hw2 (hleK.m _ _ hB) hb hlen h ?_) ?_
 . -- one round
   intro i U' K' w' hr hle' hw';simp only[Je]at hr;split at hr
   . rename_i sz' rows' tok' hb';obtain⟨hszk,hr⟩:=hr;subst hszk;split at hr
     . rename_i r hri;refine⟨rows',tok',r,hb',hri,fun v hv=>?_⟩;have hLf:=hle'.fx _ _ hL2;have hl:=(hw'.fx _ _ hLf).1;refine⟨fn,_,x,y,by have:=run_yield (P:=P) (args:=#[.int .i64 i,v]) hl (by rw[hrec];rfl);rw[hrec]at this;exact this,roundIn_of_wpIn hfn ?_⟩;have he':ERel K' N (upd (upd env (some pi) (.int .i64 i)) (some pe) (.agg r)) {tmps:=(a.tmps.setIfInBounds pi (.int .i64 i)).setIfInBounds pe v,defers:=[]}:=by
        have h0:=he.mono (qC4 hleK hle');have h1:=(h0.put (dst:=some pi) (fun d hd=>by cases hd;exact hpi) (v:=.int .i64 i) (v':=.int .i64 i) (by simp[qg])).put (dst:=some pe) (fun d hd=>by cases hd;exact hpe) hv;exact⟨h1.size,h1.val⟩
       have hasn:=jM hX (ro:=some (w.heap.size+1)) x hx hr w0 ro0 K' _ w' hw' he';refine wpIn_mono (F:=FR (some (w.heap.size+1))) (show Code.wpIn (FR (some (w.heap.size+1))) 0 P x _ _ w' from by simpa using hasn) ?_;rintro e a1 w1 (⟨K3,env3,U3,g1,g2,g3,_,rfl,g4⟩|⟨_,_,U3,_,_,_,_,g⟩)
       case inr=>exact(hX _ U3 g).elim
       have hL3:=g1.fx _ _ hLf;have hl3:=(g2.fx _ _ hL3).1;refine⟨_,run_beginRound hl3 (by rw[hrec]),?_⟩;have hw4:=g2.refix hL3 (by intros;intro e;cases e) (.loop {rec .ready none with state:=.busy});have hbody:=jM hX (ro:=some (w.heap.size+1)) y hy g4 w0 ro0 _ a1 _ hw4 (g3.refx _);refine wpIn_mono (F:=FR (some (w.heap.size+1))) hbody ?_;rintro e a5 w5 (⟨K5,env5,U5,k1,k2,k3,_,rfl,k4⟩|⟨_,_,U5,_,_,_,_,g⟩)
       case inr=>exact(hX _ U5 g).elim
       have hL5:K5.fx (w.heap.size+1)=some (.loop {rec .ready none with state:=.busy}):=k1.fx _ _ (by simp[Kn.withFx]);have hl5:=(k2.fx _ _ hL5).1;have hw6:=k2.refix hL5 (by intros;intro e;cases e) (.loop (rec .ready none));refine⟨.bool true,w5.putObj (w.heap.size+1) (.loop (rec .ready none)),?_,rfl,_,U5,?_,hw6,k4⟩
       . have:=run_endRound (P:=P) none hl5;rw[hrec]at this⊢;exact this
       refine qC4 g1 (qCY k1 fun B o e=>?_);by_cases hBL:B=w.heap.size+1
       . subst hBL;rw[hL3]at e;simp[e]
       rw[if_neg hBL];refine k1.fx B o ?_;simp only[Kn.withFx,if_neg hBL];exact e
     exact hr.elim
   exact hr.elim
 -- behind the Je
 rintro e w' ⟨⟨v,rfl⟩,K',U',hle',hw',hS⟩;have hLf:=hle'.fx _ _ hL2;have hl:=(hw'.fx _ _ hLf).1;have hw3:=(hw'.refix hLf (by intros;intro e;cases e) (.loop {rec .ready none with state:=.exhausted})).unfix (f:=fun B=>if B=w.heap.size+1 then none else K'.fx B) (by
  intro B o e;by_cases hBL:B=w.heap.size+1
  . rw[if_pos hBL]at e;cases e
  rw[if_neg hBL]at e;simp only[Kn.withFx,if_neg hBL];exact e)
 refine⟨none,w'.putObj (w.heap.size+1) (.loop {rec .ready none with state:=.exhausted}),?_,?_⟩
 . have:=run_endLoop (P:=P) hl (by rw[hrec];simp);rw[hrec]at this⊢;exact this
 have hle3:K.le (K'.withFx fun B=>if B=w.heap.size+1 then none else K'.fx B):=by
  have:=qC4 hleK hle';refine qCY this fun B o e=>?_
  have:=hw.fx_lt e;rw[if_neg (by omega)];exact hle'.fx _ _ (hleK.fx _ _ e)
 have hfin:=hS;simp only[Je]at hfin;refine .inl ⟨_,env,U',hle3,hw3,⟨he.size,(he.mono hle3).val⟩,⟨[w.heap.size],by simp,rfl,fun D hD=>?_⟩,hfin⟩;simp only[qzh]at hD;subst hD;refine⟨?_,?_⟩
 . cases e:K.fx w.heap.size with
   |none=>rfl
   |some o=>have:=hw.fx_lt e;omega
 simp only[Kn.withFx];rw[if_neg (by omega)];exact hle'.fx _ _ (by rw[<- hK2];simp[Kn.withFx])
def AWp.rangeF{P:Program}{G:Glo}(hX:G.NoX){N:Nat}{env:Env}{U:St}{Q:Exit->Env->St->Prop}{o:Opts}{g:Operand}{pe:Nat}{x y:Code}{gb:Nat}{cap vals:List AV}{pre:St->Prop}{J:Nat->St->Prop}
 (hpe:pe<N) (hx:zT N x=true) (hy:zT N y=true) (hg:ev G env g=.fn gb [] cap) (hfw:qu2 P G gb cap pre vals) (hpre:∀i U,J i U->pre U) (hJ:J 0 U)
 (hs:∀i v U,vals[i]?=some v->J i U->vcC P G o x (upd env (some pe) v) U (fun e env' U'=>e=.normal/\vcC P G o y env' U' (fun e _ U''=>e=.normal/\J (i+1) U'')))
 (hq:∀U,J vals.length U->Q .normal env U):AWp P G N (.rangeFunc g #[pe] x y) env U Q:=by
 intro w0 ro0 K a w hw he;refine(wpIn_wide (n:=0)).1 (wpIn_rangeFunc fun fn hfn=>?_);have hv:=Zf hw he g;rw[hg]at hv;simp only[qg,qh]at hv;obtain⟨va,vb,e1,e2,e3⟩:=hv;have ea:=qAn (by rw[<- qzS,e2];rfl);subst ea;obtain⟨rec,hrec⟩:∃rec:LoopState->Option Code->Loop,rec=fun st pe'=>{state:=st,pending:=pe',fn,tmps:=a.tmps,params:=#[pe],assign:=x,body:=y,defers:=w.heap.size}:=⟨_,rfl⟩
 obtain⟨W1,hW1⟩:∃W1,(w.alloc (.deferred (some []))).alloc (.loop (rec .ready none))=W1:=⟨_,rfl⟩;have hw1:=hw.allocFix (.deferred (some []));have hw2:=hw1.allocFix (.loop (rec .ready none));rw[hW1,World.size_alloc]at hw2;obtain⟨K2,hK2⟩:∃K2,((K.withFx fun b=>if b=w.heap.size then some (.deferred (some [])) else K.fx b).withFx fun b=>if b=w.heap.size+1 then some (.loop (rec .ready none)) else(K.withFx fun b=>if b=w.heap.size then some (.deferred (some [])) else K.fx b).fx b)=K2:=⟨_,rfl⟩;rw[hK2]at hw2;have hleK:K.le K2:=by
  rw[<- hK2];refine qC4 (Kn.le_fx fun B o e=>?_) (Kn.le_fx fun B o e=>?_)
  . have:=hw.fx_lt e;rw[if_neg (by omega)];exact e
  have:=hw1.fx_lt e;rw[World.size_alloc]at this;rw[if_neg (by omega)];exact e
 have hL2:K2.fx (w.heap.size+1)=some (.loop (rec .ready none)):=by rw[<- hK2];simp[Kn.withFx]
 refine⟨w.heap.size+1,[que w.heap.size],W1,{target:=.fn (.func gb) vb,args:=#[.func (.yield (w.heap.size+1)) #[] #[]]},W1,gb,
  #[.func (.yield (w.heap.size+1)) #[] #[]]++vb,W1,?_,?_,fun _ _=>trivial,?_,fun e=>by simp[Fence.wide]at e,?_⟩
 . rw[<- hW1,hrec];exact run_enterLoop_outer _ _ _ _ _
 . simp only[resolve,e1];simp[go_sem]
 . simp[invoke,go_sem,Z0 hfw.1]
 refine CallsIn.mono (hfw.2 w0 ro0 (w.heap.size+1) K2 U W1 vb J hw2 (qh.mono hleK _ e3) hpre hJ ?_) ?_
 . -- one round
   intro i xv U' K' w' hxv hr0 hle' hw' v hv;have hr:=hs i xv U' hxv hr0;have hLf:=hle'.fx _ _ hL2;have hl:=(hw'.fx _ _ hLf).1;refine⟨fn,_,x,y,by have:=run_yield (P:=P) (args:=#[v]) hl (by rw[hrec];rfl);rw[hrec]at this;exact this,roundIn_of_wpIn hfn ?_⟩
   . have he':ERel K' N (upd env (some pe) xv) {tmps:=a.tmps.setIfInBounds pe v,defers:=[]}:=by
      have h0:=he.mono (qC4 hleK hle');have h1:=h0.put (dst:=some pe) (fun d hd=>by cases hd;exact hpe) hv;exact⟨h1.size,h1.val⟩
     have hasn:=jM hX (ro:=some (w.heap.size+1)) x hx hr w0 ro0 K' _ w' hw' he';refine wpIn_mono (F:=FR (some (w.heap.size+1))) (show Code.wpIn (FR (some (w.heap.size+1))) 0 P x _ _ w' from by simpa using hasn) ?_;rintro e a1 w1 (⟨K3,env3,U3,g1,g2,g3,_,rfl,g4⟩|⟨_,_,U3,_,_,_,_,g⟩)
     case inr=>exact(hX _ U3 g).elim
     have hL3:=g1.fx _ _ hLf;have hl3:=(g2.fx _ _ hL3).1;refine⟨_,run_beginRound hl3 (by rw[hrec]),?_⟩;have hw4:=g2.refix hL3 (by intros;intro e;cases e) (.loop {rec .ready none with state:=.busy});have hbody:=jM hX (ro:=some (w.heap.size+1)) y hy g4 w0 ro0 _ a1 _ hw4 (g3.refx _);refine wpIn_mono (F:=FR (some (w.heap.size+1))) hbody ?_;rintro e a5 w5 (⟨K5,env5,U5,k1,k2,k3,_,rfl,k4⟩|⟨_,_,U5,_,_,_,_,g⟩)
     case inr=>exact(hX _ U5 g).elim
     have hL5:K5.fx (w.heap.size+1)=some (.loop {rec .ready none with state:=.busy}):=k1.fx _ _ (by simp[Kn.withFx]);have hl5:=(k2.fx _ _ hL5).1;have hw6:=k2.refix hL5 (by intros;intro e;cases e) (.loop (rec .ready none));refine⟨.bool true,w5.putObj (w.heap.size+1) (.loop (rec .ready none)),?_,rfl,_,U5,?_,hw6,k4⟩
     . have:=run_endRound (P:=P) none hl5;rw[hrec]at this⊢;exact this
     refine qC4 g1 (qCY k1 fun B o e=>?_);by_cases hBL:B=w.heap.size+1
     . subst hBL;rw[hL3]at e;simp[e]
     rw[if_neg hBL];refine k1.fx B o ?_;simp only[Kn.withFx,if_neg hBL];exact e
 -- behind the Je
 rintro e w' ⟨⟨v,rfl⟩,K',U',hle',hw',hS⟩;have hLf:=hle'.fx _ _ hL2;have hl:=(hw'.fx _ _ hLf).1;have hw3:=(hw'.refix hLf (by intros;intro e;cases e) (.loop {rec .ready none with state:=.exhausted})).unfix (f:=fun B=>if B=w.heap.size+1 then none else K'.fx B) (by
  intro B o e;by_cases hBL:B=w.heap.size+1
  . rw[if_pos hBL]at e;cases e
  rw[if_neg hBL]at e;simp only[Kn.withFx,if_neg hBL];exact e)
 refine⟨none,w'.putObj (w.heap.size+1) (.loop {rec .ready none with state:=.exhausted}),?_,?_⟩
 . have:=run_endLoop (P:=P) hl (by rw[hrec];simp);rw[hrec]at this⊢;exact this
 have hle3:K.le (K'.withFx fun B=>if B=w.heap.size+1 then none else K'.fx B):=by
  have:=qC4 hleK hle';refine qCY this fun B o e=>?_
  have:=hw.fx_lt e;rw[if_neg (by omega)];exact hle'.fx _ _ (hleK.fx _ _ e)
 have hfin:=hq U' hS;refine .inl ⟨_,env,U',hle3,hw3,⟨he.size,(he.mono hle3).val⟩,⟨[w.heap.size],by simp,rfl,fun D hD=>?_⟩,hfin⟩;simp only[qzh]at hD;subst hD;refine⟨?_,?_⟩
 . cases e:K.fx w.heap.size with
   |none=>rfl
   |some o=>have:=hw.fx_lt e;omega
 simp only[Kn.withFx];rw[if_neg (by omega)];exact hle'.fx _ _ (by rw[<- hK2];simp[Kn.withFx])
def j7{P:Program}{G:Glo}{N:Nat}{o:Opts}(hm:P.follows .mixedOrders=true):∀(c:Code){env:Env}{U:St}{Q:Exit->Env->St->Prop},jC N o c=true->vcC P G o c env U Q->AWp P G N c env U Q
 |.skip,_,_,_,_,h=>AWp.skip h
 |.ret,_,_,_,_,h=>AWp.ret h
 |.exit id,_,_,_,_,h=>AWp.exit h
 | .seq x y,env,U,Q,hk,h=>by
  simp only[jC,qyJ]at hk;exact AWp.seq (AWp.mono (j7 hm x hk.1 (by simpa only[vcC] using h)) fun e env U hq=>by
   cases e<;>first|exact j7 hm y hk.2 hq|exact hq)
 | .cond c x y,env,U,Q,hk,h=>by
  simp only[jC,qyJ]at hk;simp only[vcC]at h;split at h
  . rename_i b hb;exact AWp.cond hb (fun e=>j7 hm x hk.1 (h.1 e)) (fun e=>j7 hm y hk.2 (h.2 e))
  exact h.elim
 |.block id c,_,_,_,hk,h=>AWp.block (j7 hm c hk (by simpa only[vcC] using h))
 | .region id ops false,env,U,Q,hk,h=>by
  simp only[jC,qyJ]at hk;have h':vcR P G o.mu ops false (o.lw.contains id) ops.toList env U (fun env U=>Q .normal env U):=by
   simp only[vcC]at h;exact h
  intro w0 ro0 K a w hw he;have:=wp_region_lit (P:=P) (id:=id) (l:=ops.toList) (a:=a) (w:=w) (Q:=Z8 G w0 ro0 K N a.defers Q) (qai (by simpa using hk.1) ops.toList env U K a w (by simp) (by simpa using h') hw he (fun K' env' U' a' w' h1 h2 h3 hd h4=>.inl ⟨K',env',U',h1,h2,h3,.same hd,h4⟩) fun c K' U' a' w' h1 h2 hd hx=>.inr ⟨c,K',U',rfl,h1,h2,.same hd,hx⟩);simpa using this
 | .region id ops true,env,U,Q,hk,h=>by
  simp only[jC,qyJ,qA1,qCz,qy4,false_or]at hk;simp only[vcC]at h
  cases hl:o.fk.lookup id with
  | none=>
   rw[hl]at hk h;simp only at hk h;refine AWp.any hm hk.1 (mu:=o.mu) (ac:=if o.lw.contains id then [ops.size-1] else []) ?_;have:=qig (P:=P) (G:=G) (ops:=ops) (lw:=o.lw.contains id) (mu:=o.mu) ops.toList 0 (Array.replicate ops.size false) env U (by simp) (by simp) (by simpa[qn9] using hk.2) h;simpa using this
  | some p=>
   obtain⟨s,ac⟩:=p;rw[hl]at hk h;simp only[qyJ,decide_eq_true_eq]at hk h;exact AWp.any hm hk.1 (mu:=o.mu) (ac:=ac) (qci s ops.size _ env U hk.2.1 hk.2.2 h)
 | .loop c,_,_,_,hk,h=>by
  simp only[vcC]at h;obtain⟨I,n,h0,hr⟩:=h;exact AWp.loop I n h0 fun n env U hI=>j7 hm c hk (hr n env U hI)
 | .rangeFunc g ps x y,env,U,Q,hk,h=>by
  simp only[jC,qyJ]at hk;obtain⟨⟨hk1,hk2⟩,hk3⟩:=hk;simp only[vcC]at h;split at h
  . rename_i pi pe gb b hps hg;obtain⟨k,hX,hbw,h⟩:=h;rw[hps]at hk1;simp only[qyJ,decide_eq_true_eq]at hk1;split at h
    . rename_i sz rows tok hb;have:ps = #[pi,pe]:=by rw[<- qAO (xs:=ps),hps]
      subst this;exact AWp.range hX hk1.1 hk1.2 hk2 hk3 hg hbw h.1 hb h.2
    exact h.elim
  . rename_i pe gb cap hps hg;obtain⟨pre,vals,J,hX,hfw,hpre,hJ,hs,hq⟩:=h;rw[hps]at hk1;simp only[decide_eq_true_eq]at hk1;have:ps = #[pe]:=by rw[<- qAO (xs:=ps),hps]
    subst this;exact AWp.rangeF hX hk1 hk2 hk3 hg hfw hpre hJ hs hq
  exact h.elim
 | .scope c,env,U,Q,hk,h=>by
  simp only[jC]at hk;intro w0 ro0 K a w hw he;refine wp_scope_straight (wp_mono (j7 hm c hk (by simpa only[vcC] using h) w0 ro0 K a w hw he) ?_);rintro e a' w' (⟨K',env',U',h1,h2,h3,hd,h4⟩|⟨ch,K',U',rfl,hp⟩)
  . cases e with
    |goto l=>exact h4.elim
    |_=>exact .inl ⟨K',env',U',h1,h2,h3,hd,h4⟩
  exact .inr ⟨ch,K',U',rfl,hp⟩
 |.label l,env,U,Q,hk,h=>fun w0 ro0 K a w hw he=>wp_label (.inl ⟨K,env,U,qC3 K,hw,he,.same rfl,h⟩)
 |.goto l,_,_,_,hk,h=>by simp[jC]at hk
 |.refuse w,_,_,_,hk,h=>by simp[jC]at hk
section
variable {P:Program}{G:Glo}{U:St}{f:FuncId}{args args':List AV}{r r':AV}
def Pure.sub(h:Pure P G f args' r')(ha:zq args args')(hr:Leq r' r):Pure P G f args r :=
 ⟨h.1,fun w0 ro vs hg hro hvs=>(h.2 w0 ro vs hg hro (zq.rel _ _ ha hvs)).mono fun e w' ⟨v,ro',h1,h2,h3,h4,h5,h6⟩=>⟨v,ro',h1,h2,h3,h4,h5,qCS _ _ hr h6⟩⟩
def Pure.less(h:Pure P G f args' r)(ha:zq args args'):Pure P G f args r:=h.sub ha (qCT r)
def qf.pure{Q}(h:Pure P G f args' r)(hno:qx (args.map plain)=true)(ha:zq (args.map plain) args')(hq:Q r U):qf P G f args U Q :=
 Qk.acall (.inl ⟨hno,h.less ha⟩) hq
def Qk.pure(h:Pure P G f args' r)(hno:qx (args.map plain)=true)(ha:zq (args.map plain) args'):Qk P G f args U r:=.inl ⟨hno,h.less ha⟩
def Qk.lent(h:Pure P G f args' r)(hb:qrt r=true)(ha:zq (args.map (frz U.H 8)) args'):Qk P G f args U r:=.inr ⟨hb,h.less ha⟩
def qb.of{d Q}(h:Qk P G f args U r)(hq:Q r U):qb P G d f args U Q:=by
 cases d
 . exact h.acall hq
 exact⟨r,h,hq⟩
def qb.pure{d Q}(h:Pure P G f args' r)(hno:qx (args.map plain)=true)(ha:zq (args.map plain) args')(hq:Q r U):qb P G d f args U Q:=.of (.pure h hno ha) hq
def qb.lent{d Q}(h:Pure P G f args' r)(hb:qrt r=true)(ha:zq (args.map (frz U.H 8)) args')(hq:Q r U):qb P G d f args U Q:=.of (.lent h hb ha) hq
def qiS(P:Program)(deep:Bool)(rs:List ResultVar)(r:AV)(env:Env)(U:St):Prop :=
 match qdX (Dof P) rs env U with
 | some l=>match deep with
  |false=>zb (fin U.H (KT l))=true/\Leq (fin U.H (KT l)) r
  |true=>zb (frz U.H 8 (KT l))=true/\Leq (frz U.H 8 (KT l)) r
 |none=>False
def qbE(P:Program)(deep:Bool)(rs:List ResultVar)(r:AV):Exit->Env->St->Prop
 |.ret,env,U=>qiS P deep rs r env U
 |.normal,env,U=>qiS P deep rs r env U
 |_,_,_=>False
def Pure.vcO {G : Nat → AV} {fn : Func} {c : Code} (o : Opts) (deep : Bool) (hm : P.follows .mixedOrders = true) (hf : P.funcs[f]? = some fn) (hb : fn.body = some c) (hk : (jC fn.ntmps o c && decide (args.length ≤ fn.ntmps) && fn.name != "runtime.NumGoroutine") = true)
 (h:vcC P G o c (ZQ args) ⟨[],[]⟩ (qbE P deep fn.results.toList r)):Pure P G f args r:=by
 simp only[qyJ,decide_eq_true_eq,bne_iff_ne,ne_eq]at hk;refine Pure.of_body (qaU G) hf hb hk.2 hk.1.2 (AWp.mono (j7 hm c hk.1.1 h) fun e env U hq=>?_);have key:qiS P deep fn.results.toList r env U->∃l,qdX (Dof P) fn.results.toList env U=some l/\((zb (fin U.H (KT l))=true/\Leq (fin U.H (KT l)) r)\/(zb (frz U.H 8 (KT l))=true/\Leq (frz U.H 8 (KT l)) r)):=fun h=>by
  unfold qiS at h;split at h
  . rename_i l hl;cases deep
    . exact⟨l,hl,.inl h⟩
    exact⟨l,hl,.inr h⟩
  exact h.elim
 cases e with
 |ret=>exact⟨.inl rfl,key hq⟩
 |normal=>exact⟨.inr rfl,key hq⟩
 |_=>exact hq.elim
def Pure.vc {G : Nat → AV} {fn : Func} {c : Code} (hm : P.follows .mixedOrders = true) (hf : P.funcs[f]? = some fn) (hb : fn.body = some c) (hk : (jC fn.ntmps o0 c && decide (args.length ≤ fn.ntmps) && fn.name != "runtime.NumGoroutine") = true)
 (h:vcC P G o0 c (ZQ args) ⟨[],[]⟩ (qbE P false fn.results.toList r)):Pure P G f args r:=Pure.vcO o0 false hm hf hb hk h
def qDb:=@Pure.vc
end
