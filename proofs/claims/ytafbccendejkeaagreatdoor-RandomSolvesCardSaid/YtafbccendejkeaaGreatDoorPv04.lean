import Derived.Test.YtafbccendejkeaaGreatDoorPv02
import Derived.Test.YtafbccendejkeaaGreatDoorPv03
import Derived.RangeFuncRecord
import Derived.Sort.LoopGhostIn
import Derived.TacticsIn
import Derived.OrdersIn
import Derived.RangeFuncIn
import Derived.Scope
set_option linter.all false
set_option linter.defProp false
namespace Go.Abs
open Go Go.RowKit
def jy(ops:Array Oper)(env:Env)(o:Oper):Option Bool :=
 match o.guard with
 |none=>some true
 | some (j,b)=>match(ops[j]?).bind (·.dst) with
  | some t=>match env t with
   |.bool c=>some (c==b)
   |.tup []=>some false
   |_=>none
  |none=>some false
def kg(first args cap:List AV):List AV:=first++args++cap
def OpA(P:Program)(G:Nat->AV)(o:Oper)(env:Env)(U:St)(v:AV)(U':St):Prop :=
 sem (Dof P) G env U o.op=some (v,U') \/
 ∃f args ts g first cap,o.op=.call {callee:=.value f,args:=args,argTypes:=ts}/\ev G env f=.fn g first cap/\Zb P G g (kg first (qbE G env args.toList) cap) U v/\U'=U
def wR(P:Program)(G:Nat->AV)(ops:Array Oper)(o:Oper)(env:Env)(U:St)(v:AV)(U':St):Prop :=
 (jy ops env o=some false/\v=.tup []/\U'=U)\/(jy ops env o=some true/\OpA P G o env U v U')
section
variable {P:Program}{G:Nat->AV}{N:Nat}{env:Env}{U U':St}{w0:World}{ro0:Nat->Nat->Option Value}{K:Kn}{a:Act}{w:World}{ops:Array Oper}{o:Oper}{v:AV}
def yW(he:ERel K N env a){b}(hj:∀j,o.guard=some (j,true)\/o.guard=some (j,false)->∀t,(ops[j]?).bind (·.dst)=some t->t<N)(h:jy ops env o=some b):
 Region.wanted o (yielded ops a.tmps)=b:=by
 unfold jy at h;unfold Region.wanted;split at h
 . rename_i hg;simp at h;subst h;simp[hg]
 rename_i j c hg;simp only[hg];split at h
 . rename_i t ht;have htN:=hj j (by cases c<;>simp[hg]) t ht;have hv:=he.val t;have hsz:t<a.tmps.size:=(by rwa[he.size]);simp only[yielded,ht,Option.bind_some];split at h
   . rename_i x hx;simp at h;subst h;rw[hx]at hv;simp only[qf]at hv;have:a.tmps[t]?=some (.bool x):=by
      rw[qEN hsz];simp[hsz]at hv;rw[hv]
     simp only[this];cases x<;>cases c<;>rfl
   . rename_i hx;simp at h;subst h;rw[hx]at hv;simp only[qf,qi]at hv;obtain⟨vs,hv1,hv2⟩:=hv;have:a.tmps[t]?=some (.tuple vs):=by
      rw[qEN hsz];simp[hsz]at hv1;rw[hv1]
     simp only[this];rfl
   cases h
 rename_i ht;simp at h;subst h;simp[yielded,ht]
def Wy(hw:WRel G w0 ro0 K U w)(he:ERel K N env a){f args ts g first cap}(ho:o.op=.call {callee:=.value f,args:=args,argTypes:=ts})
 (hf:ev G env f=.fn g first cap) (hb:bodied P g=true):
 ∃vs:Array Value,(execOp a.eval o).run P w=.ok (.enter g vs) w/\qi K (kg first (qbE G env args.toList) cap) vs.toList:=by
 have hv:=Jh hw he f;rw[hf]at hv;simp only[qf]at hv;obtain⟨va,vb,e1,h1,h2⟩:=hv;refine⟨va++args.map a.eval++vb,?_,?_⟩
 . cases hg:P.funcs[g]? with
   |none=>simp[bodied,hg]at hb
   | some fn=>
    simp[bodied,hg]at hb;obtain⟨b1,b2⟩:=hb;simp[execOp,ho,resolve,e1,Deferred.ofValue,invoke,callFunc,hg,b2,show ¬fn.body=none by intro e;simp[e]at b1]
 have:=QN hw he args.toList;simp only[kg,Array.toList_append,Array.toList_map];exact(h1.append this).append h2
def Act.put_defers'{a:Act}{d:Option Tmp}{v}:(a.put d v).defers=a.defers:=by
 unfold Act.put;split<;>rfl
def qFt:=@Act.put_defers'
def qrZ(hw:WRel G w0 ro0 K U w)(he:ERel K N env a)(hd:∀d,o.dst=some d->d<N)(h:OpA P G o env U v U'){next Q}
 (hn:∀K' a' w',K.le K'->WRel G w0 ro0 K' U' w'->ERel K' N (upd env o.dst v) a'->a'.defers=a.defers->next a' w'):o.wp P a w next Q:=by
 rcases h with h|⟨f,args,ts,g,first,cap,ho,hf,hp,rfl⟩
 . obtain⟨v',w',K',hr,h1,h2,h3⟩:=Kx hw he o h;unfold Oper.wp;rcases hr with hr|⟨hr,rfl⟩
   . rw[hr];exact hn K' _ w' h1 h2 ((he.mono h1).put hd h3) qFt
   rw[hr];exact hn K' _ w' h1 h2 ((he.mono h1).put hd h3) qFt
 obtain⟨vs,hr,hvs⟩:=Wy hw he ho hf hp.bodied;unfold Oper.wp;rw[hr,Oper.upon_enter];refine(qu2 hw hp hvs).mono ?_;rintro e w' ⟨v',K',rfl,h1,h2,h3⟩;exact hn K' _ w' h1 h2 ((he.mono h1).put hd h3) qFt
def Qc(N:Nat)(ops:Array Oper):Bool:=ops.toList.all fun o=>match o.dst with|some d=>decide (d<N)|none=>true
def ZQ{N ops}(h:Qc N ops=true){o}(ho:o∈ops.toList):∀d,o.dst=some d->d<N:=by
 intro d hd;have:=qBk.1 h o ho;simpa[hd] using this
def Zo{N ops}(h:Qc N ops=true)(o:Oper):∀j,o.guard=some (j,true)\/o.guard=some (j,false)->∀t,(ops[j]?).bind (·.dst)=some t->t<N:=by
 intro j _ t ht;obtain⟨o',h1,h2⟩:=qCM.1 ht;exact ZQ h (qBb (by simpa using h1)) t h2
def Za(args:List AV):Env:=fun t=>args.getD t (.tup [])
def qfQ(D:Nat->Option TI)(rs:List ResultVar)(env:Env)(U:St):Option (List AV) :=
 match rs with
 |[]=>some []
 |.tmp t::r=>(qfQ D r env U).map (env t::·)
 | .cell x t::r=>match kQ D U t (env x),qfQ D r env U with
  |some v,some l=>some (v::l)
  |_,_=>none
def Vo:List AV->AV
 |[v]=>v
 |l=>.tup l
def qcp(a:Act):ResultVar->Sem Value
 |.tmp t=>pure (a.tmps.getD t undef)
 |.cell x t=>do loadVar t (<- asAddr (a.tmps.getD x undef))
def Zq(hw:WRel G w0 ro0 K U w)(he:ERel K N env a):∀(rs:List ResultVar) (l),qfQ (Dof P) rs env U=some l ->
 ∃vs:List Value,(rs.mapM (qcp a)).run P w=.ok vs w/\qi K l vs
 |[],l,h=>by simp[qfQ]at h;subst h;exact⟨[],by simp,by simp[qi]⟩
 | .tmp t::r,l,h=>by
  simp only[qfQ]at h;obtain⟨l',hl',rfl⟩:=qBj.1 h;obtain⟨vs,h1,h2⟩:=Zq hw he r l' hl';refine⟨a.tmps.getD t undef::vs,?_,by simp only[qi];exact⟨_,_,rfl,he.val t,h2⟩⟩;rw[qFd,Sem.run_bind];simp only[qcp,pure,Sem.run,Result.andThen_ok,Sem.run_bind,h1]
 | .cell x t::r,l,h=>by
  simp only[qfQ]at h;split at h
  . rename_i v l' hv hl';simp only[qBu]at h;subst h;obtain⟨vs,h1,h2⟩:=Zq hw he r l' hl';obtain⟨v',r1,r2⟩:=qcS hw (he.val x) hv;have hx:=he.val x;have hptr:∃ad,a.tmps.getD x undef=.pointer (some ad):=by
     cases hxx:env x<;>rw[hxx]at hx hv<;>simp only[qf]at hx<;>first
      |(obtain⟨B,_,e⟩:=hx;exact⟨_,e⟩)
      |(obtain⟨B,o,e,_⟩:=hx;exact⟨_,e⟩)
      |(unfold kQ at hv;split at hv<;>simp_all)
    obtain⟨ad,had⟩:=hptr;refine⟨v'::vs,?_,by simp only[qi];exact⟨_,_,rfl,r2,h2⟩⟩;rw[had]at r1;simp only[Instr.loadAt,Instr.sureAddr,pure,Sem.run_bind,Sem.run,Result.andThen_ok]at r1;rw[qFd,Sem.run_bind];simp only[qcp,had,asAddr,pure,Sem.run,Result.andThen_ok,Sem.run_bind,r1,h1]
  cases h
def Kz(hw:WRel G w0 ro0 K U w)(he:ERel K N env a){fn l}(h:qfQ (Dof P) fn.results.toList env U=some l):
 ∃v,(results fn a.tmps).run P w=.ok v w/\qf K (Vo l) v:=by
 obtain⟨vs,h1,h2⟩:=Zq hw he _ _ h;have hrun:(fn.results.mapM (qcp a)).run P w=.ok vs.toArray w:=by
  rw[Array.mapM_eq_mapM_toList];simp[h1]
 have hres:results fn a.tmps=(fn.results.mapM (qcp a)).bind fun vs=>Sem.pure (if h:vs.size=1 then vs[0] else .tuple vs):=by
  unfold results;congr 2
 have hlen:=h2.length
 cases l with
 | nil=>
  simp only[qi]at h2;subst h2;refine⟨.tuple #[],?_,by simp only[Vo,qf];exact⟨#[],rfl,by simp[qi]⟩⟩;rw[hres,Sem.run_bind',hrun];rfl
 | cons x r=>
  cases r with
  | nil=>
   simp only[qi]at h2;obtain⟨v,vr,rfl,g1,rfl⟩:=h2;refine⟨v,?_,g1⟩;rw[hres,Sem.run_bind',hrun];rfl
  | cons y r=>
   refine⟨.tuple vs.toArray,?_,by simp only[Vo,qf];exact⟨_,rfl,by simpa using h2⟩⟩;rw[hres,Sem.run_bind',hrun];have:¬vs.toArray.size=1:=by simp at hlen⊢;omega
   simp only[Result.andThen_ok,dif_neg this,Sem.run]
def ERel.enter{args vs n}(hvs:qi K args vs.toList)(hn:args.length<=n):
 ERel K n (Za args) {tmps:=vs++Array.replicate (n-vs.size) undef,defers:=[]}:=by
 have hlen:=hvs.length;simp only[qCv]at hlen;refine⟨by simp;omega,fun t=>?_⟩;simp only[Za];by_cases ht:t<vs.size
 . have h1:args[t]?=some args[t]:=qBc (by omega);obtain⟨v,e1,e2⟩:=hvs.get t _ h1;simp only[qBi,h1,qET]
   rwa[qED,qDT ht,show vs[t]?=some v by simpa using e1]
 have h1:args[t]?=none:=qBI (by omega);simp only[qBi,h1,Option.getD_none];rw[qED,Array.getElem?_append_right (by omega)];have:(Array.replicate (n-vs.size) undef)[t-vs.size]?.getD undef=undef:=by
  rw[Array.getElem?_replicate];split<;>rfl
 rw[this];exact⟨#[],rfl,by simp[qi]⟩
def Qm{u:FrameMode}(hu:u≠.run){fn R tmps f0}:∀(Ds:List Nat) (K) (w),WRel G w0 ro0 K U w->Ds.Nodup->(∀D∈Ds,K.fx D=some (.deferred (some []))/\f0 D=none) ->
 (∀B o,f0 B=some o->K.fx B=some o) ->
 (∀(w'),WRel G w0 ro0 (K.withFx f0) U w'->LeavesIn Fence.wide 0 P fn tmps R [] u w')->LeavesInM Fence.wide 0 P fn tmps R (Ds.map qw2) u w
 |[],K,w,hw,_,_,hf,h=>h w (hw.unfix hf)
 | D::Ds,K,w,hw,hn,hD,hf,h=>by
  obtain⟨d1,d2⟩:=hD D (by simp);obtain⟨b1,_⟩:=hw.fx D _ d1;have hw1:=hw.refix d1 (by intros;intro e;cases e) (.deferred none);refine⟨hu,.inl ⟨D,_,rfl,run_takeDeferred b1,?_⟩⟩;refine Qm hu Ds _ _ hw1 (qC1.1 hn).2 (fun D' hD'=>?_) (fun B o e=>?_) h
  . have hne:¬D'=D:=fun e=>(qC1.1 hn).1 (e▸hD')
    simp only[Kn.withFx,if_neg hne];exact hD D' (by simp[hD'])
  have hne:¬B=D:=fun e'=>by subst e';rw[d2]at e;cases e
  simp only[Kn.withFx,if_neg hne];exact hf B o e
def Yo{G:Glo}{f:FuncId}{fn:Func}{c:Code}{vs:Array Value}{R:Ending->World->Prop}{Q:Exit->Env->St->Prop}(hf:P.funcs[f]?=some fn)(hb:fn.body=some c)
 (h:c.wp P (J4 G w0 ro0 K fn.ntmps [] Q) {tmps:=vs++Array.replicate (fn.ntmps-vs.size) undef,defers:=[]} w)
 (hR:∀e K' env U a w',K.le K'->WRel G w0 ro0 K' U w'->ERel K' fn.ntmps env a->Q e env U->(e=.ret\/e=.normal)/\∃v,(results fn a.tmps).run P w'=.ok v w'/\R (.returned v) w')
 (hX:∀c K' U w',K.le K'->WRel G w0 ro0 K' U w'->G.X c U->R (.panicked c) w'):Calls P f vs w R:=by
 refine(callsIn_wide (n:=0)).1 (callsIn_of_wp_marks hf hb trivial (wpIn_mono (wpIn_wide.2 h) ?_));rintro e a w' (⟨K',env,U',h1,h2,h3,⟨Ds,n1,n2,n3⟩,hq⟩|⟨c,K',U',rfl,h1,h2,⟨Ds,n1,n2,n3⟩,hq⟩)
 . have he:=(hR e K' env U' a w' h1 h2 h3 hq).1;have key:LeavesInM Fence.wide 0 P fn a.tmps R a.defers .returning w':=by
    rw[n2,qBU];refine Qm (by simp) (G:=G) (w0:=w0) (ro0:=ro0) (U:=U') (f0:=K.fx) Ds K' w' h2 n1 (fun D hD=>⟨(n3 D hD).2,(n3 D hD).1⟩) h1.fx fun w'' hw''=>?_
    exact(hR e _ env U' a w'' (qFL (K:=K) (f:=K.fx) h1 fun _ _ e=>e) hw'' (h3.refx K.fx) hq).2
   rcases he with rfl|rfl
   . exact key
   exact key
 show LeavesInM Fence.wide 0 P fn a.tmps R a.defers (.panicking c) w';rw[n2,qBU];refine Qm (by simp) (G:=G) (w0:=w0) (ro0:=ro0) (U:=U') (f0:=K.fx) Ds K' w' h2 n1 (fun D hD=>⟨(n3 D hD).2,(n3 D hD).1⟩) h1.fx fun w'' hw''=>?_
 exact hX c _ U' w'' (qFL (K:=K) (f:=K.fx) h1 fun _ _ e=>e) hw'' hq
def Pure.of_body {G} (hX : G.NoX) {f fn c args r} (hf : P.funcs[f]? = some fn) (hb : fn.body = some c) (hnm : fn.name ≠ "runtime.NumGoroutine") (hn : args.length ≤ fn.ntmps)
 (h:AWp P G fn.ntmps c (Za args) ⟨[],[]⟩ (fun e env U=>(e=.ret\/e=.normal)/\∃l,qfQ (Dof P) fn.results.toList env U=some l/\((qL (fin U.H (Vo l))=true/\Leq (fin U.H (Vo l)) r)\/(qL (frz U.H 8 (Vo l))=true/\Leq (frz U.H 8 (Vo l)) r)))):Pure P G f args r:=by
 refine⟨by simp[bodied,hf,hb,hnm],?_⟩;intro w0 ro vs hg hro hvs;have hw:WRel G w0 ro (K0 ro) ⟨[],[]⟩ w0:=⟨Below.refl _ _,hg,hro,fun b o v e _=>e,by simp,fun _ _ _ e=>by simp[K0]at e,fun _ _ e=>by simp[K0]at e,by simp,fun _ _ e=>by simp[K0]at e,
  fun _ _ _ _ e=>by simp[K0]at e,rfl,fun _ _ _ _ _ e=>by simp[K0]at e,fun _ _ e=>by simp[K0]at e,fun _ _ e=>by simp[K0]at e⟩
 have he:=ERel.enter hvs hn;refine Yo hf hb (h w0 ro (K0 ro) _ w0 hw he) ?_ fun c _ U _ _ _ hc=>(hX c U hc).elim
 rintro e K' env U a w h1 h2 h3 ⟨hend,l,hl,hfin⟩;refine⟨hend,?_⟩;obtain⟨v,hr,hv⟩:=Kz h2 h3 hl;have hv3:qf (K0 (Qf w0 w K'.ro)) r v:=by
  rcases hfin with⟨hno,hfin⟩|⟨hno,hfin⟩
  . exact qFF _ _ hfin (qf.toK0 _ hno (qsS h2 hv))
  exact qFF _ _ hfin (qkY h2 8 hv)
 obtain⟨q1,q2⟩:=h2.end_ro;exact⟨v,hr,v,Qf w0 w K'.ro,rfl,h2.below,fun b o v e=>YP _ _ _ _ _ _ (h1.ro b o v e),q1,q2,hv3⟩
def qj.of_body {G f fn c args Q} (hf : P.funcs[f]? = some fn) (hb : fn.body = some c) (hnm : fn.name ≠ "runtime.NumGoroutine") (hn : args.length ≤ fn.ntmps)
 (h:AWp P G fn.ntmps c (Za args) U (fun e env U'=>(e=.ret\/e=.normal)/\∃l,qfQ (Dof P) fn.results.toList env U'=some l/\Q (Vo l) U')):qj P G f args U Q:=by
 refine⟨by simp[bodied,hf,hb,hnm],?_⟩;intro w0 ro0 K w vs hw hvs;refine Yo hf hb (h w0 ro0 K _ w hw (ERel.enter hvs hn)) ?_ fun c K' U' w' h1 h2 hc=>.inr ⟨c,U',K',rfl,h1,h2,hc⟩
 rintro e K' env U' a w h1 h2 h3 ⟨hend,l,hl,hq⟩;obtain⟨v,hr,hv⟩:=Kz h2 h3 hl;exact⟨hend,v,hr,.inl ⟨v,Vo l,U',K',rfl,h1,h2,hv,hq⟩⟩
end
def qa(P:Program)(G:Glo)(d:Bool)(g:FuncId)(args:List AV)(U:St)(Q:AV->St->Prop):Prop :=
 match d with
 |true=>∃r,Zb P G g args U r/\Q r U
 |false=>qj P G g args U Q
def qex{α:Type}(d:Bool)(l:Option α):Option α:=match d with
 |true=>none
 |false=>l
def vcX(l:Option (List (AV×St)))(s:Option (AV×St))(Q:AV->St->Prop):Prop :=
 match l with
 |some l=>∀v U',(v,U')∈l->Q v U'
 | none=>match s with
  |some (v,U')=>Q v U'
  |none=>False
def jT(P:Program)(G:Glo)(mu d:Bool)(op:Op)(env:Env)(U:St)(Q:AV->St->Prop):Prop :=
 match op with
 | .call {callee:=.value f,args:=args,argTypes:=_}=>match ev G env f with
  |.fn g first cap=>qa P G d g (kg first (qbE G env args.toList) cap) U Q
  |_=>False
 |op=>vcX (qex d (qch (Dof P) G mu env U op)) (sem (Dof P) G env U op) Q
section
variable {P:Program}{G:Glo}{N:Nat}{env:Env}{U U':St}{w0:World}{ro0:Nat->Nat->Option Value}{K:Kn}{a:Act}{w:World}{ops:Array Oper}{o:Oper}{v:AV}{mu:Bool}
def qka(hw:WRel G w0 ro0 K U w)(he:ERel K N env a)(hd:∀d,o.dst=some d->d<N){R}(h:jT P G mu false o.op env U R){next Q}
 (hn:∀v U' K' a' w',R v U'->K.le K'->WRel G w0 ro0 K' U' w'->ERel K' N (upd env o.dst v) a'->a'.defers=a.defers->next a' w')
 (hp:∀c U' K' w',G.X c U'->K.le K'->WRel G w0 ro0 K' U' w'->Q (.panic c) a w'):o.wp P a w next Q:=by
 have did:∀v U',R v U'->Did P G w0 ro0 K w (execOp a.eval o) v U'->o.wp P a w next Q:=by
  intro v U' hr hdid;obtain⟨v',w',K',hrun,h1,h2,h3⟩:=hdid;unfold Oper.wp;rcases hrun with hrun|⟨hrun,rfl⟩
  . rw[hrun];exact hn v U' K' _ w' hr h1 h2 ((he.mono h1).put hd h3) qFt
  rw[hrun];exact hn v U' K' _ w' hr h1 h2 ((he.mono h1).put hd h3) qFt
 unfold jT at h;split at h
 . rename_i f args ts hop;split at h
   . rename_i g first cap hf
     have hac:=h;obtain⟨vs,hr,hvs⟩:=Wy hw he hop hf hac.1;unfold Oper.wp;rw[hr,Oper.upon_enter];refine(hac.2 w0 ro0 K w vs hw hvs).mono ?_;rintro e w' (⟨v',v,U',K',rfl,h1,h2,h3,h4⟩|⟨c,U',K',rfl,h1,h2,h3⟩)
     . exact hn v U' K' _ w' h4 h1 h2 ((he.mono h1).put hd h3) qFt
     exact hp c U' K' w' h3 h1 h2
   exact h.elim
 simp only[vcX,qex]at h;split at h
 . rename_i l hl;obtain⟨v,U',h1,h2⟩:=Vu hw he o hl;exact did v U' (h v U' h1) h2
 split at h
 . rename_i v U' hs;exact did v U' h (Kx hw he o hs)
 exact h.elim
def qj.imp{f args Q Q'}(h:qj P G f args U Q)(hq:∀v U,Q v U->Q' v U):qj P G f args U Q' :=
 ⟨h.1,fun w0 ro0 K w vs hw hvs=>(h.2 w0 ro0 K w vs hw hvs).mono fun e w' h=>h.imp (fun⟨v',v,U',K',h1,h2,h3,h4,h5⟩=>⟨v',v,U',K',h1,h2,h3,h4,hq _ _ h5⟩) id⟩
def qFN:=@qj.imp
def vcX.imp{l s R R'}(h:vcX l s R)(hr:∀v U,R v U->R' v U):vcX l s R':=by
 unfold vcX at h⊢;split at h
 . exact fun v U' hm=>hr _ _ (h v U' hm)
 split at h
 . exact hr _ _ h
 exact h.elim
def jT.plain{d op}(hop:¬∃f args ts,op=.call {callee:=.value f,args:=args,argTypes:=ts})(R):
 jT P G mu d op env U R=vcX (qex d (qch (Dof P) G mu env U op)) (sem (Dof P) G env U op) R:=by
 unfold jT;split
 . exact absurd ⟨_,_,_,rfl⟩ hop
 rfl
def jT.imp{d op R R'}(h:jT P G mu d op env U R)(hr:∀v U,R v U->R' v U):jT P G mu d op env U R':=by
 by_cases hop:∃f args ts,op=.call {callee:=.value f,args:=args,argTypes:=ts}
 . obtain⟨f,args,ts,rfl⟩:=hop;simp only[jT]at h⊢;split at h
   . rename_i g first cap hf
     cases d
     . exact qFN h hr
     obtain⟨r,h1,h2⟩:=h;exact⟨r,h1,hr _ _ h2⟩
   exact h.elim
 rw[jT.plain hop]at h⊢;exact h.imp hr
variable {G:Nat->AV}
def qn0:∀{a b:AV},Leq a b->b.atom=true->a.atom=true:=by
 intro a b h hb;cases b<;>simp only[AV.atom]at hb<;>first|(cases hb;done)|skip
 all_goals(cases a<;>simp only[Leq]at h<;>first|(cases h;done)|rfl|(exact h.elim)|skip)
def qcW:∀{l m:List AV},zm l m->m.all AV.atom=true->l.all AV.atom=true
 |[],[],_,_=>rfl
 | a::r,b::s,h,hm=>by
  simp only[zm,qCz,qBf]at h hm⊢;exact⟨qn0 h.1 hm.1,qcW h.2 hm.2⟩
 |[],_::_,h,_=>by simp[zm]at h
 |_::_,[],h,_=>by simp[zm]at h
def zm.of_map{f g}(h:∀a,Leq (f a) (g a)):∀l:List AV,zm (l.map f) (l.map g)
 |[]=>by simp[zm]
 |a::r=>by simp only[qBn,zm];exact⟨h a,zm.of_map h r⟩
def qFO:=@zm.of_map
def WY.of_map{f g}(h:∀a,Leq (f a) (g a)):∀l:List AV,WY (l.map f) (l.map g)
 |[]=>by simp[WY]
 |a::r=>by simp only[qBn,WY];exact⟨h a,WY.of_map h r⟩
def yq.of_map{f g}(h:∀a,Leq (f a) (g a)):∀l:List (List AV),(l.map (·.map g)).all (·.all AV.atom)=true->yq (l.map (·.map f)) (l.map (·.map g))
 |[],_=>by simp[yq]
 | a::r,ha=>by
  simp only[qBn,qCz,qBf,yq]at ha⊢;exact⟨.inr ⟨qFO h a,ha.1⟩,yq.of_map h r ha.2⟩
def KD{f g}(h:∀a,Leq (f a) (g a)):∀l:List (List AV),(l.map (·.map g)).all (·.all AV.atom)=true->(l.map (·.map f)).all (·.all AV.atom)=true
 |[],_=>rfl
 | a::r,ha=>by
  simp only[qBn,qCz,qBf]at ha⊢;exact⟨qcW (qFO h a) ha.1,KD h r ha.2⟩
def Leq.any(a):Leq a .any:=by cases a<;>simp[Leq]
def qgF{H H':List Blk}(hH:∀(b:Nat) (x:Blk),H[b]?=some x->H'[b]?=some x):∀(n:Nat) (a:AV),Leq (frz H' n a) (frz H n a)
 |0,a=>by simp only[frz];exact qFG _
 | n+1,a=>by
  have ih:=qgF hH n;by_cases hn:qL a=true
  . simp only[frz,hn,if_true];exact qFG _
  cases a with
  | ptr b off=>
   simp only[frz,hn,qBE,if_false]
   cases hb:H[b]? with
   |none=>exact Leq.any _
   | some x=>
    rw[hH b x hb]
    cases x with
    |cells c=>simp only[Leq];exact WY.of_map ih _
    |_=>exact Leq.any _
  | ms b off len sz=>
   simp only[frz,hn,qBE,if_false]
   cases hb:H[b]? with
   |none=>exact Leq.any _
   | some x=>
    rw[hH b x hb]
    cases x with
    | cells c=>
     simp only;by_cases hc:off+len*sz<=c.length/\((vS sz len (c.drop off)).map (·.map (frz H n))).all (·.all AV.atom)=true
     . rw[if_pos hc,if_pos ⟨hc.1,KD ih _ hc.2⟩];simp only[Leq];exact .inr ⟨trivial,yq.of_map ih _ hc.2,.inl trivial⟩
     rw[if_neg hc];exact Leq.any _
    |_=>exact Leq.any _
  |rptr c=>simp only[frz,hn,qBE,if_false,Leq];exact WY.of_map ih _
  | sl sz rows tok=>
   simp only[frz,hn,qBE,if_false];by_cases hc:(rows.map (·.map (frz H n))).all (·.all AV.atom)=true
   . rw[if_pos hc,if_pos (KD ih _ hc)];simp only[Leq];exact .inr ⟨trivial,yq.of_map ih _ hc,.inl trivial⟩
   rw[if_neg hc];exact Leq.any _
  |fn f x y=>simp only[frz,hn,qBE,if_false,Leq];exact⟨trivial,qFO ih _,qFO ih _⟩
  |agg c=>simp only[frz,hn,qBE,if_false,Leq];exact qFO ih _
  |tup c=>simp only[frz,hn,qBE,if_false,Leq];exact qFO ih _
  |_=>simp only[frz,hn,qBE,if_false];exact qFG _
def Pure.less'{f args args' r}(h:Pure P G f args' r)(ha:zm args args'):Pure P G f args r :=
 ⟨h.1,fun w0 ro vs hg hro hvs=>h.2 w0 ro vs hg hro (zm.rel _ _ ha hvs)⟩
def Zb.mono{g args r}{U τ:St}(h:Zb P G g args U r)(hH:∀(b:Nat) (x:Blk),U.H[b]?=some x->τ.H[b]?=some x):Zb P G g args τ r:=by
 rcases h with h|⟨h1,h2⟩
 . exact .inl h
 exact .inr ⟨h1,h2.less' (qFO (qgF hH 8) args)⟩
end
def qlz:Op->Nat
 |.move _|.assign _|.pick ..|.nilCheck _|.binOp ..|.unOp ..|.convert ..|.fieldAddr ..|.field ..|.indexAddr ..|.index ..|.extract ..|.slice ..|.makeFunc ..|.build ..|.buildSlice .. =>0
 |.load ..|.lookup .. =>1
 |.call {callee:=.builtin b,.. }=>match b with|.len=>1|.min=>0|.max=>0|_=>2
 |.call {callee:=.value _,.. }=>1
 |_=>2
section
variable {P:Program}{G:Nat->AV}{N:Nat}{env env':Env}{U U':St}{ops:Array Oper}{o:Oper}{v:AV}
def qzf(h:qlz o.op=0)(hs:wR P G ops o env U v U'):U'=U/\∀τ,wR P G ops o env τ v τ:=by
 rcases hs with⟨h1,rfl,rfl⟩|⟨h1,h2⟩
 . exact⟨rfl,fun τ=>.inl ⟨h1,rfl,rfl⟩⟩
 rcases h2 with h2|⟨f,args,ts,g,first,cap,ho,_⟩
 . have key:U'=U/\∀τ,sem (Dof P) G env τ o.op=some (v,τ):=by
    obtain⟨dst,op,ty,pos,after,guard⟩:=o;simp only at h h2⊢;cases op<;>simp only[qlz]at h<;>try(cases h;done)
    case call c=>
     obtain⟨callee,args,ts⟩:=c
     cases callee with
     | builtin b=>
      simp only at h;split at h
      . cases h
      . simp only[sem,zI]at h2⊢;split at h2<;>first
         | (obtain⟨u,hu,he⟩:=qBj.1 h2
            simp only[qBs]at he;obtain⟨rfl,rfl⟩:=he;exact⟨rfl,fun τ=>by simp_all⟩)
         |(rename_i hb _ _;cases hb;done)
         |(cases h2;done)
         |skip
        all_goals simp_all
      . simp only[sem,zI]at h2⊢;split at h2<;>first
         | (obtain⟨u,hu,he⟩:=qBj.1 h2
            simp only[qBs]at he;obtain⟨rfl,rfl⟩:=he;exact⟨rfl,fun τ=>by simp_all⟩)
         |(rename_i hb _ _;cases hb;done)
         |(cases h2;done)
         |skip
        all_goals simp_all
      cases h
     |value f=>simp at h
     |invoke r m=>simp at h
    case makeFunc fn a b=>
     cases fn<;>simp only[sem]at h2⊢<;>first|(cases h2;done)|skip
     cases h2;exact⟨rfl,fun τ=>rfl⟩
    case pick c a b=>
     simp only[sem]at h2⊢;split at h2
     . cases h2;exact⟨rfl,fun τ=>by simp_all⟩
     cases h2
    case nilCheck x=>
     simp only[sem]at h2⊢;split at h2
     . cases h2;exact⟨rfl,fun τ=>by simp_all⟩
     . cases h2;exact⟨rfl,fun τ=>by simp_all⟩
     cases h2
    case slice t x lo hi mx=>
     simp only[sem]at h2⊢;split at h2
     . split at h2
       . obtain⟨u,hu,he⟩:=qBj.1 h2;simp only[qBs]at he;obtain⟨rfl,rfl⟩:=he;exact⟨rfl,fun τ=>by simp_all⟩
       . split at h2
         . split at h2
           . obtain⟨u,hu,he⟩:=qBj.1 h2;simp only[qBs]at he;obtain⟨rfl,rfl⟩:=he;exact⟨rfl,fun τ=>by simp_all⟩
           . cases h2
         . split at h2
           . obtain⟨u,hu,he⟩:=qBj.1 h2;simp only[qBs]at he;obtain⟨rfl,rfl⟩:=he;exact⟨rfl,fun τ=>by simp_all⟩
           . cases h2
         . cases h2
       . cases h2
     cases h2
    all_goals
     simp only[sem]at h2⊢
     first
      | (obtain⟨u,hu,he⟩:=qBj.1 h2
         simp only[qBs]at he;obtain⟨rfl,rfl⟩:=he;exact⟨rfl,fun τ=>by rw[hu];rfl⟩)
      | (cases h2
         exact⟨rfl,fun τ=>rfl⟩)
   exact⟨key.1,fun τ=>.inr ⟨h1,.inl (key.2 τ)⟩⟩
 rw[ho]at h;simp[qlz]at h
def qAg(h:qlz o.op=1)(hs:wR P G ops o env U v U'):U'=U:=by
 rcases hs with⟨h1,rfl,rfl⟩|⟨h1,h2⟩
 . rfl
 rcases h2 with h2|⟨f,args,ts,g,first,cap,ho,_,_,e⟩
 . obtain⟨dst,op,ty,pos,after,guard⟩:=o;simp only at h h2;cases op<;>simp only[qlz]at h<;>try(cases h;done)
   case load t a=>
    simp only[sem]at h2;obtain⟨u,hu,he⟩:=qBj.1 h2;simp only[qBs]at he;exact he.2.symm
   case lookup t a i ok=>
    simp only[sem]at h2;obtain⟨u,hu,he⟩:=qBj.1 h2;simp only[qBs]at he;exact he.2.symm
   case call c=>
    obtain⟨callee,args,ts⟩:=c
    cases callee with
    | builtin b=>
     simp only[sem]at h2;simp only at h;unfold zI at h2;split at h2
     . obtain⟨u,hu,he⟩:=qBj.1 h2;simp only[qBs]at he;exact he.2.symm
     . simp at h
     . simp at h
     . simp at h
     . simp at h
     cases h2
    |value f=>simp[sem]at h2
    |invoke r m=>simp[sem]at h2
 exact e
def qqk{t u x}(h:∀d,t=some d->x≠.tmp d):ev G (upd env t u) x=ev G env x:=by
 cases t with
 |none=>rfl
 | some d=>
  cases x with
  | tmp n=>
   have:¬n=d:=fun e=>h d rfl (by rw[e])
   simp[ev,upd,this]
  |_=>rfl
def wY{l}(h:∀x∈l,ev G env x=ev G env' x):qbE G env l=qbE G env' l:=qCf h
def qcg(D){op}(h:∀x∈op.operands,ev G env x=ev G env' x):sem D G env U op=sem D G env' U op:=by
 have pairs:∀ps:Array (Nat×Operand),(∀x∈ps.map (·.2),ev G env x=ev G env' x)->(ps.toList.map fun p=>(p.1,ev G env p.2))=(ps.toList.map fun p=>(p.1,ev G env' p.2)):=fun ps hp=>
  qCf fun p hm=>by
   rw[hp p.2 (Array.mem_map.2 ⟨p,by simpa using hm,rfl⟩)]
 have opt:∀m:Option Operand,(∀x,m=some x->ev G env x=ev G env' x)->m.map (ev G env)=m.map (ev G env'):=by
  intro m hm
  cases m with
  |none=>rfl
  |some x=>simp[hm x rfl]
 cases op<;>simp only[Op.operands]at h<;>simp only[sem]
 case build t ps=>rw[pairs ps fun x hx=>h x (by simpa using hx)]
 case buildSlice t n ps=>rw[pairs ps fun x hx=>h x (by simpa using hx)]
 case makeFunc fn a b=>
  cases fn<;>simp only;rw[wY (env:=env) (env':=env') (l:=a.toList) (fun x hx=>h x (by simp at hx;simp[hx])),wY (env:=env) (env':=env') (l:=b.toList) (fun x hx=>h x (by simp at hx;simp[hx]))]
 case call c=>
  obtain⟨callee,args,ts⟩:=c;cases callee<;>simp only;rw[wY (env:=env) (env':=env') (l:=args.toList) (fun x hx=>h x (by simp at hx;simp[Call.operands,hx]))]
 case slice t x lo hi mx=>
  rw[h x (by simp),opt lo (fun y e=>h y (by simp[e])),opt hi (fun y e=>h y (by simp[e])),opt mx (fun y e=>h y (by simp[e]))]
 case pick c a b=>rw[h c (by simp),h a (by simp),h b (by simp)]
 case store t a b=>rw[h a (by simp),h b (by simp)]
 case binOp op t a b u=>rw[h a (by simp),h b (by simp)]
 case makeSlice t a b=>rw[h a (by simp),h b (by simp)]
 case indexAddr t a b=>rw[h a (by simp),h b (by simp)]
 case index t a b=>rw[h a (by simp),h b (by simp)]
 case lookup t a b ok=>rw[h a (by simp),h b (by simp)]
 case mapUpdate t a b c=>rw[h a (by simp),h b (by simp),h c (by simp)]
 case makeMap t r=>cases r<;>rfl
 case next it b=>cases b<;>first|rfl|simp only[h it (by simp)]
 all_goals first
  |(rw[h _ (by simp)];done)
  |rfl
def yx{t:Option Nat}{u:AV}(h:∀d,t=some d->d∉o.looksAt ops):wR P G ops o (upd env t u) U v U'↔wR P G ops o env U v U':=by
 have hop:∀x∈o.op.operands,ev G (upd env t u) x=ev G env x:=fun x hx=>qqk fun d hd hxd=>h d hd (by
  subst hxd;exact qB1 _ (List.mem_filterMap.2 ⟨.tmp d,by simpa using hx,rfl⟩))
 have hw:jy ops (upd env t u) o=jy ops env o:=by
  unfold jy
  cases hg:o.guard with
  |none=>rfl
  | some jb=>
   obtain⟨j,b⟩:=jb
   cases hj:(ops[j]?).bind (·.dst) with
   |none=>simp[hj]
   | some s=>
    simp only[hj];have:upd env t u s=env s:=by
     cases t with
     |none=>rfl
     | some d=>
      have:¬s=d:=fun e=>h d rfl (by subst e;simp[Oper.looksAt,hg,hj])
      simp[upd,this]
    rw[this]
 have hsem:=qcg (G:=G) (U:=U) (Dof P) (op:=o.op) (env:=upd env t u) (env':=env) hop;have hpure:∀f args ts,o.op=.call {callee:=.value f,args:=args,argTypes:=ts}->ev G (upd env t u) f=ev G env f/\qbE G (upd env t u) args.toList=qbE G env args.toList:=by
  intro f args ts ho;rw[ho]at hop;simp only[Op.operands,Call.operands]at hop;exact⟨hop f (by simp),wY fun x hx=>hop x (by simp at hx;simp[hx])⟩
 unfold wR OpA;rw[hw,hsem];constructor
 . rintro(h1|⟨h1,h2|⟨f,args,ts,g,first,cap,ho,h3,h4⟩⟩)
   . exact .inl h1
   . exact .inr ⟨h1,.inl h2⟩
   . obtain⟨e1,e2⟩:=hpure f args ts ho;rw[e1]at h3;rw[e2]at h4;exact .inr ⟨h1,.inr ⟨f,args,ts,g,first,cap,ho,h3,h4⟩⟩
 rintro(h1|⟨h1,h2|⟨f,args,ts,g,first,cap,ho,h3,h4⟩⟩)
 . exact .inl h1
 . exact .inr ⟨h1,.inl h2⟩
 obtain⟨e1,e2⟩:=hpure f args ts ho;rw[<- e1]at h3;rw[<- e2]at h4;exact .inr ⟨h1,.inr ⟨f,args,ts,g,first,cap,ho,h3,h4⟩⟩
def qfz{s t u v}(h:∀d,s=some d->t≠some d):upd (upd env s u) t v=upd (upd env t v) s u:=by
 cases s with
 |none=>rfl
 | some d=>
  cases t with
  |none=>rfl
  | some e=>
   have hne:e≠d:=fun x=>h d rfl (by rw[x])
   funext i;simp only[upd];by_cases h1:i=e
   . subst h1;simp[hne]
   simp[h1]
def zc(mu:Bool)(ac:List Nat)(k:Nat)(op:Op):Nat :=
 match op with
 |.alloc _=>2
 |.box .. =>2
 |.makeMap _ none=>2
 |.call {callee:=.builtin .append,.. }=>if mu then 9 else 3
 |.call {callee:=.value _,.. }=>if ac.contains k then 9 else 1
 |op=>match qlz op with|0=>0|1=>1|_=>9
def qvC(x y:Nat):Bool:=x==0||y==0||(x==1&&(y==1||y==2||y==3))||(x==3&&(y==1||y==2))||(x==2&&y==3)
def qdc(ops:Array Oper)(x y:Oper)(cx cy:Nat):Bool:=x.apart ops y&&qvC cx cy
def qib{D}{U τ:St}{t:Nat}{a u:AV}(hH:∀(b:Nat) (x:Blk),U.H[b]?=some x->τ.H[b]?=some x)(h:kQ D U t a=some u):kQ D τ t a=some u:=by
 unfold kQ at h⊢
 cases hD:D t with
 |none=>simp[hD]at h
 | some i=>
  cases a<;>simp only[hD]at h⊢<;>first|exact h|(cases h;done)|skip
  rename_i b off
  cases hb:U.H[b]? with
  |none=>simp[hb]at h
  |some x=>rw[hH _ _ hb];rwa[hb]at h
def qcR{D}{U τ:St}{t}{m k u:AV}{ok:Bool}(hH:∀(b:Nat) (x:Blk),U.H[b]?=some x->τ.H[b]?=some x)(h:zz D U t m k ok=some u):zz D τ t m k ok=some u:=by
 unfold zz at h⊢
 cases hD:D t with
 |none=>simp[hD]at h
 | some i=>
  simp only[hD]at h⊢;cases hd:i.d<;>simp only[hd]at h⊢<;>first|(cases h;done)|skip
  rename_i kt et;by_cases hk:zG D kt k=true
  . rw[if_pos hk]at h⊢;cases m<;>simp only at h⊢<;>first|exact h|(cases h;done)|skip
    rename_i b
    cases hb:U.H[b]? with
    |none=>simp[hb]at h
    |some x=>rw[hH _ _ hb];rwa[hb]at h
  rw[if_neg hk]at h;cases h
def qkA{D}{U τ:St}{t:Nat}{x u:AV}(hH:∀(b:Nat) (x:Blk),U.H[b]?=some x->τ.H[b]?=some x)(h:YT D U t x=some u):YT D τ t x=some u:=by
 unfold YT at h⊢
 cases hD:D t with
 |none=>simp[hD]at h
 | some i=>
  simp only[hD]at h⊢;cases x<;>cases hd:i.d<;>simp only[hd]at h⊢<;>first|exact h|(cases h;done)|skip
  rename_i b _ _
  cases hb:U.H[b]? with
  |none=>simp[hb]at h
  |some x=>rw[hH _ _ hb];rwa[hb]at h
def qAh{D U ts vs v U'}(h:zI D U .append ts vs=some (v,U')):∃t s x,ts=[t,t]/\vs=[s,x]/\qr D U t s x=some (v,U'):=by
 match ts,vs,h with
 | [t,u],[s,x],h=>
  simp only[zI]at h;split at h
  . rename_i hut;subst hut;exact⟨_,s,x,rfl,rfl,h⟩
  cases h
 |[],_,h=>simp[zI]at h
 |[_],_,h=>simp[zI]at h
 |_::_::_::_,_,h=>simp[zI]at h
 |[_,_],[],h=>simp[zI]at h
 |[_,_],[_],h=>simp[zI]at h
 |[_,_],_::_::_::_,h=>simp[zI]at h
def qAf{D U ts vs v U'}(h:zI D U .len ts vs=some (v,U')):∃t x,ts=[t]/\vs=[x]/\YT D U t x=some v:=by
 cases ts with
 |nil=>simp[zI]at h
 | cons t r=>
  cases r with
  |cons _ _=>simp[zI]at h
  | nil=>
   cases vs with
   |nil=>simp[zI]at h
   | cons x s=>
    cases s with
    |cons _ _=>simp[zI]at h
    | nil=>
     simp only[zI]at h;obtain⟨u,hu,he⟩:=qBj.1 h;simp only[qBs]at he;obtain⟨rfl,_⟩:=he;exact⟨t,x,rfl,rfl,hu⟩
def KH(h:qlz o.op=1)(hs:wR P G ops o env U v U'):U'=U/\∀τ:St,(∀(b:Nat) (x:Blk),U.H[b]?=some x->τ.H[b]?=some x)->wR P G ops o env τ v τ:=by
 have e:=qAg h hs;refine⟨e,fun τ hH=>?_⟩;subst e;rcases hs with⟨h1,rfl,_⟩|⟨h1,h2⟩
 . exact .inl ⟨h1,rfl,rfl⟩
 refine .inr ⟨h1,?_⟩;rcases h2 with h2|⟨f,args,ts,g,first,cap,ho,hf,hp,_⟩
 . left;obtain⟨dst,op,type,pos,after,guard⟩:=o;simp only at h h2⊢;cases op<;>simp only[qlz]at h<;>try(cases h;done)
   case load t a=>
    simp only[sem]at h2⊢;obtain⟨u,hu,he⟩:=qBj.1 h2;simp only[qBs]at he;obtain⟨rfl,_⟩:=he;rw[qib hH hu];rfl
   case lookup t a i ok=>
    simp only[sem]at h2⊢;obtain⟨u,hu,he⟩:=qBj.1 h2;simp only[qBs]at he;obtain⟨rfl,_⟩:=he;rw[qcR hH hu];rfl
   case call c=>
    obtain⟨callee,args,ts⟩:=c
    cases callee with
    | builtin b=>
     simp only at h;simp only[sem]at h2⊢;cases b<;>simp only at h<;>try(cases h;done)
     obtain⟨t,x,e1,e2,hu⟩:=qAf h2;rw[e1,e2];simp only[zI,qkA hH hu];rfl
    |value f=>simp[sem]at h2
    |invoke r m=>simp[sem]at h2
 exact .inr ⟨f,args,ts,g,first,cap,ho,hf,hp.mono hH,rfl⟩
def qa1(h:(∃e,o.op=.alloc e)\/(∃e x,o.op=.box e x)\/(∃t,o.op=.makeMap t none))(hs:wR P G ops o env U v U'):
 (∀(b:Nat) (x:Blk),U.H[b]?=some x->U'.H[b]?=some x)/\U'.T=U.T/\∀T,wR P G ops o env ⟨U.H,T⟩ v ⟨U'.H,T⟩:=by
 have push:∀(b:Blk) (i:Nat) (x:Blk),U.H[i]?=some x->(U.H++[b])[i]?=some x:=fun b i x hi=>by
  rw[qBq (qBa.1 hi).1];exact hi
 rcases hs with⟨h1,rfl,rfl⟩|⟨h1,h2⟩
 . exact⟨fun _ _ e=>e,rfl,fun T=>.inl ⟨h1,rfl,rfl⟩⟩
 rcases h2 with h2|⟨f,args,ts,g,first,cap,ho,hf,hp,_⟩
 . obtain⟨dst,op,type,pos,after,guard⟩:=o;simp only at h h2;rcases h with⟨e,rfl⟩|⟨e,x,rfl⟩|⟨t,rfl⟩
   . simp only[sem]at h2;split at h2
     . rename_i i hD;split at h2
       . rename_i hz;cases h2;exact⟨push _,rfl,fun T=>.inr ⟨h1,.inl (by simp[sem,hD,hz,St.push])⟩⟩
       cases h2
     cases h2
   . simp only[sem]at h2;obtain⟨c,hc,he⟩:=qBj.1 h2;simp only[qBs]at he;obtain⟨rfl,rfl⟩:=he;exact⟨push _,rfl,fun T=>.inr ⟨h1,.inl (by simp[sem,hc,St.push])⟩⟩
   simp only[sem,qBu,qBs]at h2;obtain⟨rfl,rfl⟩:=h2;exact⟨push _,rfl,fun T=>.inr ⟨h1,.inl (by simp[sem,St.push])⟩⟩
 rw[ho]at h;rcases h with⟨e,h⟩|⟨e,x,h⟩|⟨t,h⟩<;>cases h
def qbx{args ts}(h:o.op=.call {callee:=.builtin .append,args:=args,argTypes:=ts})(hs:wR P G ops o env U v U'):
 U'.H=U.H/\∀H,wR P G ops o env ⟨H,U.T⟩ v ⟨H,U'.T⟩:=by
 rcases hs with⟨h1,rfl,rfl⟩|⟨h1,h2⟩
 . exact⟨rfl,fun H=>.inl ⟨h1,rfl,rfl⟩⟩
 rcases h2 with h2|⟨f,args',ts',g,first,cap,ho,hf,hp,_⟩
 . obtain⟨dst,op,type,pos,after,guard⟩:=o;simp only at h;subst h;simp only[sem]at h2;have key:U'.H=U.H/\∀H,zI (Dof P) ⟨H,U.T⟩ .append ts.toList (qbE G env args.toList)=some (v,⟨H,U'.T⟩):=by
    obtain⟨t,s,x,e1,e2,h3⟩:=qAh h2;rw[e1,e2];simp only[zI,if_true];unfold qr at h3⊢;split at h3
    case h_2=>cases h3
    rename_i i sz rows tok sz2 rows2 hD hr
    try simp only[]
    split at h3
    case h_2=>cases h3
    rename_i e hd;split at h3
    case h_2=>cases h3
    rename_i j hj
    try simp only[hj]
    split at h3
    case isFalse=>cases h3
    rename_i hc
    try simp only[if_pos hc]
    split at h3
    . rename_i hn;cases h3;exact⟨rfl,fun H=>by rw[if_pos hn]⟩
    rename_i hn;split at h3
    . cases h3
    . cases h3;exact⟨rfl,fun H=>by rw[if_neg hn]⟩
    . cases h3;exact⟨rfl,fun H=>by rw[if_neg hn]⟩
    split at h3
    . rename_i hk;cases h3;exact⟨rfl,fun H=>by rw[if_neg hn,if_pos hk]⟩
    cases h3
   exact⟨key.1,fun H=>.inr ⟨h1,.inl (by simp only[sem];exact key.2 H)⟩⟩
 rw[h]at ho;cases ho
def qly{mu ac k op}:
 (zc mu ac k op=0->qlz op=0)/\(zc mu ac k op=1->qlz op=1)/\(zc mu ac k op=2->(∃e,op=.alloc e)\/(∃e x,op=.box e x)\/(∃t,op=.makeMap t none)) /\
   (zc mu ac k op=3->∃args ts,op=.call {callee:=.builtin .append,args:=args,argTypes:=ts}):=by
 unfold zc;split
 . simp
 . simp
 . simp
 . cases mu<;>simp
 . split<;>simp[qlz]
 rename_i op h1 h2 h3 h4 h5;split
 . rename_i h;simp[h]
 . rename_i h;simp[h]
 simp
def qyd{oi oj vi vj U1 U2 mu ac i j}(hf:qdc ops oi oj (zc mu ac i oi.op) (zc mu ac j oj.op)=true)(hi:wR P G ops oi env U vi U1)(hj:wR P G ops oj (upd env oi.dst vi) U1 vj U2):
 ∃τ,wR P G ops oj env U vj τ/\wR P G ops oi (upd env oj.dst vj) τ vi U2/\upd (upd env oj.dst vj) oi.dst vi=upd (upd env oi.dst vi) oj.dst vj:=by
 simp only[qdc,qvC,qBf,qDa,beq_iff_eq]at hf;obtain⟨ha,hc⟩:=hf;obtain⟨a1,a2,a3⟩:=Oper.apart_spec ha;have hj':=(yx a1).1 hj;have hcomm:upd (upd env oj.dst vj) oi.dst vi=upd (upd env oi.dst vi) oj.dst vj:=(qfz a2).symm;obtain⟨ci0,ci1,ci2,ci3⟩:=qly (mu:=mu) (ac:=ac) (k:=i) (op:=oi.op);obtain⟨cj0,cj1,cj2,cj3⟩:=qly (mu:=mu) (ac:=ac) (k:=j) (op:=oj.op);rcases hc with(((hc|hc)|⟨hc,hc2⟩)|⟨hc,hc2⟩)|⟨hc,hc2⟩
 . obtain⟨rfl,hall⟩:=qzf (ci0 hc) hi;exact⟨U2,hj',(yx a3).2 (hall U2),hcomm⟩
 . obtain⟨rfl,hall⟩:=qzf (cj0 hc) hj';exact⟨U,hall U,(yx a3).2 hi,hcomm⟩
 . obtain⟨rfl,hall⟩:=KH (ci1 hc) hi;have hH:∀(b:Nat) (x:Blk),U1.H[b]?=some x->U2.H[b]?=some x:=by
    rcases hc2 with(hc2|hc2)|hc2
    . obtain⟨rfl,_⟩:=KH (cj1 hc2) hj';exact fun _ _ e=>e
    . exact(qa1 (cj2 hc2) hj').1
    obtain⟨args,ts,ho⟩:=cj3 hc2;rw[(qbx ho hj').1];exact fun _ _ e=>e
   exact⟨U2,hj',(yx a3).2 (hall U2 hH),hcomm⟩
 . obtain⟨args,ts,ho⟩:=ci3 hc;obtain⟨e1,hall⟩:=qbx ho hi;obtain⟨H,T⟩:=U;obtain⟨H1,T1⟩:=U1;simp only at e1 hall;subst e1;rcases hc2 with hc2|hc2
   . obtain⟨rfl,hallj⟩:=KH (cj1 hc2) hj';exact⟨⟨H1,T⟩,hallj _ (fun _ _ e=>e),(yx a3).2 (hall H1),hcomm⟩
   obtain⟨_,e2,hallj⟩:=qa1 (cj2 hc2) hj';obtain⟨H2,T2⟩:=U2;simp only at e2 hallj;subst e2;exact⟨⟨H2,T⟩,hallj T,(yx a3).2 (hall H2),hcomm⟩
 obtain⟨args,ts,ho⟩:=cj3 hc2;obtain⟨e1,hallj⟩:=qbx ho hj';obtain⟨_,e2,hall⟩:=qa1 (ci2 hc) hi;obtain⟨H,T⟩:=U;obtain⟨H1,T1⟩:=U1;obtain⟨H2,T2⟩:=U2;simp only at e1 e2 hall hallj;subst e1;subst e2;exact⟨⟨H,T2⟩,hallj H,(yx a3).2 (hall T2),hcomm⟩
def YF(P:Program)(G:Glo)(ops:Array Oper)(mu:Bool)(ac:List Nat)(R:Env->St->Prop):Nat->Array Bool->Env->St->Prop
 |0,listed,env,U=>Region.ready .any ops listed=[]/\R env U
 | fuel+1,listed,env,U=>(Region.ready .any ops listed=[]->R env U) /\
  ∀ i∈Region.ready .any ops listed,∃o,ops[i]?=some o /\
   ((∃v U',wR P G ops o env U v U'/\YF P G ops mu ac R fuel (listed.setIfInBounds i true) (upd env o.dst v) U') \/
    (zc mu ac i o.op=9/\jy ops env o=some true/\jT P G mu false o.op env U (fun v U'=>YF P G ops mu ac R fuel (listed.setIfInBounds i true) (upd env o.dst v) U')))
def qis(ops:Array Oper)(listed:Array Bool)(i:Nat)(dp:List Nat):Bool :=
 dp.all fun j=>!listed.getD j true&&(match ops[j]? with
  |some oj=>oj.after.any fun e=>Region.binds .any e&&(e.on==i||dp.contains e.on)
  |none=>true)
def qki{listed i j dp}(hd:qis ops listed i dp=true)(hi:listed.getD i true=false)(hj:j∈Region.ready .any ops listed):j∉dp:=by
 intro hm;have h1:=qBk.1 hd j hm;simp only[qBf,qCA]at h1;obtain⟨hun,oj,hoj,hall⟩:=mem_ready.1 hj;rw[hoj]at h1;obtain⟨e,he,he2⟩:=Array.any_eq_true'.1 h1.2;simp only[qBf,qDa,beq_iff_eq]at he2;have hl:=hall e he he2.1;have tt:∀k,listed.getD k true=false->listed.getD k false=true->False:=by
  intro k h2 h3;rcases qEU k listed.size with h'|h'
  . simp[h']at h2 h3;rw[h2]at h3;cases h3
  simp[Array.getElem?_eq_none h']at h3
 rcases he2.2 with h2|h2
 . rw[h2]at hl;exact tt i hi hl
 have h3:=qBk.1 hd e.on (by simpa using h2);simp only[qBf,qCA]at h3;exact tt _ h3.1 hl
def qdp{listed i j dp}(hd:qis ops listed i dp=true)(hj:j∉dp):qis ops (listed.setIfInBounds j true) i dp=true:=by
 refine qBk.2 fun k hk=>?_
 have h1:=qBk.1 hd k hk;simp only[qBf,qCA]at h1⊢;have hjk:j≠k:=fun e=>hj (e▸hk)
 exact⟨by rw[getD_set_ne true hjk];exact h1.1,h1.2⟩
def qeA{o:Oper}{d:Nat}(h:d∉o.looksAt ops):.tmp d∉o.op.operands.toList:=fun hm=>h (qB1 _ (List.mem_filterMap.2 ⟨.tmp d,hm,rfl⟩))
def qbQ{t:Option Nat}{u:AV}(h:∀d,t=some d->d∉o.looksAt ops):jy ops (upd env t u) o=jy ops env o:=by
 unfold jy
 cases hg:o.guard with
 |none=>rfl
 | some jb=>
  obtain⟨j,b⟩:=jb
  cases hj:(ops[j]?).bind (·.dst) with
  |none=>simp[hj]
  | some s=>
   simp only[hj];have:upd env t u s=env s:=by
    cases t with
    |none=>rfl
    | some d=>
     have:¬s=d:=fun e=>h d rfl (by subst e;simp[Oper.looksAt,hg,hj])
     simp[upd,this]
   rw[this]
def qhE(D){mu op}(h:∀x∈op.operands,ev G env x=ev G env' x):qch D G mu env U op=qch D G mu env' U op:=by
 cases op<;>simp only[Op.operands]at h<;>simp only[qch]
 case makeSlice t x y=>rw[h x (by simp),h y (by simp)]
 case binOp o t x y u=>rw[h x (by simp),h y (by simp)]
 case call c=>
  obtain⟨callee,args,ts⟩:=c;cases callee<;>simp only;rename_i b;have ha:∀x∈args.toList,ev G env x=ev G env' x:=fun x hx=>h x (by simp at hx;simp[Call.operands,hx])
  generalize ts.toList=tl;generalize args.toList=al at ha;split
  . cases mu
    . rfl
    . simp only[ha _ (qDq),ha _ (qCK _ (qDq))]
  . simp only[ha _ (qDq)]
  . simp only[ha _ (qDq),ha _ (qCK _ (qDq))]
  rfl
variable {G:Glo}
def qmC{mu op t u R}(h:∀d,t=some d->.tmp d∉op.operands.toList):jT P G mu false op (upd env t u) U R↔jT P G mu false op env U R:=by
 have hop:∀x∈op.operands,ev G (upd env t u) x=ev G env x:=fun x hx=>qqk fun d hd hxd=>h d hd (by subst hxd;simpa using hx)
 by_cases hc:∃f args ts,op=.call {callee:=.value f,args:=args,argTypes:=ts}
 . obtain⟨f,args,ts,rfl⟩:=hc;simp only[Op.operands,Call.operands]at hop;simp only[jT];rw[hop f (by simp),wY (l:=args.toList) (fun x hx=>hop x (by simp at hx;simp[hx]))]
 rw[jT.plain hc,jT.plain hc,qhE (Dof P) hop,qcg (Dof P) hop]
variable {mu:Bool}{ac:List Nat}
def YF.first{R i oi vi dp}(hi:ops[i]?=some oi):∀(fuel) (listed) (env) (U U1),
 qis ops listed i dp=true ->
 (∀(j) (oj),ops[j]?=some oj->j≠i->listed.getD j true=false->j∉dp->qdc ops oi oj (zc mu ac i oi.op) (zc mu ac j oj.op)=true/\(zc mu ac j oj.op≠9\/zc mu ac i oi.op=0)) ->
 i∈Region.ready .any ops listed->wR P G ops oi env U vi U1->YF P G ops mu ac R fuel (listed.setIfInBounds i true) (upd env oi.dst vi) U1->YF P G ops mu ac R (fuel+1) listed env U:=by
 intro fuel
 induction fuel with
 | zero=>
  intro listed env U U1 hd _ hr hs H;refine⟨fun h=>(by rw[h]at hr;cases hr),fun j hj=>?_⟩;by_cases hji:j=i
  . subst hji;exact⟨oi,hi,.inl ⟨vi,U1,hs,H⟩⟩
  have:=ready_mono hj hji;rw[H.1]at this;cases this
 | succ fuel ih=>
  intro listed env U U1 hd hfree hr hs H;refine⟨fun h=>(by rw[h]at hr;cases hr),fun j hj=>?_⟩;by_cases hji:j=i
  . subst hji;exact⟨oi,hi,.inl ⟨vi,U1,hs,H⟩⟩
  obtain⟨oj,hoj,hst⟩:=H.2 j (ready_mono hj hji);obtain⟨hjun,oj',hoj',hall⟩:=mem_ready.1 hj;rw[hoj]at hoj';cases hoj';have hnd:=qki hd (mem_ready.1 hr).1 hj;obtain⟨hf1,hf2⟩:=hfree j oj hoj hji hjun hnd;have rest:∀(k:Nat) (ok:Oper),ops[k]?=some ok->k≠i->(listed.setIfInBounds j true).getD k true=false->k∉dp->qdc ops oi ok (zc mu ac i oi.op) (zc mu ac k ok.op)=true/\(zc mu ac k ok.op≠9\/zc mu ac i oi.op=0):=by
   intro k ok hk hki hun hkd;refine hfree k ok hk hki ?_ hkd;by_cases hjk:j=k
   . subst hjk;exact hjun
   rwa[getD_set_ne true hjk]at hun
  rcases hst with⟨vj,U2,hsj,H2⟩|⟨hc9,hw9,H2⟩
  . obtain⟨τ,s1,s2,s3⟩:=qyd hf1 hs hsj;refine⟨oj,hoj,.inl ⟨vj,τ,s1,ih (listed.setIfInBounds j true) _ τ U2 (qdp hd hnd) rest (ready_mono hr (Ne.symm hji)) s2 ?_⟩⟩
    rwa[qEV _ _ hji,s3]
  have h0:=hf2.resolve_left (fun h=>h hc9);simp only[qdc,qBf]at hf1;obtain⟨a1,a2,a3⟩:=Oper.apart_spec hf1.1;obtain⟨rfl,hpure⟩:=qzf ((qly (mu:=mu) (ac:=ac) (k:=i) (op:=oi.op)).1 h0) hs;refine⟨oj,hoj,.inr ⟨hc9,by rw[<- qbQ (t:=oi.dst) (u:=vi) a1];exact hw9,?_⟩⟩;refine((qmC (t:=oi.dst) (u:=vi) (fun d hd=>qeA (a1 d hd))).1 H2).imp fun v U' hv=>?_
  refine ih (listed.setIfInBounds j true) _ U' U' (qdp hd hnd) rest (ready_mono hr (Ne.symm hji)) ((yx a3).2 (hpure U')) ?_
  rwa[qEV _ _ hji,qfz (s:=oj.dst) (t:=oi.dst) (fun d hd e=>a2 d e hd)]
def YF.solo{R i oi dp}(hi:ops[i]?=some oi){fuel listed env U}(hd:qis ops listed i dp=true)
 (hall:∀(j) (oj),ops[j]?=some oj->j≠i->listed.getD j true=false->j∈dp) (hr:i∈Region.ready .any ops listed)
 (H:(∃v U',wR P G ops oi env U v U'/\YF P G ops mu ac R fuel (listed.setIfInBounds i true) (upd env oi.dst v) U') \/
   (zc mu ac i oi.op=9/\jy ops env oi=some true/\jT P G mu false oi.op env U (fun v U'=>YF P G ops mu ac R fuel (listed.setIfInBounds i true) (upd env oi.dst v) U'))):
 YF P G ops mu ac R (fuel+1) listed env U:=by
 refine⟨fun h=>(by rw[h]at hr;cases hr),fun j hj=>?_⟩;by_cases hji:j=i
 . subst hji;exact⟨oi,hi,H⟩
 obtain⟨hjun,oj,hoj,_⟩:=mem_ready.1 hj;exact absurd (hall j oj hoj hji hjun) (qki hd (mem_ready.1 hr).1 hj)
def Q4(hsl:Qc N ops=true){R w0 ro0 Q}:∀(fuel) (listed) (env) (U) (K) (a) (w),
 (∀K' env' U' a' w',K.le K'->WRel G w0 ro0 K' U' w'->ERel K' N env' a'->a'.defers=a.defers->R env' U'->Q .normal a' w') ->
 (∀c K' U' a' w',K.le K'->WRel G w0 ro0 K' U' w'->a'.defers=a.defers->G.X c U'->Q (.panic c) a' w')->WRel G w0 ro0 K U w->ERel K N env a->YF P G ops mu ac R fuel listed env U->wpAny P .any ops Q fuel listed a w
 |0,listed,env,U,K,a,w,hq,_,hw,he,h=>⟨h.1,hq K env U a w (qFQ K) hw he rfl h.2⟩
 | fuel+1,listed,env,U,K,a,w,hq,hp,hw,he,h=>by
  refine⟨fun h0=>hq K env U a w (qFQ K) hw he rfl (h.1 h0),fun i hi=>?_⟩;obtain⟨o,ho,H⟩:=h.2 i hi;have hmem:o∈ops.toList:=qBb (i:=i) (by simpa using ho);have hd:=ZQ hsl hmem;have hgd:=Zo hsl o;unfold wpOp;simp only[ho];rcases H with⟨v,U',hs,H⟩|⟨_,hwant,H⟩
  . rcases hs with⟨hwant,rfl,rfl⟩|⟨hwant,hop⟩
    . rw[if_neg (by simp[yW he hgd hwant])];exact Q4 hsl fuel _ _ _ K _ w (fun K2 env2 U2 a2 w2 hle x1 x2 xd=>hq K2 env2 U2 a2 w2 hle x1 x2 (xd.trans qFt)) (fun c K2 U2 a2 w2 hle x1 xd=>hp c K2 U2 a2 w2 hle x1 (xd.trans qFt)) hw (he.put hd (by simp only[qf];exact⟨#[],rfl,by simp[qi]⟩)) H
    . rw[if_pos (yW he hgd hwant)];refine .inl (qrZ hw he hd hop fun K' a' w' h1 h2 h3 hds=>?_);exact Q4 hsl fuel _ _ _ K' a' w' (fun K2 env2 U2 a2 w2 hle x1 x2 xd=>hq K2 env2 U2 a2 w2 (qFR h1 hle) x1 x2 (xd.trans hds)) (fun c K2 U2 a2 w2 hle x1 xd=>hp c K2 U2 a2 w2 (qFR h1 hle) x1 (xd.trans hds)) h2 h3 H
  rw[if_pos (yW he hgd hwant)];refine .inl (qka hw he hd H (fun v U' K' a' w' hA h1 h2 h3 hds=>?_) fun c U' K' w' hx h1 h2=>hp c K' U' _ w' h1 h2 rfl hx);exact Q4 hsl fuel _ _ _ K' a' w' (fun K2 env2 U2 a2 w2 hle x1 x2 xd=>hq K2 env2 U2 a2 w2 (qFR h1 hle) x1 x2 (xd.trans hds)) (fun c K2 U2 a2 w2 hle x1 xd=>hp c K2 U2 a2 w2 (qFR h1 hle) x1 (xd.trans hds)) h2 h3 hA
end
mutual
inductive Sch where
 |done
 |step (k:Nat) (dp:List Nat) (s:Sch)
 |fork (a:Alts)
inductive Alts where
 |nil
 |cons (k:Nat) (s:Sch) (r:Alts)
end
def qcb(ops:Array Oper)(mu:Bool)(ac:List Nat)(listed:Array Bool)(k:Nat)(dp:List Nat):Bool :=
 (Region.ready .any ops listed).contains k&&qis ops listed k dp&&(match ops[k]? with
   | some ok=>(List.range ops.size).all fun j=>j==k||listed.getD j true||dp.contains j||(zc mu ac k ok.op != 9&&(match ops[j]? with
    |some oj=>qdc ops ok oj (zc mu ac k ok.op) (zc mu ac j oj.op)&&(zc mu ac j oj.op != 9||zc mu ac k ok.op==0)
    |none=>true))
   |none=>false)
mutual
def qej(ops:Array Oper)(mu:Bool)(ac:List Nat):Sch->Array Bool->Bool
 |.done,listed=>(Region.ready .any ops listed).isEmpty
 |.step k dp s,listed=>qcb ops mu ac listed k dp&&qej ops mu ac s (listed.setIfInBounds k true)
 |.fork a,listed=>!(Region.ready .any ops listed).isEmpty&&qdH ops mu ac a listed (Region.ready .any ops listed)
def qdH(ops:Array Oper)(mu:Bool)(ac:List Nat):Alts->Array Bool->List Nat->Bool
 |.nil,_,need=>need.isEmpty
 |.cons k s r,listed,need=>need.contains k&&qej ops mu ac s (listed.setIfInBounds k true)&&qdH ops mu ac r listed (need.filter (· != k))
end
mutual
def Vv:Sch->Nat
 |.done=>0
 |.step _ _ s=>Vv s+1
 |.fork a=>qby a+1
def qby:Alts->Nat
 |.nil=>0
 |.cons _ s r=>max (Vv s) (qby r)
end
def qzY(ops:Array Oper)(k:Nat):List Nat :=
 (List.range ops.size).foldl (fun dp j=>match ops[j]? with
   |some oj=>if oj.after.any (fun e=>Region.binds .any e&&(e.on==k||dp.contains e.on)) then j::dp else dp
   |none=>dp) []
def qvl(ops:Array Oper)(mu:Bool)(ac:List Nat):Nat->Nat->Array Bool->Bool
 |0,_,listed=>(Region.ready .any ops listed).isEmpty
 |fuel+1,k,listed=>qcb ops mu ac listed k (qzY ops k)&&qvl ops mu ac fuel (k+1) (listed.setIfInBounds k true)
def qqr(ops:Array Oper)(mu lw:Bool):Bool:=qvl ops mu (if lw then [ops.size-1] else []) ops.size 0 (Array.replicate ops.size false)
section
structure Opts where
 mu:Bool
 fk:List (Nat×Sch×List Nat)
 lw:List Nat
 bw:List (Nat×Nat):=[]
def o0:Opts:=⟨false,[],[],[]⟩
def jd(N:Nat):Code->Bool
 |.skip|.exit _=>true
 |.region _ ops false=>Qc N ops
 |.seq x y=>jd N x&&jd N y
 |.cond _ x y=>jd N x&&jd N y
 |.block _ c=>jd N c
 |_=>false
def jI(N:Nat)(o:Opts):Code->Bool
 |.skip|.ret|.exit _=>true
 | .region id ops d=>Qc N ops&&(!d||(match o.fk.lookup id with
  |some (s,ac)=>qej ops o.mu ac s (Array.replicate ops.size false)&&decide (Vv s<=ops.size)
  |none=>qqr ops o.mu (o.lw.contains id)))
 |.seq x y=>jI N o x&&jI N o y
 |.cond _ x y=>jI N o x&&jI N o y
 |.block _ c=>jI N o c
 |.loop c=>jI N o c
 | .rangeFunc _ ps x y=>(match ps.toList with
  |[p,q]=>decide (p<N)&&decide (q<N)
  |[p]=>decide (p<N)
  |_=>false)&&jd N x&&jd N y
 |.scope c=>jI N o c
 |.label _=>true
 |_=>false
def qho(c:Bool)(A B:Prop):Prop:=(c=true->A)/\(c=false->B)
def vcG(P:Program)(G:Glo)(mu d:Bool)(ops:Array Oper)(o:Oper)(env:Env)(U:St)(k:Env->AV->St->Prop):Prop :=
 match o.guard with
 |none=>jT P G mu d o.op env U (k env)
 | some (j,b)=>match(ops[j]?).bind (·.dst) with
  | some t=>match env t with
   |.bool c=>qho (c==b) (jT P G mu d o.op (upd env (some t) (.bool b)) U (k (upd env (some t) (.bool b)))) (k (upd env (some t) (.bool (!b))) (.tup []) U)
   |.tup []=>k env (.tup []) U
   |_=>False
  |none=>k env (.tup []) U
def qeI:Op->Bool
 |.call {callee:=.value _,.. }=>true
 |_=>false
def qsy{α:Type}:List α->Bool
 |[]=>true
 |_=>false
def vcR(P:Program)(G:Glo)(mu:Bool)(ops:Array Oper)(d lw:Bool):List Oper->Env->St->(Env->St->Prop)->Prop
 |[],env,U,Q=>Q env U
 |o::rest,env,U,Q=>vcG P G mu (d&&!(lw&&qsy rest&&qeI o.op)) ops o env U (fun env v U'=>vcR P G mu ops d lw rest (upd env o.dst v) U' Q)
mutual
def vcS(P:Program)(G:Glo)(mu:Bool)(ac:List Nat)(ops:Array Oper):Sch->Env->St->(Env->St->Prop)->Prop
 |.done,env,U,Q=>Q env U
 | .step k _ s,env,U,Q=>match ops[k]? with
  |some o=>vcG P G mu (zc mu ac k o.op != 9) ops o env U (fun env v U'=>vcS P G mu ac ops s (upd env o.dst v) U' Q)
  |none=>False
 |.fork a,env,U,Q=>vX P G mu ac ops a env U Q
def vX(P:Program)(G:Glo)(mu:Bool)(ac:List Nat)(ops:Array Oper):Alts->Env->St->(Env->St->Prop)->Prop
 |.nil,_,_,_=>True
 | .cons k s r,env,U,Q=>(match ops[k]? with
  |some o=>vcG P G mu (zc mu ac k o.op != 9) ops o env U (fun env v U'=>vcS P G mu ac ops s (upd env o.dst v) U' Q)
  |none=>False)/\vX P G mu ac ops r env U Q
end
abbrev FR(ro:Option Nat):Fence:={Fence.wide with round:=ro}
def qfy{env t v}(h:env t=v):upd env (some t) v=env:=by
 funext i;simp only[upd];split
 . rename_i e;rw[e,h]
 rfl
section
variable {P:Program}{G:Glo}{N:Nat}{env:Env}{U U':St}{w0:World}{ro0:Nat->Nat->Option Value}{K:Kn}{a:Act}{w:World}{ops:Array Oper}{o:Oper}{v:AV}{mu d:Bool}{ac:List Nat}
def wB{k}(h:vcG P G mu d ops o env U k):(jy ops env o=some false/\k env (.tup []) U)\/(jy ops env o=some true/\jT P G mu d o.op env U (k env)):=by
 unfold vcG at h;split at h
 . rename_i hg;exact .inr ⟨by simp[jy,hg],h⟩
 rename_i j b hg;split at h
 . rename_i t ht;split at h
   . rename_i c hc;by_cases hcb:c=b
     . have:=h.1 (by simp[hcb]);rw[hcb]at hc;rw[qfy hc]at this;exact .inr ⟨by simp[jy,hg,ht,hc],this⟩
     have hcb':c = !b:=(by cases c<;>cases b<;>simp_all);have:=h.2 (by simp[hcb]);rw[hcb']at hc;rw[qfy hc]at this;exact .inl ⟨by simp[jy,hg,ht,hc],this⟩
   . rename_i hc;exact .inl ⟨by simp[jy,hg,ht,hc],h⟩
   exact h.elim
 rename_i ht;exact .inl ⟨by simp[jy,hg,ht],h⟩
def qbR(hs:Qc N ops=true){lw Q}:∀(l) (env) (U) (K) (a) (w),(∀o∈l,o∈ops.toList)->vcR P G mu ops false lw l env U Q->WRel G w0 ro0 K U w->ERel K N env a ->
 ∀{Q':Exit->Act->World->Prop},(∀K' env' U' a' w',K.le K'->WRel G w0 ro0 K' U' w'->ERel K' N env' a'->a'.defers=a.defers->Q env' U'->Q' .normal a' w') ->
 (∀c K' U' a' w',K.le K'->WRel G w0 ro0 K' U' w'->a'.defers=a.defers->G.X c U'->Q' (.panic c) a' w')->wpList P ops Q' l a w
 |[],env,U,K,a,w,_,h,hw,he,Q',hq,_=>hq K env U a w (qFQ K) hw he rfl h
 | o::rest,env,U,K,a,w,hm,h,hw,he,Q',hq,hp=>by
  have hd:=ZQ hs (hm o (by simp));have hgd:=Zo hs o;have hrest:∀x∈rest,x∈ops.toList:=fun x hx=>hm x (by simp[hx])
  have cont:∀(v) (U') (K1) (a1) (w1),vcR P G mu ops false lw rest (upd env o.dst v) U' Q->K.le K1->WRel G w0 ro0 K1 U' w1->ERel K1 N (upd env o.dst v) a1->a1.defers=a.defers->wpList P ops Q' rest a1 w1 :=
   fun v U' K1 a1 w1 hv hle h1 h2 hds=>qbR hs rest _ U' K1 a1 w1 hrest hv h1 h2 (fun K' env' U'' a' w' hle' x1 x2 xd=>hq K' env' U'' a' w' (qFR hle hle') x1 x2 (xd.trans hds)) fun c K' U'' a' w' hle' x1 xd=>hp c K' U'' a' w' (qFR hle hle') x1 (xd.trans hds)
  simp only[vcR,qDo]at h;unfold wpList;rcases wB h with⟨hwant,h⟩|⟨hwant,h⟩
  . have:=yW he hgd hwant;rw[if_neg (by simp[this])];exact cont _ U K _ w h (qFQ K) hw (he.put hd (by simp only[qf];exact⟨#[],rfl,by simp[qi]⟩)) qFt
  have:=yW he hgd hwant;rw[if_pos this];exact .inl (qka hw he hd h (fun v U' K' a' w' hv h1 h2 h3 hds=>cont v U' K' a' w' hv h1 h2 h3 hds) fun c U' K' w' hx h1 h2=>hp c K' U' _ w' h1 h2 rfl hx)
def qj9(hX:G.NoX){ro n}(hw:WRel G w0 ro0 K U w)(he:ERel K N env a)(hd:∀d,o.dst=some d->d<N){R}(h:jT P G mu false o.op env U R){next Q}
 (hn:∀v v' U' K' w',R v U'->K.le K'->WRel G w0 ro0 K' U' w'->ERel K' N (upd env o.dst v) (a.put o.dst v')->next (a.put o.dst v') w'):o.wpIn (FR ro) n P a w next Q:=by
 have hnd:∀c,o.op≠.defer c:=by
  intro c e;rw[e]at h;simp[jT,vcX,qex,qch,sem]at h
 refine⟨fun _ _=>trivial,?_⟩;rw[Oper.semAt_eq _ _ _ hnd];have did:∀v U',R v U'->Did P G w0 ro0 K w (execOp a.eval o) v U'->o.uponIn (FR ro) n P a next Q ((execOp a.eval o).run P w):=by
  intro v U' hr hdid;obtain⟨v',w',K',hrun,h1,h2,h3⟩:=hdid;rcases hrun with hrun|⟨hrun,rfl⟩
  . rw[hrun];exact hn v v' U' K' w' hr h1 h2 ((he.mono h1).put hd h3)
  rw[hrun];exact hn v _ U' K' w' hr h1 h2 ((he.mono h1).put hd h3)
 unfold jT at h;split at h
 . rename_i f args ts hop;split at h
   . rename_i g first cap hf
     have hac:=h;obtain⟨vs,hr,hvs⟩:=Wy hw he hop hf hac.1;rw[hr,Oper.uponIn_enter];refine⟨fun e=>by simp[Fence.wide]at e,?_⟩;refine CallsIn.mono (F:=FR ro) (show CallsIn (FR ro) (n-1) P g vs w _ from(callsIn_wide (n:=n-1)).2 (hac.2 w0 ro0 K w vs hw hvs)) ?_;rintro e w' (⟨v',v,U',K',rfl,h1,h2,h3,h4⟩|⟨c,U',K',rfl,h1,h2,h3⟩)
     . exact hn v v' U' K' w' h4 h1 h2 ((he.mono h1).put hd h3)
     exact(hX c U' h3).elim
   exact h.elim
 simp only[vcX,qex]at h;split at h
 . rename_i l hl;obtain⟨v,U',h1,h2⟩:=Vu hw he o hl;exact did v U' (h v U' h1) h2
 split at h
 . rename_i v U' hs;exact did v U' h (Kx hw he o hs)
 exact h.elim
def Kd(hX:G.NoX)(hs:Qc N ops=true){ro n lw Q more}:∀(l) (env) (U) (K) (a) (w),(∀o∈l,o∈ops.toList)->vcR P G mu ops false lw l env U Q->WRel G w0 ro0 K U w->ERel K N env a ->
 ∀{Q':Exit->Act->World->Prop},(∀K' env' U' a' w',K.le K'->WRel G w0 ro0 K' U' w'->ERel K' N env' a'->a'.defers=a.defers->(∀t,(∀o∈l,o.dst≠some t)->a'.tmps.getD t undef=a.tmps.getD t undef)->Q env' U'->wpListIn (FR ro) n P ops Q' more a' w')->wpListIn (FR ro) n P ops Q' (l++more) a w
 |[],env,U,K,a,w,_,h,hw,he,Q',hq=>hq K env U a w (qFQ K) hw he rfl (fun _ _=>rfl) h
 | o::rest,env,U,K,a,w,hm,h,hw,he,Q',hq=>by
  have hd:=ZQ hs (hm o (by simp));have hgd:=Zo hs o;have hrest:∀x∈rest,x∈ops.toList:=fun x hx=>hm x (by simp[hx])
  have cont:∀(v) (v') (U') (K1) (w1),vcR P G mu ops false lw rest (upd env o.dst v) U' Q->K.le K1->WRel G w0 ro0 K1 U' w1->ERel K1 N (upd env o.dst v) (a.put o.dst v')->wpListIn (FR ro) n P ops Q' (rest++more) (a.put o.dst v') w1 :=
   fun v v' U' K1 w1 hv hle h1 h2=>Kd hX hs rest _ U' K1 _ w1 hrest hv h1 h2 fun K' env' U'' a' w' hle' x1 x2 xd xk=>hq K' env' U'' a' w' (qFR hle hle') x1 x2 (xd.trans qFt) fun t ht=>by
    rw[xk t fun x hx=>ht x (by simp[hx])];have hne:=ht o (by simp);unfold Act.put;split
    . rename_i d hdd;have:d≠t:=fun e=>hne (by rw[hdd,e])
      simp[this]
    rfl
  simp only[vcR,qDo]at h;rw[qBB];unfold wpListIn;rcases wB h with⟨hwant,h⟩|⟨hwant,h⟩
  . have:=yW he hgd hwant;rw[if_neg (by simp[this])];exact⟨fun _ _=>trivial,cont _ _ U K w h (qFQ K) hw (he.put hd (by simp only[qf];exact⟨#[],rfl,by simp[qi]⟩))⟩
  have:=yW he hgd hwant;rw[if_pos this];exact qj9 hX hw he hd h fun v v' U' K' w' hv h1 h2 h3=>cont v v' U' K' w' hv h1 h2 h3
def Ke{R}(h:jT P G mu true o.op env U R):∃v U',OpA P G o env U v U'/\R v U':=by
 unfold jT at h;split at h
 . rename_i f args ts hop;split at h
   . rename_i g first cap hf
     obtain⟨r,h1,h2⟩:=h;exact⟨r,U,.inr ⟨f,args,ts,g,first,cap,hop,hf,h1,rfl⟩,h2⟩
   exact h.elim
 simp only[vcX,qex]at h;split at h
 . rename_i v U' hs;exact⟨v,U',.inl hs,h⟩
 exact h.elim
def qj4{R i oi dp}(hi:ops[i]?=some oi){fuel listed}(hs:qcb ops mu ac listed i dp=true)
 (h:vcG P G mu (zc mu ac i oi.op != 9) ops oi env U (fun env v U'=>YF P G ops mu ac R fuel (listed.setIfInBounds i true) (upd env oi.dst v) U')):YF P G ops mu ac R (fuel+1) listed env U:=by
 simp only[qcb,hi,qBf]at hs;obtain⟨⟨hr,hd⟩,hall⟩:=hs;have hr':i∈Region.ready .any ops listed:=by simpa using hr
 have rest:∀(j:Nat) (oj:Oper),ops[j]?=some oj->j≠i->listed.getD j true=false->j∉dp->zc mu ac i oi.op≠9/\qdc ops oi oj (zc mu ac i oi.op) (zc mu ac j oj.op)=true/\(zc mu ac j oj.op≠9\/zc mu ac i oi.op=0):=by
  intro j oj hoj hji hun hnd;have:=qBk.1 hall j (qB5.2 (qB3.1 hoj).1);simp only[hoj,qDa,beq_iff_eq,qBf,bne_iff_ne,ne_eq]at this;rcases this with((h1|h1)|h1)|h1
  . exact absurd h1 hji
  . rw[hun]at h1;cases h1
  . exact absurd (by simpa using h1) hnd
  exact⟨h1.1,h1.2.1,h1.2.2⟩
 by_cases h9:zc mu ac i oi.op=9
 . have solo:∀(j:Nat) (oj:Oper),ops[j]?=some oj->j≠i->listed.getD j true=false->j∈dp:=by
    intro j oj hoj hji hun;apply Classical.byContradiction;intro hnd;exact(rest j oj hoj hji hun hnd).1 h9
   rw[h9]at h;refine YF.solo hi hd solo hr' ?_;rcases wB h with⟨hwant,h⟩|⟨hwant,h⟩
   . exact .inl ⟨_,U,.inl ⟨hwant,rfl,rfl⟩,h⟩
   exact .inr ⟨h9,hwant,h⟩
 have hd1:(zc mu ac i oi.op != 9)=true:=by simpa using h9
 rw[hd1]at h;rcases wB h with⟨hwant,h⟩|⟨hwant,h⟩
 . exact YF.first hi fuel listed env U U hd (fun j oj a b c e=>(rest j oj a b c e).2) hr' (.inl ⟨hwant,rfl,rfl⟩) h
 obtain⟨v,U',h1,h2⟩:=Ke h;exact YF.first hi fuel listed env U U' hd (fun j oj a b c e=>(rest j oj a b c e).2) hr' (.inr ⟨hwant,h1⟩) h2
def vcG.imp{k k'}(h:vcG P G mu d ops o env U k)(hk:∀env v U,k env v U->k' env v U):vcG P G mu d ops o env U k':=by
 unfold vcG at h⊢
 cases hg:o.guard with
 |none=>simp only[hg]at h⊢;exact jT.imp h (hk _)
 | some p=>
  obtain⟨j,b⟩:=p;simp only[hg]at h⊢
  cases ht:(ops[j]?).bind (·.dst) with
  |none=>simp only[ht]at h⊢;exact hk _ _ _ h
  | some t=>
   simp only[ht]at h⊢;generalize env t=x at h⊢
   match x,h with
   |.bool c,h=>exact⟨fun e=>jT.imp (h.1 e) (hk _),fun e=>hk _ _ _ (h.2 e)⟩
   |.tup [],h=>exact hk _ _ _ h
def qkx{lw:Bool}{Q:Env->St->Prop}{mu:Bool}:∀(l:List Oper) (k:Nat) (listed:Array Bool) (env:Env) (U:St),(∀j:Nat,l[j]?=ops[k+j]?)->k+l.length=ops.size->qvl ops mu (if lw then [ops.size-1] else []) l.length k listed=true ->
 vcR P G mu ops true lw l env U Q->YF P G ops mu (if lw then [ops.size-1] else []) Q l.length listed env U
 |[],k,listed,env,U,_,_,hB,h=>⟨by simpa[qvl] using hB,h⟩
 | o::l,k,listed,env,U,hl,hlen,hB,h=>by
  have h0:ops[k]?=some o:=by simpa using(hl 0).symm
  simp only[qBr,qvl,qBf]at hB;obtain⟨hst,hB'⟩:=hB;simp only[vcR,qCs]at h;have ih:=fun env U h=>qkx (lw:=lw) (Q:=Q) (mu:=mu) l (k+1) (listed.setIfInBounds k true) env U (fun j=>by have:=hl (j+1);simpa[qDb,qDi 1 j] using this) (by simp only[qBr]at hlen;omega) hB' h
  have hst0:=hst;simp only[qcb,h0,qBf]at hst;obtain⟨⟨hr,hd⟩,hall⟩:=hst;have hr':k∈Region.ready .any ops listed:=by simpa using hr
  have rest:∀(j:Nat) (oj:Oper),ops[j]?=some oj->j≠k->listed.getD j true=false->j∉qzY ops k->zc mu (if lw then [ops.size-1] else []) k o.op≠9/\qdc ops o oj (zc mu (if lw then [ops.size-1] else []) k o.op) (zc mu (if lw then [ops.size-1] else []) j oj.op)=true/\(zc mu (if lw then [ops.size-1] else []) j oj.op≠9\/zc mu (if lw then [ops.size-1] else []) k o.op=0):=by
   intro j oj hoj hji hun hnd;have:=qBk.1 hall j (qB5.2 (qB3.1 hoj).1);simp only[hoj,qDa,beq_iff_eq,qBf,bne_iff_ne,ne_eq]at this;rcases this with((h1|h1)|h1)|h1
   . exact absurd h1 hji
   . rw[hun]at h1;cases h1
   . exact absurd (by simpa using h1) hnd
   exact⟨h1.1,h1.2.1,h1.2.2⟩
  have stp:∀v U',wR P G ops o env U v U'->YF P G ops mu (if lw then [ops.size-1] else []) Q l.length (listed.setIfInBounds k true) (upd env o.dst v) U'->YF P G ops mu (if lw then [ops.size-1] else []) Q (l.length+1) listed env U:=by
   intro v U' h1 h2;by_cases h9:zc mu (if lw then [ops.size-1] else []) k o.op=9
   . refine YF.solo h0 hd (fun j oj hoj hji hun=>?_) hr' (.inl ⟨v,U',h1,h2⟩);apply Classical.byContradiction;intro hnd;exact(rest j oj hoj hji hun hnd).1 h9
   exact YF.first h0 l.length listed env U U' hd (fun j oj a b c e=>(rest j oj a b c e).2) hr' h1 h2
  cases hdd:!(lw&&qsy l&&qeI o.op) with
  | true=>
   rw[hdd]at h;rcases wB h with⟨hwant,h⟩|⟨hwant,h⟩
   . exact stp _ _ (.inl ⟨hwant,rfl,rfl⟩) (ih _ _ h)
   obtain⟨v,U',h1,h2⟩:=Ke h;exact stp _ _ (.inr ⟨hwant,h1⟩) (ih _ _ h2)
  | false=>
   rw[hdd]at h;simp only[Bool.not_eq_false',qBf]at hdd;obtain⟨⟨hlw,hnil⟩,hcall⟩:=hdd;have hnil:l=[]:=(by cases l with|nil=>rfl|cons _ _=>simp[qsy]at hnil);rcases wB h with⟨hwant,h⟩|⟨hwant,h⟩
   . exact stp _ _ (.inl ⟨hwant,rfl,rfl⟩) (ih _ _ h)
   -- the last operation
   have h9:zc mu (if lw then [ops.size-1] else []) k o.op=9:=by
    subst hnil;simp only[qBr,qB0]at hlen;have hk1:k=ops.size-1:=(by omega);unfold qeI at hcall;split at hcall
    . rename_i f args ts e;rw[e];simp[zc,hlw,hk1]
    cases hcall
   refine YF.solo h0 hd (fun j oj hoj hji hun=>?_) hr' (.inr ⟨h9,hwant,jT.imp h fun v U' hv=>ih _ _ hv⟩);apply Classical.byContradiction;intro hnd;exact(rest j oj hoj hji hun hnd).1 h9
mutual
def qdY{Q}:∀(s) (fuel) (listed) (env) (U),qej ops mu ac s listed=true->Vv s<=fuel->vcS P G mu ac ops s env U Q->YF P G ops mu ac Q fuel listed env U
 | .done,fuel,listed,env,U,hk,_,h=>by
  simp only[qej]at hk;have hr:Region.ready .any ops listed=[]:=by simpa using hk
  cases fuel with
  |zero=>exact⟨hr,h⟩
  |succ fuel=>exact⟨fun _=>h,fun i hi=>by rw[hr]at hi;cases hi⟩
 | .step k dp s,fuel,listed,env,U,hk,hf,h=>by
  simp only[Vv]at hf;obtain⟨f,rfl⟩:∃f,fuel=f+1:=⟨fuel-1,by omega⟩;simp only[qej,qBf]at hk;simp only[vcS]at h;split at h
  . rename_i o ho;exact qj4 ho hk.1 (vcG.imp h fun env v U' hv=>qdY s f _ _ _ hk.2 (by omega) hv)
  exact h.elim
 | .fork al,fuel,listed,env,U,hk,hf,h=>by
  simp only[Vv]at hf;obtain⟨f,rfl⟩:∃f,fuel=f+1:=⟨fuel-1,by omega⟩;simp only[qej,qBf,qCA]at hk;simp only[vcS]at h;refine⟨fun h0=>by rw[h0]at hk;simp at hk,fun i hi=>?_⟩;exact Vj al f listed env U _ hk.2 (by omega) h i hi
def Vj{Q}:∀(al) (fuel) (listed) (env) (U) (need),qdH ops mu ac al listed need=true->qby al<=fuel->vX P G mu ac ops al env U Q->∀i∈need,∃o,ops[i]?=some o /\
 ((∃v U',wR P G ops o env U v U'/\YF P G ops mu ac Q fuel (listed.setIfInBounds i true) (upd env o.dst v) U') \/
  (zc mu ac i o.op=9/\jy ops env o=some true/\jT P G mu false o.op env U (fun v U'=>YF P G ops mu ac Q fuel (listed.setIfInBounds i true) (upd env o.dst v) U')))
 | .nil,fuel,listed,env,U,need,hk,_,_,i,hi=>by
  simp only[qdH]at hk;have:need=[]:=by simpa using hk
  rw[this]at hi;cases hi
 | .cons k s r,fuel,listed,env,U,need,hk,hf,h,i,hi=>by
  simp only[qby]at hf;simp only[qdH,qBf]at hk;simp only[vX]at h;by_cases hik:i=k
  . subst hik;obtain⟨h,_⟩:=h;split at h
    . rename_i o ho;refine⟨o,ho,?_⟩;have h':=vcG.imp h fun env v U' hv=>qdY s fuel _ _ _ hk.1.2 (by omega) hv
      by_cases h9:zc mu ac i o.op=9
      . rw[h9]at h';rcases wB h' with⟨hwant,h'⟩|⟨hwant,h'⟩
        . exact .inl ⟨_,U,.inl ⟨hwant,rfl,rfl⟩,h'⟩
        exact .inr ⟨h9,hwant,h'⟩
      have hd1:(zc mu ac i o.op != 9)=true:=(by simpa using h9);rw[hd1]at h';rcases wB h' with⟨hwant,h'⟩|⟨hwant,h'⟩
      . exact .inl ⟨_,U,.inl ⟨hwant,rfl,rfl⟩,h'⟩
      obtain⟨v,U',h1,h2⟩:=Ke h';exact .inl ⟨v,U',.inr ⟨hwant,h1⟩,h2⟩
    exact h.elim
  exact Vj r fuel listed env U _ hk.2 (by omega) h.2 i (qCm.2 ⟨hi,by simpa using hik⟩)
end
end
def qz6(P:Program)(G:Glo)(gb:FuncId)(k:Nat):Prop :=
 bodied P gb=true/\∀(w0) (ro0) (b L B) (K) (U) (w) (sz) (rows:List (List AV)) (tok) (S:Nat->St->Prop),
  WRel G w0 ro0 K U w->K.m b=some B->U.H[b]?=some (.cells [.sl sz rows tok])->rows.length<2^62->S rows.length U ->
  (∀ i U' K' w',S (i+1) U'->K.le K'->WRel G w0 ro0 K' U' w'->∃rows tok r,U'.H[b]?=some (.cells [.sl k rows tok])/\rows[i]?=some r/\∀v,qf K' (.agg r) v ->
    ∃ f tmps asn body,(Instr.yield L #[.int .i64 i,v]).run P w'=.ok (.round L f tmps asn body) w' /\
     RoundIn Fence.wide 0 P L f tmps asn body w' (fun e w''=>e=.returned (.bool true)/\∃K'' U'',K'.le K''/\WRel G w0 ro0 K'' U'' w''/\S i U'')) ->
  CallsIn Fence.wide 0 P gb #[.func (.yield L) #[] #[],.pointer (some ⟨B,0,none⟩)] w (fun e w'=>(∃v,e=.returned v)/\∃K' U',K.le K'/\WRel G w0 ro0 K' U' w'/\S 0 U')
def qxQ(P:Program)(G:Glo)(gb:FuncId)(cap:List AV)(pre:St->Prop)(vals:List AV):Prop :=
 bodied P gb=true/\∀(w0) (ro0) (L) (K) (U) (w) (vcap) (S:Nat->St->Prop),
  WRel G w0 ro0 K U w->qi K cap vcap.toList->(∀i U,S i U->pre U)->S 0 U ->
  (∀ i x U' K' w',vals[i]?=some x->S i U'->K.le K'->WRel G w0 ro0 K' U' w'->∀v,qf K' x v ->
    ∃ f tmps asn body,(Instr.yield L #[v]).run P w'=.ok (.round L f tmps asn body) w' /\
     RoundIn Fence.wide 0 P L f tmps asn body w' (fun e w''=>e=.returned (.bool true)/\∃K'' U'',K'.le K''/\WRel G w0 ro0 K'' U'' w''/\S (i+1) U'')) ->
  CallsIn Fence.wide 0 P gb (#[.func (.yield L) #[] #[]]++vcap) w (fun e w'=>(∃v,e=.returned v)/\∃K' U',K.le K'/\WRel G w0 ro0 K' U' w'/\S vals.length U')
def qqI(Q:Exit->Env->St->Prop):Exit->Env->St->Prop
 |.goto _,_,_=>False
 |e,env,U=>Q e env U
def J9(A B:Env->St->(Exit->Env->St->Prop)->Prop)(k b pi pe:Nat)(env:Env):Nat->St->(St->Prop)->Prop
 |0,U,Q=>Q U
 | i+1,U,Q=>match U.H[b]? with
  | some (.cells [.sl sz rows _])=>sz=k/\match rows[i]? with
   |some r=>A (upd (upd env (some pi) (.int .i64 i)) (some pe) (.agg r)) U (fun e env' U'=>e=.normal/\B env' U' (fun e _ U''=>e=.normal/\J9 A B k b pi pe env i U'' Q))
   |none=>False
  |_=>False
def vcC(P:Program)(G:Glo)(o:Opts):Code->Env->St->(Exit->Env->St->Prop)->Prop
 |.skip,env,U,Q=>Q .normal env U
 |.ret,env,U,Q=>Q .ret env U
 |.exit id,env,U,Q=>Q (.exit id) env U
 |.seq x y,env,U,Q=>vcC P G o x env U (vl (fun env U=>vcC P G o y env U Q) Q)
 | .cond c x y,env,U,Q=>match ev G env c with
  |.bool b=>qho b (vcC P G o x env U Q) (vcC P G o y env U Q)
  |_=>False
 |.block id c,env,U,Q=>vcC P G o c env U (vm id Q)
 | .region id ops d,env,U,Q=>match d,o.fk.lookup id with
  |true,some (s,ac)=>vcS P G o.mu ac ops s env U (fun env U=>Q .normal env U)
  |d,_=>vcR P G o.mu ops d (o.lw.contains id) ops.toList env U (fun env U=>Q .normal env U)
 |.loop c,env,U,Q=>∃(I:Nat->Env->St->Prop) (n:Nat),I n env U/\∀n env U,I n env U->vcC P G o c env U (vl (fun env' U'=>∃n',n'<n/\I n' env' U') Q)
 | .rangeFunc g ps x y,env,U,Q=>match ps.toList,ev G env g with
  | [pi,pe],.fn gb [] [.ptr b 0]=>∃k,G.NoX/\qz6 P G gb k/\(match U.H[b]? with
   |some (.cells [.sl _ rows _])=>rows.length<2^62/\J9 (fun env U Q=>vcC P G o x env U Q) (fun env U Q=>vcC P G o y env U Q) k b pi pe env rows.length U (fun U=>Q .normal env U)
   |_=>False)
  | [pe],.fn gb [] cap=>∃(pre:St->Prop) (vals:List AV) (J:Nat->St->Prop),G.NoX/\qxQ P G gb cap pre vals/\(∀i U,J i U->pre U)/\J 0 U /\
   (∀i v U,vals[i]?=some v->J i U->vcC P G o x (upd env (some pe) v) U (fun e env' U'=>e=.normal/\vcC P G o y env' U' (fun e _ U''=>e=.normal/\J (i+1) U''))) /\
   ∀U,J vals.length U->Q .normal env U
  |_,_=>False
 |.scope c,env,U,Q=>vcC P G o c env U (qqI Q)
 |.label _,env,U,Q=>Q .normal env U
 |_,_,_,_=>False
section
variable {P:Program}{G:Glo}{N:Nat}{env:Env}{U:St}{ops:Array Oper}{mu:Bool}{ac:List Nat}
def AWp.any{id Q}(hm:P.follows .mixedOrders=true)(hs:Qc N ops=true)(h:YF P G ops mu ac (fun env U=>Q .normal env U) ops.size (Array.replicate ops.size false) env U):
 AWp P G N (.region id ops true) env U Q:=by
 intro w0 ro0 K a w hw he;refine wp_region_any hm ?_;exact Q4 hs (Q:=J4 G w0 ro0 K N a.defers Q) ops.size (Array.replicate ops.size false) env U K a {w with drawn:=w.drawn+1}
  (fun K' env' U' a' w' h1 h2 h3 hd h4=>.inl ⟨K',env',U',h1,h2,h3,.same hd,h4⟩) (fun c K' U' a' w' h1 h2 hd hx=>.inr ⟨c,K',U',rfl,h1,h2,.same hd,hx⟩) hw.drew he h
end
def qhb(ro:Option Nat)(P:Program)(G:Glo)(N:Nat)(c:Code)(env:Env)(U:St)(Q:Exit->Env->St->Prop):Prop :=
 ∀(w0) (ro0) (K) (a) (w),WRel G w0 ro0 K U w->ERel K N env a->c.wpIn (FR ro) 0 P (J4 G w0 ro0 K N a.defers Q) a w
section
variable {P:Program}{G:Glo}{N:Nat}{ro:Option Nat}{env:Env}{U:St}{Q:Exit->Env->St->Prop}
def qhb.seq{x y}(h:qhb ro P G N x env U (vl (fun env U=>qhb ro P G N y env U Q) Q)):qhb ro P G N (.seq x y) env U Q:=by
 intro w0 ro0 K a w hw he;refine wpIn_seq (wpIn_mono (h w0 ro0 K a w hw he) ?_);intro e a' w' hp;rcases hp with⟨K',env',U',h1,h2,h3,hd,h4⟩|⟨c,K',U',rfl,hp⟩
 case inr=>exact .inr ⟨c,K',U',rfl,hp⟩
 cases e with
 |normal=>exact wpIn_mono (h4 w0 ro0 K' a' w' h2 h3) fun e a w x=>x.after h1 hd
 |_=>exact .inl ⟨K',env',U',h1,h2,h3,hd,h4⟩
def qhb.block{id c}(h:qhb ro P G N c env U (vm id Q)):qhb ro P G N (.block id c) env U Q:=by
 intro w0 ro0 K a w hw he;refine wpIn_block (wpIn_mono (h w0 ro0 K a w hw he) ?_);intro e a' w' hp;rcases hp with⟨K',env',U',h1,h2,h3,hd,h4⟩|⟨c,K',U',rfl,hp⟩
 case inr=>exact .inr ⟨c,K',U',rfl,hp⟩
 cases e with
 | exit id'=>
  simp only[vm]at h4;simp only[Exit.inBlock];split
  . rename_i e;rw[if_pos e]at h4;exact .inl ⟨K',env',U',h1,h2,h3,hd,h4⟩
  rename_i e;rw[if_neg e]at h4;exact .inl ⟨K',env',U',h1,h2,h3,hd,h4⟩
 |_=>exact .inl ⟨K',env',U',h1,h2,h3,hd,h4⟩
def qhb.mono{c Q'}(h:qhb ro P G N c env U Q)(hq:∀e env U,Q e env U->Q' e env U):qhb ro P G N c env U Q' :=
 fun w0 ro0 K a w hw he=>wpIn_mono (h w0 ro0 K a w hw he) fun e a w x=>x.mono hq
end
def yb{P G N ro o}(hX:G.NoX):∀(c){env:Env}{U:St}{Q:Exit->Env->St->Prop},jd N c=true->vcC P G o c env U Q->qhb ro P G N c env U Q
 |.skip,env,U,_,_,h=>fun w0 ro0 K a w hw he=>wpIn_skip (.inl ⟨K,env,U,qFQ K,hw,he,.same rfl,h⟩)
 |.exit id,env,U,_,_,h=>fun w0 ro0 K a w hw he=>wpIn_exit (.inl ⟨K,env,U,qFQ K,hw,he,.same rfl,h⟩)
 | .seq x y,env,U,Q,hk,h=>by
  simp only[jd,qBf]at hk;exact qhb.seq (qhb.mono (yb hX x hk.1 (by simpa only[vcC] using h)) fun e env U hq=>by
   cases e<;>first|exact yb hX y hk.2 hq|exact hq)
 | .cond c x y,env,U,Q,hk,h=>by
  simp only[jd,qBf]at hk;simp only[vcC]at h;split at h
  . rename_i b hb;intro w0 ro0 K a w hw he;have:=Jh hw he c;rw[hb]at this;simp only[qf]at this;exact wpIn_cond_split this (fun e=>yb hX x hk.1 (h.1 e) w0 ro0 K a w hw he) (fun e=>yb hX y hk.2 (h.2 e) w0 ro0 K a w hw he)
  exact h.elim
 |.block id c,_,_,_,hk,h=>qhb.block (yb hX c hk (by simpa only[vcC] using h))
 | .region id ops false,env,U,Q,hk,h=>by
  have h':vcR P G o.mu ops false (o.lw.contains id) ops.toList env U (fun env U=>Q .normal env U):=by
   simp only[vcC]at h;exact h
  intro w0 ro0 K a w hw he;have:=wpIn_region_list (F:=FR ro) (n:=0) (P:=P) (id:=id) (ops:=ops) (a:=a) (w:=w) (Q:=J4 G w0 ro0 K N a.defers Q) (by
   have:=Kd hX (w0:=w0) (ro0:=ro0) (by simpa only[jd] using hk) (ro:=ro) (n:=0) (more:=[]) ops.toList env U K a w (by simp) h' hw he (Q':=J4 G w0 ro0 K N a.defers Q) fun K' env' U' a' w' h1 h2 h3 hd _ h4=>.inl ⟨K',env',U',h1,h2,h3,.same hd,h4⟩
   simpa using this)
  exact this
 |.region id ops true,_,_,_,hk,_=>by simp[jd]at hk
 |.ret,_,_,_,hk,_=>by simp[jd]at hk
 |.loop c,_,_,_,hk,_=>by simp[jd]at hk
 |.rangeFunc ..,_,_,_,hk,h=>by simp[jd]at hk
 |.scope c,_,_,_,hk,h=>by simp[jd]at hk
 |.label l,_,_,_,hk,h=>by simp[jd]at hk
 |.goto l,_,_,_,hk,h=>by simp[jd]at hk
 |.refuse w,_,_,_,hk,h=>by simp[jd]at hk
def J0{P g}(hb:bodied P g=true)(args w):(callFunc g args).run P w=.ok (.enter g args) w:=by
 cases hg:P.funcs[g]? with
 |none=>simp[bodied,hg]at hb
 | some fn=>
  simp[bodied,hg]at hb;obtain⟨b1,b2⟩:=hb;simp[callFunc,hg,b2,show ¬fn.body=none by intro e;simp[e]at b1]
def AWp.range{P:Program}{G:Glo}(hX:G.NoX){N:Nat}{env:Env}{U:St}{Q:Exit->Env->St->Prop}{o:Opts}{g:Operand}{pi pe:Nat}{x y:Code}{gb b k:Nat}{sz:Nat}{rows:List (List AV)}{tok:Tok}
 (hpi:pi<N) (hpe:pe<N) (hx:jd N x=true) (hy:jd N y=true) (hg:ev G env g=.fn gb [] [.ptr b 0]) (hbw:qz6 P G gb k) (hlen:rows.length<2^62) (hb:U.H[b]?=some (.cells [.sl sz rows tok]))
 (h:J9 (fun env U Q=>vcC P G o x env U Q) (fun env U Q=>vcC P G o y env U Q) k b pi pe env rows.length U (fun U=>Q .normal env U)):AWp P G N (.rangeFunc g #[pi,pe] x y) env U Q:=by
 intro w0 ro0 K a w hw he;refine(wpIn_wide (n:=0)).1 (wpIn_rangeFunc fun fn hfn=>?_);have hv:=Jh hw he g;rw[hg]at hv;simp only[qf,qi]at hv;obtain⟨va,vb,e1,e2,v1,vr,e3,⟨B,hB,e4⟩,e5⟩:=hv;have ea:=qC2 (by rw[<- qCv,e2];rfl);have eb:vb = #[.pointer (some ⟨B,0,none⟩)]:=by rw[<- qDj (xs:=vb),e3,e4,e5]
 subst ea eb;obtain⟨rec,hrec⟩:∃rec:LoopState->Option Code->Loop,rec=fun st pe'=>{state:=st,pending:=pe',fn,tmps:=a.tmps,params:=#[pi,pe],assign:=x,body:=y,defers:=w.heap.size}:=⟨_,rfl⟩
 obtain⟨W1,hW1⟩:∃W1,(w.alloc (.deferred (some []))).alloc (.loop (rec .ready none))=W1:=⟨_,rfl⟩;have hw1:=hw.allocFix (.deferred (some []));have hw2:=hw1.allocFix (.loop (rec .ready none));rw[hW1,World.size_alloc]at hw2;obtain⟨K2,hK2⟩:∃K2,((K.withFx fun b=>if b=w.heap.size then some (.deferred (some [])) else K.fx b).withFx fun b=>if b=w.heap.size+1 then some (.loop (rec .ready none)) else(K.withFx fun b=>if b=w.heap.size then some (.deferred (some [])) else K.fx b).fx b)=K2:=⟨_,rfl⟩;rw[hK2]at hw2;have hleK:K.le K2:=by
  rw[<- hK2];refine qFR (Kn.le_fx fun B o e=>?_) (Kn.le_fx fun B o e=>?_)
  . have:=hw.fx_lt e;rw[if_neg (by omega)];exact e
  have:=hw1.fx_lt e;rw[World.size_alloc]at this;rw[if_neg (by omega)];exact e
 have hL2:K2.fx (w.heap.size+1)=some (.loop (rec .ready none)):=by rw[<- hK2];simp[Kn.withFx]
 refine⟨w.heap.size+1,[qw2 w.heap.size],W1,{target:=.fn (.func gb) #[.pointer (some ⟨B,0,none⟩)],args:=#[.func (.yield (w.heap.size+1)) #[] #[]]},W1,gb,
  #[.func (.yield (w.heap.size+1)) #[] #[]]++#[.pointer (some ⟨B,0,none⟩)],W1,?_,?_,fun _ _=>trivial,?_,fun e=>by simp[Fence.wide]at e,?_⟩
 . rw[<- hW1,hrec];exact run_enterLoop_outer _ _ _ _ _
 . simp only[resolve,e1];simp[go_sem]
 . simp[invoke,go_sem,J0 hbw.1]
 refine CallsIn.mono (hbw.2 w0 ro0 b (w.heap.size+1) B K2 U W1 sz rows tok (fun i U=>J9 (fun env U Q=>vcC P G o x env U Q) (fun env U Q=>vcC P G o y env U Q) k b pi pe env i U (fun U=>Q .normal env U)) hw2 (hleK.m _ _ hB) hb hlen h ?_) ?_
 . -- one round
   intro i U' K' w' hr hle' hw';simp only[J9]at hr;split at hr
   . rename_i sz' rows' tok' hb';obtain⟨hszk,hr⟩:=hr;subst hszk;split at hr
     . rename_i r hri;refine⟨rows',tok',r,hb',hri,fun v hv=>?_⟩;have hLf:=hle'.fx _ _ hL2;have hl:=(hw'.fx _ _ hLf).1;refine⟨fn,_,x,y,by have:=run_yield (P:=P) (args:=#[.int .i64 i,v]) hl (by rw[hrec];rfl);rw[hrec]at this;exact this,roundIn_of_wpIn hfn ?_⟩;have he':ERel K' N (upd (upd env (some pi) (.int .i64 i)) (some pe) (.agg r)) {tmps:=(a.tmps.setIfInBounds pi (.int .i64 i)).setIfInBounds pe v,defers:=[]}:=by
        have h0:=he.mono (qFR hleK hle');have h1:=(h0.put (dst:=some pi) (fun d hd=>by cases hd;exact hpi) (v:=.int .i64 i) (v':=.int .i64 i) (by simp[qf])).put (dst:=some pe) (fun d hd=>by cases hd;exact hpe) hv;exact⟨h1.size,h1.val⟩
       have hasn:=yb hX (ro:=some (w.heap.size+1)) x hx hr w0 ro0 K' _ w' hw' he';refine wpIn_mono (F:=FR (some (w.heap.size+1))) (show Code.wpIn (FR (some (w.heap.size+1))) 0 P x _ _ w' from by simpa using hasn) ?_;rintro e a1 w1 (⟨K3,env3,U3,g1,g2,g3,_,rfl,g4⟩|⟨_,_,U3,_,_,_,_,g⟩)
       case inr=>exact(hX _ U3 g).elim
       have hL3:=g1.fx _ _ hLf;have hl3:=(g2.fx _ _ hL3).1;refine⟨_,run_beginRound hl3 (by rw[hrec]),?_⟩;have hw4:=g2.refix hL3 (by intros;intro e;cases e) (.loop {rec .ready none with state:=.busy});have hbody:=yb hX (ro:=some (w.heap.size+1)) y hy g4 w0 ro0 _ a1 _ hw4 (g3.refx _);refine wpIn_mono (F:=FR (some (w.heap.size+1))) hbody ?_;rintro e a5 w5 (⟨K5,env5,U5,k1,k2,k3,_,rfl,k4⟩|⟨_,_,U5,_,_,_,_,g⟩)
       case inr=>exact(hX _ U5 g).elim
       have hL5:K5.fx (w.heap.size+1)=some (.loop {rec .ready none with state:=.busy}):=k1.fx _ _ (by simp[Kn.withFx]);have hl5:=(k2.fx _ _ hL5).1;have hw6:=k2.refix hL5 (by intros;intro e;cases e) (.loop (rec .ready none));refine⟨.bool true,w5.putObj (w.heap.size+1) (.loop (rec .ready none)),?_,rfl,_,U5,?_,hw6,k4⟩
       . have:=run_endRound (P:=P) none hl5;rw[hrec]at this⊢;exact this
       refine qFR g1 (qFL k1 fun B o e=>?_);by_cases hBL:B=w.heap.size+1
       . subst hBL;rw[hL3]at e;simp[e]
       rw[if_neg hBL];refine k1.fx B o ?_;simp only[Kn.withFx,if_neg hBL];exact e
     exact hr.elim
   exact hr.elim
 -- behind the J9
 rintro e w' ⟨⟨v,rfl⟩,K',U',hle',hw',hS⟩;have hLf:=hle'.fx _ _ hL2;have hl:=(hw'.fx _ _ hLf).1;have hw3:=(hw'.refix hLf (by intros;intro e;cases e) (.loop {rec .ready none with state:=.exhausted})).unfix (f:=fun B=>if B=w.heap.size+1 then none else K'.fx B) (by
  intro B o e;by_cases hBL:B=w.heap.size+1
  . rw[if_pos hBL]at e;cases e
  rw[if_neg hBL]at e;simp only[Kn.withFx,if_neg hBL];exact e)
 refine⟨none,w'.putObj (w.heap.size+1) (.loop {rec .ready none with state:=.exhausted}),?_,?_⟩
 . have:=run_endLoop (P:=P) hl (by rw[hrec];simp);rw[hrec]at this⊢;exact this
 have hle3:K.le (K'.withFx fun B=>if B=w.heap.size+1 then none else K'.fx B):=by
  have:=qFR hleK hle';refine qFL this fun B o e=>?_
  have:=hw.fx_lt e;rw[if_neg (by omega)];exact hle'.fx _ _ (hleK.fx _ _ e)
 have hfin:=hS;simp only[J9]at hfin;refine .inl ⟨_,env,U',hle3,hw3,⟨he.size,(he.mono hle3).val⟩,⟨[w.heap.size],by simp,rfl,fun D hD=>?_⟩,hfin⟩;simp only[qBR]at hD;subst hD;refine⟨?_,?_⟩
 . cases e:K.fx w.heap.size with
   |none=>rfl
   |some o=>have:=hw.fx_lt e;omega
 simp only[Kn.withFx];rw[if_neg (by omega)];exact hle'.fx _ _ (by rw[<- hK2];simp[Kn.withFx])
def AWp.rangeF{P:Program}{G:Glo}(hX:G.NoX){N:Nat}{env:Env}{U:St}{Q:Exit->Env->St->Prop}{o:Opts}{g:Operand}{pe:Nat}{x y:Code}{gb:Nat}{cap vals:List AV}{pre:St->Prop}{J:Nat->St->Prop}
 (hpe:pe<N) (hx:jd N x=true) (hy:jd N y=true) (hg:ev G env g=.fn gb [] cap) (hfw:qxQ P G gb cap pre vals) (hpre:∀i U,J i U->pre U) (hJ:J 0 U)
 (hs:∀i v U,vals[i]?=some v->J i U->vcC P G o x (upd env (some pe) v) U (fun e env' U'=>e=.normal/\vcC P G o y env' U' (fun e _ U''=>e=.normal/\J (i+1) U'')))
 (hq:∀U,J vals.length U->Q .normal env U):AWp P G N (.rangeFunc g #[pe] x y) env U Q:=by
 intro w0 ro0 K a w hw he;refine(wpIn_wide (n:=0)).1 (wpIn_rangeFunc fun fn hfn=>?_);have hv:=Jh hw he g;rw[hg]at hv;simp only[qf,qi]at hv;obtain⟨va,vb,e1,e2,e3⟩:=hv;have ea:=qC2 (by rw[<- qCv,e2];rfl);subst ea;obtain⟨rec,hrec⟩:∃rec:LoopState->Option Code->Loop,rec=fun st pe'=>{state:=st,pending:=pe',fn,tmps:=a.tmps,params:=#[pe],assign:=x,body:=y,defers:=w.heap.size}:=⟨_,rfl⟩
 obtain⟨W1,hW1⟩:∃W1,(w.alloc (.deferred (some []))).alloc (.loop (rec .ready none))=W1:=⟨_,rfl⟩;have hw1:=hw.allocFix (.deferred (some []));have hw2:=hw1.allocFix (.loop (rec .ready none));rw[hW1,World.size_alloc]at hw2;obtain⟨K2,hK2⟩:∃K2,((K.withFx fun b=>if b=w.heap.size then some (.deferred (some [])) else K.fx b).withFx fun b=>if b=w.heap.size+1 then some (.loop (rec .ready none)) else(K.withFx fun b=>if b=w.heap.size then some (.deferred (some [])) else K.fx b).fx b)=K2:=⟨_,rfl⟩;rw[hK2]at hw2;have hleK:K.le K2:=by
  rw[<- hK2];refine qFR (Kn.le_fx fun B o e=>?_) (Kn.le_fx fun B o e=>?_)
  . have:=hw.fx_lt e;rw[if_neg (by omega)];exact e
  have:=hw1.fx_lt e;rw[World.size_alloc]at this;rw[if_neg (by omega)];exact e
 have hL2:K2.fx (w.heap.size+1)=some (.loop (rec .ready none)):=by rw[<- hK2];simp[Kn.withFx]
 refine⟨w.heap.size+1,[qw2 w.heap.size],W1,{target:=.fn (.func gb) vb,args:=#[.func (.yield (w.heap.size+1)) #[] #[]]},W1,gb,
  #[.func (.yield (w.heap.size+1)) #[] #[]]++vb,W1,?_,?_,fun _ _=>trivial,?_,fun e=>by simp[Fence.wide]at e,?_⟩
 . rw[<- hW1,hrec];exact run_enterLoop_outer _ _ _ _ _
 . simp only[resolve,e1];simp[go_sem]
 . simp[invoke,go_sem,J0 hfw.1]
 refine CallsIn.mono (hfw.2 w0 ro0 (w.heap.size+1) K2 U W1 vb J hw2 (qi.mono hleK _ e3) hpre hJ ?_) ?_
 . -- one round
   intro i xv U' K' w' hxv hr0 hle' hw' v hv;have hr:=hs i xv U' hxv hr0;have hLf:=hle'.fx _ _ hL2;have hl:=(hw'.fx _ _ hLf).1;refine⟨fn,_,x,y,by have:=run_yield (P:=P) (args:=#[v]) hl (by rw[hrec];rfl);rw[hrec]at this;exact this,roundIn_of_wpIn hfn ?_⟩
   . have he':ERel K' N (upd env (some pe) xv) {tmps:=a.tmps.setIfInBounds pe v,defers:=[]}:=by
      have h0:=he.mono (qFR hleK hle');have h1:=h0.put (dst:=some pe) (fun d hd=>by cases hd;exact hpe) hv;exact⟨h1.size,h1.val⟩
     have hasn:=yb hX (ro:=some (w.heap.size+1)) x hx hr w0 ro0 K' _ w' hw' he';refine wpIn_mono (F:=FR (some (w.heap.size+1))) (show Code.wpIn (FR (some (w.heap.size+1))) 0 P x _ _ w' from by simpa using hasn) ?_;rintro e a1 w1 (⟨K3,env3,U3,g1,g2,g3,_,rfl,g4⟩|⟨_,_,U3,_,_,_,_,g⟩)
     case inr=>exact(hX _ U3 g).elim
     have hL3:=g1.fx _ _ hLf;have hl3:=(g2.fx _ _ hL3).1;refine⟨_,run_beginRound hl3 (by rw[hrec]),?_⟩;have hw4:=g2.refix hL3 (by intros;intro e;cases e) (.loop {rec .ready none with state:=.busy});have hbody:=yb hX (ro:=some (w.heap.size+1)) y hy g4 w0 ro0 _ a1 _ hw4 (g3.refx _);refine wpIn_mono (F:=FR (some (w.heap.size+1))) hbody ?_;rintro e a5 w5 (⟨K5,env5,U5,k1,k2,k3,_,rfl,k4⟩|⟨_,_,U5,_,_,_,_,g⟩)
     case inr=>exact(hX _ U5 g).elim
     have hL5:K5.fx (w.heap.size+1)=some (.loop {rec .ready none with state:=.busy}):=k1.fx _ _ (by simp[Kn.withFx]);have hl5:=(k2.fx _ _ hL5).1;have hw6:=k2.refix hL5 (by intros;intro e;cases e) (.loop (rec .ready none));refine⟨.bool true,w5.putObj (w.heap.size+1) (.loop (rec .ready none)),?_,rfl,_,U5,?_,hw6,k4⟩
     . have:=run_endRound (P:=P) none hl5;rw[hrec]at this⊢;exact this
     refine qFR g1 (qFL k1 fun B o e=>?_);by_cases hBL:B=w.heap.size+1
     . subst hBL;rw[hL3]at e;simp[e]
     rw[if_neg hBL];refine k1.fx B o ?_;simp only[Kn.withFx,if_neg hBL];exact e
 -- behind the J9
 rintro e w' ⟨⟨v,rfl⟩,K',U',hle',hw',hS⟩;have hLf:=hle'.fx _ _ hL2;have hl:=(hw'.fx _ _ hLf).1;have hw3:=(hw'.refix hLf (by intros;intro e;cases e) (.loop {rec .ready none with state:=.exhausted})).unfix (f:=fun B=>if B=w.heap.size+1 then none else K'.fx B) (by
  intro B o e;by_cases hBL:B=w.heap.size+1
  . rw[if_pos hBL]at e;cases e
  rw[if_neg hBL]at e;simp only[Kn.withFx,if_neg hBL];exact e)
 refine⟨none,w'.putObj (w.heap.size+1) (.loop {rec .ready none with state:=.exhausted}),?_,?_⟩
 . have:=run_endLoop (P:=P) hl (by rw[hrec];simp);rw[hrec]at this⊢;exact this
 have hle3:K.le (K'.withFx fun B=>if B=w.heap.size+1 then none else K'.fx B):=by
  have:=qFR hleK hle';refine qFL this fun B o e=>?_
  have:=hw.fx_lt e;rw[if_neg (by omega)];exact hle'.fx _ _ (hleK.fx _ _ e)
 have hfin:=hq U' hS;refine .inl ⟨_,env,U',hle3,hw3,⟨he.size,(he.mono hle3).val⟩,⟨[w.heap.size],by simp,rfl,fun D hD=>?_⟩,hfin⟩;simp only[qBR]at hD;subst hD;refine⟨?_,?_⟩
 . cases e:K.fx w.heap.size with
   |none=>rfl
   |some o=>have:=hw.fx_lt e;omega
 simp only[Kn.withFx];rw[if_neg (by omega)];exact hle'.fx _ _ (by rw[<- hK2];simp[Kn.withFx])
def yH{P:Program}{G:Glo}{N:Nat}{o:Opts}(hm:P.follows .mixedOrders=true):∀(c:Code){env:Env}{U:St}{Q:Exit->Env->St->Prop},jI N o c=true->vcC P G o c env U Q->AWp P G N c env U Q
 |.skip,_,_,_,_,h=>AWp.skip h
 |.ret,_,_,_,_,h=>AWp.ret h
 |.exit id,_,_,_,_,h=>AWp.exit h
 | .seq x y,env,U,Q,hk,h=>by
  simp only[jI,qBf]at hk;exact AWp.seq (AWp.mono (yH hm x hk.1 (by simpa only[vcC] using h)) fun e env U hq=>by
   cases e<;>first|exact yH hm y hk.2 hq|exact hq)
 | .cond c x y,env,U,Q,hk,h=>by
  simp only[jI,qBf]at hk;simp only[vcC]at h;split at h
  . rename_i b hb;exact AWp.cond hb (fun e=>yH hm x hk.1 (h.1 e)) (fun e=>yH hm y hk.2 (h.2 e))
  exact h.elim
 |.block id c,_,_,_,hk,h=>AWp.block (yH hm c hk (by simpa only[vcC] using h))
 | .region id ops false,env,U,Q,hk,h=>by
  simp only[jI,qBf]at hk;have h':vcR P G o.mu ops false (o.lw.contains id) ops.toList env U (fun env U=>Q .normal env U):=by
   simp only[vcC]at h;exact h
  intro w0 ro0 K a w hw he;have:=wp_region_lit (P:=P) (id:=id) (l:=ops.toList) (a:=a) (w:=w) (Q:=J4 G w0 ro0 K N a.defers Q) (qbR (by simpa using hk.1) ops.toList env U K a w (by simp) (by simpa using h') hw he (fun K' env' U' a' w' h1 h2 h3 hd h4=>.inl ⟨K',env',U',h1,h2,h3,.same hd,h4⟩) fun c K' U' a' w' h1 h2 hd hx=>.inr ⟨c,K',U',rfl,h1,h2,.same hd,hx⟩);simpa using this
 | .region id ops true,env,U,Q,hk,h=>by
  simp only[jI,qBf,qDa,qFm,qBE,false_or]at hk;simp only[vcC]at h
  cases hl:o.fk.lookup id with
  | none=>
   rw[hl]at hk h;simp only at hk h;refine AWp.any hm hk.1 (mu:=o.mu) (ac:=if o.lw.contains id then [ops.size-1] else []) ?_;have:=qkx (P:=P) (G:=G) (ops:=ops) (lw:=o.lw.contains id) (mu:=o.mu) ops.toList 0 (Array.replicate ops.size false) env U (by simp) (by simp) (by simpa[qqr] using hk.2) h;simpa using this
  | some p=>
   obtain⟨s,ac⟩:=p;rw[hl]at hk h;simp only[qBf,decide_eq_true_eq]at hk h;exact AWp.any hm hk.1 (mu:=o.mu) (ac:=ac) (qdY s ops.size _ env U hk.2.1 hk.2.2 h)
 | .loop c,_,_,_,hk,h=>by
  simp only[vcC]at h;obtain⟨I,n,h0,hr⟩:=h;exact AWp.loop I n h0 fun n env U hI=>yH hm c hk (hr n env U hI)
 | .rangeFunc g ps x y,env,U,Q,hk,h=>by
  simp only[jI,qBf]at hk;obtain⟨⟨hk1,hk2⟩,hk3⟩:=hk;simp only[vcC]at h;split at h
  . rename_i pi pe gb b hps hg;obtain⟨k,hX,hbw,h⟩:=h;rw[hps]at hk1;simp only[qBf,decide_eq_true_eq]at hk1;split at h
    . rename_i sz rows tok hb;have:ps = #[pi,pe]:=by rw[<- qDj (xs:=ps),hps]
      subst this;exact AWp.range hX hk1.1 hk1.2 hk2 hk3 hg hbw h.1 hb h.2
    exact h.elim
  . rename_i pe gb cap hps hg;obtain⟨pre,vals,J,hX,hfw,hpre,hJ,hs,hq⟩:=h;rw[hps]at hk1;simp only[decide_eq_true_eq]at hk1;have:ps = #[pe]:=by rw[<- qDj (xs:=ps),hps]
    subst this;exact AWp.rangeF hX hk1 hk2 hk3 hg hfw hpre hJ hs hq
  exact h.elim
 | .scope c,env,U,Q,hk,h=>by
  simp only[jI]at hk;intro w0 ro0 K a w hw he;refine wp_scope_straight (wp_mono (yH hm c hk (by simpa only[vcC] using h) w0 ro0 K a w hw he) ?_);rintro e a' w' (⟨K',env',U',h1,h2,h3,hd,h4⟩|⟨ch,K',U',rfl,hp⟩)
  . cases e with
    |goto l=>exact h4.elim
    |_=>exact .inl ⟨K',env',U',h1,h2,h3,hd,h4⟩
  exact .inr ⟨ch,K',U',rfl,hp⟩
 |.label l,env,U,Q,hk,h=>fun w0 ro0 K a w hw he=>wp_label (.inl ⟨K,env,U,qFQ K,hw,he,.same rfl,h⟩)
 |.goto l,_,_,_,hk,h=>by simp[jI]at hk
 |.refuse w,_,_,_,hk,h=>by simp[jI]at hk
section
variable {P:Program}{G:Glo}{U:St}{f:FuncId}{args args':List AV}{r r':AV}
def Pure.sub(h:Pure P G f args' r')(ha:zm args args')(hr:Leq r' r):Pure P G f args r :=
 ⟨h.1,fun w0 ro vs hg hro hvs=>(h.2 w0 ro vs hg hro (zm.rel _ _ ha hvs)).mono fun e w' ⟨v,ro',h1,h2,h3,h4,h5,h6⟩=>⟨v,ro',h1,h2,h3,h4,h5,qFF _ _ hr h6⟩⟩
def Pure.less(h:Pure P G f args' r)(ha:zm args args'):Pure P G f args r:=h.sub ha (qFG r)
def qj.pure{Q}(h:Pure P G f args' r)(hno:qx (args.map plain)=true)(ha:zm (args.map plain) args')(hq:Q r U):qj P G f args U Q :=
 Zb.acall (.inl ⟨hno,h.less ha⟩) hq
def Zb.pure(h:Pure P G f args' r)(hno:qx (args.map plain)=true)(ha:zm (args.map plain) args'):Zb P G f args U r:=.inl ⟨hno,h.less ha⟩
def Zb.lent(h:Pure P G f args' r)(hb:qt7 r=true)(ha:zm (args.map (frz U.H 8)) args'):Zb P G f args U r:=.inr ⟨hb,h.less ha⟩
def qa.of{d Q}(h:Zb P G f args U r)(hq:Q r U):qa P G d f args U Q:=by
 cases d
 . exact h.acall hq
 exact⟨r,h,hq⟩
def qa.pure{d Q}(h:Pure P G f args' r)(hno:qx (args.map plain)=true)(ha:zm (args.map plain) args')(hq:Q r U):qa P G d f args U Q:=.of (.pure h hno ha) hq
def qFY:=@qa.pure
def qa.lent{d Q}(h:Pure P G f args' r)(hb:qt7 r=true)(ha:zm (args.map (frz U.H 8)) args')(hq:Q r U):qa P G d f args U Q:=.of (.lent h hb ha) hq
def qk3(P:Program)(deep:Bool)(rs:List ResultVar)(r:AV)(env:Env)(U:St):Prop :=
 match qfQ (Dof P) rs env U with
 | some l=>match deep with
  |false=>qL (fin U.H (Vo l))=true/\Leq (fin U.H (Vo l)) r
  |true=>qL (frz U.H 8 (Vo l))=true/\Leq (frz U.H 8 (Vo l)) r
 |none=>False
def Wn(P:Program)(deep:Bool)(rs:List ResultVar)(r:AV):Exit->Env->St->Prop
 |.ret,env,U=>qk3 P deep rs r env U
 |.normal,env,U=>qk3 P deep rs r env U
 |_,_,_=>False
def Pure.vcO {G : Nat → AV} {fn : Func} {c : Code} (o : Opts) (deep : Bool) (hm : P.follows .mixedOrders = true) (hf : P.funcs[f]? = some fn) (hb : fn.body = some c) (hk : (jI fn.ntmps o c && decide (args.length ≤ fn.ntmps) && fn.name != "runtime.NumGoroutine") = true)
 (h:vcC P G o c (Za args) ⟨[],[]⟩ (Wn P deep fn.results.toList r)):Pure P G f args r:=by
 simp only[qBf,decide_eq_true_eq,bne_iff_ne,ne_eq]at hk;refine Pure.of_body (qcq G) hf hb hk.2 hk.1.2 (AWp.mono (yH hm c hk.1.1 h) fun e env U hq=>?_);have key:qk3 P deep fn.results.toList r env U->∃l,qfQ (Dof P) fn.results.toList env U=some l/\((qL (fin U.H (Vo l))=true/\Leq (fin U.H (Vo l)) r)\/(qL (frz U.H 8 (Vo l))=true/\Leq (frz U.H 8 (Vo l)) r)):=fun h=>by
  unfold qk3 at h;split at h
  . rename_i l hl;cases deep
    . exact⟨l,hl,.inl h⟩
    exact⟨l,hl,.inr h⟩
  exact h.elim
 cases e with
 |ret=>exact⟨.inl rfl,key hq⟩
 |normal=>exact⟨.inr rfl,key hq⟩
 |_=>exact hq.elim
def Pure.vc {G : Nat → AV} {fn : Func} {c : Code} (hm : P.follows .mixedOrders = true) (hf : P.funcs[f]? = some fn) (hb : fn.body = some c) (hk : (jI fn.ntmps o0 c && decide (args.length ≤ fn.ntmps) && fn.name != "runtime.NumGoroutine") = true)
 (h:vcC P G o0 c (Za args) ⟨[],[]⟩ (Wn P false fn.results.toList r)):Pure P G f args r:=Pure.vcO o0 false hm hf hb hk h
def qFZ:=@Pure.vc
end
end
def z0{p q:Prop}(h:p=q):p=q:=by rw[h]
@[congr]def qpC{P G d f args args' U Q}(h:args=args'):qa P G d f args U Q=qa P G d f args' U Q:=by rw[h]
def qC(P:Program)(G:Glo)(o:Opts)(c:Code)(env:Env)(U:St)(Q:Exit->Env->St->Prop):Prop :=
 ∃(I:Nat->Env->St->Prop) (n:Nat),I n env U/\∀n env U,I n env U->vcC P G o c env U (vl (fun env' U'=>∃n',n'<n/\I n' env' U') Q)
@[congr]def qtH{c c'}{A B:Prop}(h:c=c'):qho c A B=qho c' A B:=by rw[h]
@[simp]def qur{A B:Prop}:qho true A B=A:=by simp[qho]
@[simp]def qtG{A B:Prop}:qho false A B=B:=by simp[qho]
@[simp low]def qus{c}{A B:Prop}:qho c A B=((c=true->A)/\(c=false->B)):=z0 rfl
@[simp]def qwD{env d i v}:upd env (some d) v i=if i=d then v else env i:=rfl
@[simp]def qwE{env v}:upd env none v=env:=rfl
section
variable {P:Program}{G:Glo}{o:Opts}{env:Env}{U:St}{Q:Exit->Env->St->Prop}
@[simp]def qx1:vcC P G o .skip env U Q=Q .normal env U:=by simp only[vcC]
@[simp]def qzt:vcC P G o .ret env U Q=Q .ret env U:=by simp only[vcC]
@[simp]def qx3{id}:vcC P G o (.exit id) env U Q=Q (.exit id) env U:=by simp only[vcC]
@[simp]def qzs{x y}:vcC P G o (.seq x y) env U Q=vcC P G o x env U (vl (fun env U=>vcC P G o y env U Q) Q):=by simp only[vcC]
@[simp]def qwA{id x}:vcC P G o (.block id x) env U Q=vcC P G o x env U (vm id Q):=by simp only[vcC]
@[simp]def qx2{x}:vcC P G o (.loop x) env U Q=qC P G o x env U Q:=by simp only[vcC]<;>rfl
@[simp]def qum{id ops}:vcC P G o (.region id ops false) env U Q=vcR P G o.mu ops false (o.lw.contains id) ops.toList env U (fun env U=>Q .normal env U):=by simp only[vcC]
@[simp]def qwz{id ops}:vcC P G o0 (.region id ops true) env U Q=vcR P G false ops true false ops.toList env U (fun env U=>Q .normal env U):=by simp[vcC,o0]
@[simp]def qx4{c x y b}(h:ev G env c=.bool b):vcC P G o (.cond c x y) env U Q=qho b (vcC P G o x env U Q) (vcC P G o y env U Q):=by simp only[vcC,h]
@[simp]def qAa:o0.mu=false:=rfl
@[simp]def qAb:o0.lw=[]:=rfl
end
section
variable {P:Program}{G:Glo}{mu:Bool}{ops:Array Oper}{d lw:Bool}{env:Env}{U:St}{Q:Env->St->Prop}
@[simp]def qx5:vcR P G mu ops d lw [] env U Q=Q env U:=z0 rfl
@[simp]def qq1{dst:Option Nat}{op:Op}{type:TypeId}{pos:String}{after:Array Edge}{rest:List Oper}:
 vcR P G mu ops d false ({dst:=dst,op:=op,type:=type,pos:=pos,after:=after,guard:=none}::rest) env U Q=jT P G mu d op env U (fun v U'=>vcR P G mu ops d false rest (upd env dst v) U' Q):=by
 rw[vcR,vcG];simp
def vW(P:Program)(G:Glo)(mu:Bool)(ops:Array Oper)(d:Bool)(x:Option Nat)(b:Bool)(dst:Option Nat)(op:Op)(rest:List Oper)(env:Env)(U:St)(Q:Env->St->Prop):Prop :=
 match x with
 | some t=>match env t with
  | .bool c=>qho (c==b) (jT P G mu d op (upd env (some t) (.bool b)) U (fun v U'=>vcR P G mu ops d false rest (upd (upd env (some t) (.bool b)) dst v) U' Q))
   (vcR P G mu ops d false rest (upd (upd env (some t) (.bool (!b))) dst (.tup [])) U Q)
  |.tup []=>vcR P G mu ops d false rest (upd env dst (.tup [])) U Q
  |_=>False
 |none=>vcR P G mu ops d false rest (upd env dst (.tup [])) U Q
@[congr]def qmE{x x' b dst op rest}(h:x=x'):vW P G mu ops d x b dst op rest env U Q=vW P G mu ops d x' b dst op rest env U Q:=by rw[h]
@[simp]def qi0{dst:Option Nat}{op:Op}{type:TypeId}{pos:String}{after:Array Edge}{rest:List Oper}{j:Nat}{b:Bool}:
 vcR P G mu ops d false ({dst:=dst,op:=op,type:=type,pos:=pos,after:=after,guard:=some (j,b)}::rest) env U Q=vW P G mu ops d ((ops[j]?).bind (·.dst)) b dst op rest env U Q:=by
 rw[vcR,vcG];simp only[qDo,qFf,qDd];rfl
@[simp]def qpB{t b c dst op rest}(h:env t=.bool c):vW P G mu ops d (some t) b dst op rest env U Q =
 qho (c==b) (jT P G mu d op (upd env (some t) (.bool b)) U (fun v U'=>vcR P G mu ops d false rest (upd (upd env (some t) (.bool b)) dst v) U' Q)) (vcR P G mu ops d false rest (upd (upd env (some t) (.bool (!b))) dst (.tup [])) U Q):=by
 simp only[vW,h]
@[simp]def qq2{t b dst op rest}(h:env t=.tup []):vW P G mu ops d (some t) b dst op rest env U Q=vcR P G mu ops d false rest (upd env dst (.tup [])) U Q:=by
 simp only[vW,h]
end
section
variable {P:Program}{G:Glo}{mu d:Bool}{env:Env}{U:St}{Q:AV->St->Prop}
def jO(x:Option (AV×St))(Q:AV->St->Prop):Prop:=match x with
 |some (v,U)=>Q v U
 |none=>False
@[congr]def qq0{x x'}(h:x=x'):jO x Q=jO x' Q:=by rw[h]
@[simp]def qtD{v U}:jO (some (v,U)) Q=Q v U:=z0 rfl
@[simp]def qtE:jO none Q=False:=z0 rfl
@[congr]def qun{l l' s s'}(h:l=l')(h':s=s'):vcX l s Q=vcX l' s' Q:=by rw[h,h']
@[simp]def qam{s}:vcX none s Q=jO s Q:=by simp only[vcX,jO];try rfl
@[simp]def qqZ{v τ s}:vcX (some [(v,τ)]) s Q=Q v τ:=by simp[vcX]
@[simp]def qqY{v v' τ τ' s}:vcX (some [(v,τ),(v',τ')]) s Q=(Q v τ/\Q v' τ'):=by
 simp only[vcX,eq_iff_iff];constructor
 . exact fun h=>⟨h _ _ (by simp),h _ _ (by simp)⟩
 rintro⟨h1,h2⟩ a b hm;simp only[qBz,qBs,qCQ,or_false]at hm;rcases hm with⟨rfl,rfl⟩|⟨rfl,rfl⟩
 . exact h1
 exact h2
def qx7(P:Program)(G:Glo)(d:Bool)(f:AV)(args:List AV)(U:St)(Q:AV->St->Prop):Prop:=match f with
 |.fn g first cap=>qa P G d g (kg first args cap) U Q
 |_=>False
@[simp]def qx6{g first args cap}:qx7 P G d (.fn g first cap) args U Q=qa P G d g (kg first args cap) U Q:=z0 rfl
@[simp]def quq{f a t}:jT P G mu d (.call {callee:=.value f,args:=a,argTypes:=t}) env U Q=qx7 P G d (ev G env f) (qbE G env a.toList) U Q:=z0 rfl
@[simp]def qi3{x}:jT P G mu d (.move x) env U Q=jO (sem (Dof P) G env U (.move x)) Q:=by cases d<;>rfl
@[simp]def qd1{x}:jT P G mu d (.assign x) env U Q=jO (sem (Dof P) G env U (.assign x)) Q:=by cases d<;>rfl
@[simp]def qi2{a b c}:jT P G mu d (.pick a b c) env U Q=jO (sem (Dof P) G env U (.pick a b c)) Q:=by cases d<;>rfl
@[simp]def qhn{t}:jT P G mu d (.alloc t) env U Q=jO (sem (Dof P) G env U (.alloc t)) Q:=by cases d<;>rfl
@[simp]def qmD{t x}:jT P G mu d (.box t x) env U Q=jO (sem (Dof P) G env U (.box t x)) Q:=by cases d<;>rfl
@[simp]def qhl{t p}:jT P G mu d (.build t p) env U Q=jO (sem (Dof P) G env U (.build t p)) Q:=by cases d<;>rfl
@[simp]def Kg{t n p}:jT P G mu d (.buildSlice t n p) env U Q=jO (sem (Dof P) G env U (.buildSlice t n p)) Q:=by cases d<;>rfl
@[simp]def qi4{t x}:jT P G mu d (.load t x) env U Q=jO (sem (Dof P) G env U (.load t x)) Q:=by cases d<;>rfl
@[simp]def qhh{t x y}:jT P G mu d (.store t x y) env U Q=jO (sem (Dof P) G env U (.store t x y)) Q:=by cases d<;>rfl
@[simp]def qan{x}:jT P G mu d (.nilCheck x) env U Q=jO (sem (Dof P) G env U (.nilCheck x)) Q:=by cases d<;>rfl
def Kc{s}:vcX (qex d none) s Q=jO s Q:=by cases d<;>exact qam
@[simp]def qhm{o t u x y}(h:o≠.eql)(h':o≠.neq):jT P G mu d (.binOp o t x y u) env U Q=jO (sem (Dof P) G env U (.binOp o t x y u)) Q:=by
 have:qch (Dof P) G mu env U (.binOp o t x y u)=none:=by cases o<;>first|rfl|exact absurd rfl h|exact absurd rfl h'
 simp only[jT,this];exact Kc
def qkn(d neg:Bool)(D:Nat->Option TI)(t:Nat)(x y:AV)(U:St):Option (List (AV×St)):=match d with
 |true=>none
 |false=>VU D neg t x y U
@[simp]def qmB{t u x y}:jT P G mu d (.binOp .eql t x y u) env U Q=vcX (qkn d false (Dof P) t (ev G env x) (ev G env y) U) (sem (Dof P) G env U (.binOp .eql t x y u)) Q:=by cases d<;>rfl
@[simp]def qmy{t u x y}:jT P G mu d (.binOp .neq t x y u) env U Q=vcX (qkn d true (Dof P) t (ev G env x) (ev G env y) U) (sem (Dof P) G env U (.binOp .neq t x y u)) Q:=by cases d<;>rfl
@[simp]def qi1{o t x}:jT P G mu d (.unOp o t x) env U Q=jO (sem (Dof P) G env U (.unOp o t x)) Q:=by cases d<;>rfl
@[simp]def qbU{t u x}:jT P G mu d (.convert t u x) env U Q=jO (sem (Dof P) G env U (.convert t u x)) Q:=by cases d<;>rfl
@[simp]def qao{f:Fn}{a b}:jT P G mu d (.makeFunc f a b) env U Q=jO (sem (Dof P) G env U (.makeFunc f a b)) Q:=by cases d<;>rfl
@[simp]def qbS{t r}:jT P G mu d (.makeMap t r) env U Q=jO (sem (Dof P) G env U (.makeMap t r)) Q:=by cases d<;>rfl
@[simp]def Kf{t x y}:jT P G mu true (.makeSlice t x y) env U Q=jO (sem (Dof P) G env U (.makeSlice t x y)) Q:=by rfl
@[simp]def Zc{t x y}:jT P G mu false (.makeSlice t x y) env U Q=vcX (mkX (Dof P) mu U t (ev G env x) (ev G env y)) (sem (Dof P) G env U (.makeSlice t x y)) Q:=by rfl
@[simp]def qhi{t x lo hi mx}:jT P G mu d (.slice t x lo hi mx) env U Q=jO (sem (Dof P) G env U (.slice t x lo hi mx)) Q:=by cases d<;>rfl
@[simp]def W2{t x i}:jT P G mu d (.fieldAddr t x i) env U Q=jO (sem (Dof P) G env U (.fieldAddr t x i)) Q:=by cases d<;>rfl
@[simp]def qhk{t x i}:jT P G mu d (.field t x i) env U Q=jO (sem (Dof P) G env U (.field t x i)) Q:=by cases d<;>rfl
@[simp]def W0{t x y}:jT P G mu d (.indexAddr t x y) env U Q=jO (sem (Dof P) G env U (.indexAddr t x y)) Q:=by cases d<;>rfl
@[simp]def qhj{t x y}:jT P G mu d (.index t x y) env U Q=jO (sem (Dof P) G env U (.index t x y)) Q:=by cases d<;>rfl
@[simp]def qd0{t x y k}:jT P G mu d (.lookup t x y k) env U Q=jO (sem (Dof P) G env U (.lookup t x y k)) Q:=by cases d<;>rfl
@[simp]def WZ{t x y z}:jT P G mu d (.mapUpdate t x y z) env U Q=jO (sem (Dof P) G env U (.mapUpdate t x y z)) Q:=by cases d<;>rfl
@[simp]def qtF{t x}:jT P G mu d (.range t x) env U Q=jO (sem (Dof P) G env U (.range t x)) Q:=by cases d<;>rfl
@[simp]def qup{x}:jT P G mu d (.next x true) env U Q=jO (sem (Dof P) G env U (.next x true)) Q:=by cases d<;>rfl
@[simp]def qbT{x i}:jT P G mu d (.extract x i) env U Q=jO (sem (Dof P) G env U (.extract x i)) Q:=by cases d<;>rfl
@[simp]def qmA{a t}:jT P G mu d (.call {callee:=.builtin .len,args:=a,argTypes:=t}) env U Q=jO (sem (Dof P) G env U (.call {callee:=.builtin .len,args:=a,argTypes:=t})) Q:=by
 have:qch (Dof P) G mu env U (.call {callee:=.builtin .len,args:=a,argTypes:=t})=none:=by simp only[qch]
 simp only[jT,this];exact Kc
@[simp]def qmz{a t}:jT P G mu d (.call {callee:=.builtin .min,args:=a,argTypes:=t}) env U Q=jO (sem (Dof P) G env U (.call {callee:=.builtin .min,args:=a,argTypes:=t})) Q:=by
 have:qch (Dof P) G mu env U (.call {callee:=.builtin .min,args:=a,argTypes:=t})=none:=by simp only[qch]
 simp only[jT,this];exact Kc
@[simp]def qwB{a t}:jT P G mu d (.call {callee:=.builtin .max,args:=a,argTypes:=t}) env U Q=jO (sem (Dof P) G env U (.call {callee:=.builtin .max,args:=a,argTypes:=t})) Q:=by
 have:qch (Dof P) G mu env U (.call {callee:=.builtin .max,args:=a,argTypes:=t})=none:=by simp only[qch]
 simp only[jT,this];exact Kc
@[simp]def qd2{a t}:jT P G false d (.call {callee:=.builtin .append,args:=a,argTypes:=t}) env U Q=jO (sem (Dof P) G env U (.call {callee:=.builtin .append,args:=a,argTypes:=t})) Q:=by
 have:qch (Dof P) G false env U (.call {callee:=.builtin .append,args:=a,argTypes:=t})=none:=by
  simp only[qch];split<;>first|rfl|(rename_i h _ _;cases h;done)|(simp_all;done)
 simp only[jT,this];exact Kc
@[simp]def qbV{s x t u}:jT P G true false (.call {callee:=.builtin .append,args:=#[s,x],argTypes:=#[t,u]}) env U Q=vcX ((zr (Dof P) U t u (ev G env s) (ev G env x)).map fun p=>[p]) (sem (Dof P) G env U (.call {callee:=.builtin .append,args:=#[s,x],argTypes:=#[t,u]})) Q:=z0 rfl
@[simp]def qi5{x y t u}:jT P G mu false (.call {callee:=.builtin .copy,args:=#[x,y],argTypes:=#[t,u]}) env U Q=vcX ((kE (Dof P) U t (ev G env x) (ev G env y)).map fun p=>[p]) none Q:=z0 rfl
@[simp]def qwC{x t}:jT P G mu false (.call {callee:=.builtin .cap,args:=#[x],argTypes:=#[t]}) env U Q=vcX ((qt5 (Dof P) t (ev G env x)).map fun v=>[(v,U)]) none Q:=z0 rfl
end
attribute [simp] qkn VU qnT sem ev qbE qV kQ YT zI qo6 zA qrf zE qgy QU qgO vk cut ZB TD.agg ofV ofAtom Za qfQ Vo fin vU k0 pl1 qL plain pl2 Wn qk3 kg YY unA St.push Vt zx AV.atom qx q9
section
variable {next:Env->St->Prop}{Q:Exit->Env->St->Prop}{env:Env}{U:St}
@[simp]def qqH:vl next Q .normal env U=next env U:=z0 rfl
@[simp]def qwn:vl next Q .ret env U=Q .ret env U:=z0 rfl
@[simp]def quc{i}:vl next Q (.exit i) env U=Q (.exit i) env U:=z0 rfl
@[simp]def qpo{n}:vm n Q .normal env U=Q .normal env U:=z0 rfl
@[simp]def qud{n}:vm n Q .ret env U=Q .ret env U:=z0 rfl
@[simp]def qfn{n i}:vm n Q (.exit i) env U=if i=n then Q .normal env U else Q (.exit i) env U:=z0 rfl
def qC.intro{P G o c}(I:Nat->Env->St->Prop)(n)(h:I n env U)(hr:∀n env U,I n env U->vcC P G o c env U (vl (fun env' U'=>∃n',n'<n/\I n' env' U') Q)):qC P G o c env U Q:=⟨I,n,h,hr⟩
def qFW:=@qC.intro
end
attribute [simp] Leq zm Leq.refl zm.refl WY.refl yq.refl
def wr{n}(h:-9223372036854775808<=n)(h':n<9223372036854775808):IntKind.i64.wrap n=n:=by
 simp[IntKind.wrap,IntKind.bits,IntKind.signed];omega
def ze{α:Type}{l:List α}{i:Nat}{v:α}(h:l[i]?=some v):l.drop i=v::l.drop (i+1):=by
 obtain⟨h1,h2⟩:=qBa.1 h;rw[qBx h1,h2]
def KP{a}(h:qL a=true):pl1 a=a:=by
 unfold pl1;split
 . simp[qL]at h
 rfl
def VJ:∀{l:List AV},qx l=true->l.map pl1=l
 |[],_=>rfl
 | a::r,h=>by
  simp only[qx,qBf]at h;rw[qBn,KP h.1,VJ h.2]
def qcw{a}(h:qL a=true):pl2 a=a:=by
 unfold pl2;split
 . simp only[qL]at h;simp[VJ h]
 exact KP h
def VI:∀{l:List AV},qx l=true->l.map pl2=l
 |[],_=>rfl
 | a::r,h=>by
  simp only[qx,qBf]at h;rw[qBn,qcw h.1,VI h.2]
def yt{a}(h:qL a=true):plain a=a:=by
 unfold plain;split
 . simp only[qL]at h;simp[VI h]
 exact qcw h
def j8:∀{l:List AV},qx l=true->l.map plain=l
 |[],_=>rfl
 | a::r,h=>by
  simp only[qx,qBf]at h;rw[qBn,yt h.1,j8 h.2]
def qs{H n a}(h:qL a=true):frz H n a=a:=by
 cases n<;>simp[frz,h]
def QT{H a}(h:qL a=true):k0 H a=a:=by
 unfold k0;split
 . simp[qL]at h
 exact KP h
def yK:∀{l m:List AV},qx (l++m)=(qx l&&qx m)
 |[],m=>by simp[qx]
 |a::r,m=>by simp[qx,yK (l:=r),Bool.and_assoc]
def zq{α:Type}{f:α->List AV}(h:∀x,qx (f x)=true):∀(l:List α),q9 (l.map f)=true
 |[]=>rfl
 |a::r=>by simp[q9,h,zq h r]
def W8{l m}:q9 (l++m)=(q9 l&&q9 m):=by
 simp[VT]
def Leq.sl{sz l m tok}(h:l=m):Leq (.sl sz l tok) (.sl sz m .none):=by
 subst h;simp[Leq,qFI]
def Leq.slnil{sz sz' tok}:Leq (.sl sz [] tok) (.sl sz' [] .none):=by simp[Leq]
section
variable {P:Program}{G:Glo}{U:St}{f:FuncId}{args args':List AV}{r r':AV}{Q:AV->St->Prop}
def qj.call(h:Pure P G f args r)(hno:qx args=true)(hq:Q r U):qj P G f args U Q :=
 qj.pure h (by rwa[j8 hno]) (by rw[j8 hno];exact qFH _) hq
def qa.call{d}(h:Pure P G f args r)(hno:qx args=true)(hq:Q r U):qa P G d f args U Q :=
 qFY h (by rwa[j8 hno]) (by rw[j8 hno];exact qFH _) hq
def qFJ:=@qa.call
def qa.less{d}(h:Pure P G f args' r)(hno:qx args=true)(ha:zm args args')(hq:Q r U):qa P G d f args U Q :=
 qFY h (by rwa[j8 hno]) (by rwa[j8 hno]) hq
def qFK:=@qa.less
end
section
variable {P:Program}{G:Glo}{mu d lw:Bool}{ops:Array Oper}
def qdZ{Q Q'}(hq:∀env U,Q env U->Q' env U):∀(l){env:Env}{U:St},vcR P G mu ops d lw l env U Q->vcR P G mu ops d lw l env U Q'
 |[],env,U,h=>hq _ _ h
 | o::r,env,U,h=>by
  simp only[vcR]at h⊢;exact vcG.imp h fun env v U h=>qdZ hq r h
mutual
def qdX{ac Q Q'}(hq:∀env U,Q env U->Q' env U):∀(s){env:Env}{U:St},vcS P G mu ac ops s env U Q->vcS P G mu ac ops s env U Q'
 |.done,env,U,h=>by simp only[vcS]at h⊢;exact hq _ _ h
 | .step k dp s,env,U,h=>by
  simp only[vcS]at h⊢;split at h
  . rename_i o ho;exact vcG.imp h fun env v U h=>qdX hq s h
  exact h.elim
 | .fork a,env,U,h=>by
  simp only[vcS]at h⊢;exact Vi hq a h
def Vi{ac Q Q'}(hq:∀env U,Q env U->Q' env U):∀(a){env:Env}{U:St},vX P G mu ac ops a env U Q->vX P G mu ac ops a env U Q'
 |.nil,env,U,h=>by simp only[vX]
 | .cons k s r,env,U,h=>by
  simp only[vX]at h⊢;refine⟨?_,Vi hq r h.2⟩;have h1:=h.1;split at h1
  . rename_i o ho;exact vcG.imp h1 fun env v U h=>qdX hq s h
  exact h1.elim
end
def wo{n n' Q Q'}(hn:∀env U,n env U->n' env U)(hq:∀e env U,Q e env U->Q' e env U):∀e env U,vl n Q e env U->vl n' Q' e env U:=by
 intro e env U h;cases e<;>first|exact hn _ _ h|exact hq _ _ _ h
def qiJ{id Q Q'}(hq:∀e env U,Q e env U->Q' e env U):∀e env U,vm id Q e env U->vm id Q' e env U:=by
 intro e env U h
 cases e with
 | exit i=>
  simp only[qfn]at h⊢;split at h
  . rename_i hi;rw[if_pos hi];exact hq _ _ _ h
  rename_i hi;rw[if_neg hi];exact hq _ _ _ h
 |_=>exact hq _ _ _ h
def yk:Code->Bool
 |.seq x y=>yk x&&yk y
 |.cond _ x y=>yk x&&yk y
 |.block _ c=>yk c
 |.loop c=>yk c
 |.scope c=>yk c
 |.rangeFunc .. =>false
 |_=>true
def kv{o}:∀(c){env:Env}{U:St}{Q Q':Exit->Env->St->Prop},yk c=true->(∀e env U,Q e env U->Q' e env U)->vcC P G o c env U Q->vcC P G o c env U Q'
 |.skip,_,_,_,_,_,hq,h=>hq _ _ _ h
 |.ret,_,_,_,_,_,hq,h=>hq _ _ _ h
 |.exit _,_,_,_,_,_,hq,h=>hq _ _ _ h
 | .seq x y,env,U,Q,Q',hp,hq,h=>by
  simp only[yk,qBf]at hp;simp only[vcC]at h⊢;exact kv x hp.1 (wo (fun env U h=>kv y hp.2 hq h) hq) h
 | .cond c x y,env,U,Q,Q',hp,hq,h=>by
  simp only[yk,qBf]at hp;simp only[vcC]at h⊢;split at h
  . exact⟨fun e=>kv x hp.1 hq (h.1 e),fun e=>kv y hp.2 hq (h.2 e)⟩
  exact h.elim
 | .block id c,env,U,Q,Q',hp,hq,h=>by
  simp only[yk]at hp;simp only[vcC]at h⊢;exact kv c hp (qiJ hq) h
 | .region id ops false,env,U,Q,Q',hp,hq,h=>by
  simp only[vcC]at h⊢;exact qdZ (fun env U h=>hq _ _ _ h) _ h
 | .region id ops true,env,U,Q,Q',hp,hq,h=>by
  simp only[vcC]at h⊢;split at h
  . exact qdX (fun env U h=>hq _ _ _ h) _ h
  exact qdZ (fun env U h=>hq _ _ _ h) _ h
 | .loop c,env,U,Q,Q',hp,hq,h=>by
  simp only[yk]at hp;simp only[vcC]at h⊢;obtain⟨I,n,h0,hr⟩:=h;exact⟨I,n,h0,fun n env U hI=>kv c hp (wo (fun _ _ h=>h) hq) (hr n env U hI)⟩
 |.rangeFunc ..,_,_,_,_,hp,_,_=>by simp[yk]at hp
 | .scope c,_,_,_,_,hp,hq,h=>by
  simp only[yk]at hp;simp only[vcC]at h⊢;refine kv c hp (fun e env U h=>?_) h
  cases e with
  |goto l=>exact h
  |_=>exact hq _ _ _ h
 | .label l,_,_,_,_,_,hq,h=>by
  simp only[vcC]at h⊢;exact hq _ _ _ h
 |.goto l,_,_,_,_,_,_,h=>by simp only[vcC]at h
 |.refuse w,_,_,_,_,_,_,h=>by simp only[vcC]at h
def Vh{o x y env U Q}(I)(hp:yk x=true)(h1:vcC P G o x env U (vl I Q))(h2:∀env U,I env U->vcC P G o y env U Q):vcC P G o (.seq x y) env U Q:=by
 simp only[vcC];exact kv x hp (wo h2 fun _ _ _ h=>h) h1
end
section
variable {P:Program}{G:Glo}{o:Opts}{c:Code}{env:Env}{U:St}{Q:Exit->Env->St->Prop}{α:Type}
def qC.list(l)(J:List α->Env->St->Prop)(h0:J [] env U)
 (hs:∀d v r env U,l=d++v::r->l[d.length]?=some v->d.length<l.length->J d env U->vcC P G o c env U (vl (J (d++[v])) Q))
 (he:∀env U,J l env U->vcC P G o c env U (vl (fun _ _=>False) Q)) (hp:yk c=true:=by rfl):qC P G o c env U Q:=by
 refine qFW (fun n ev U=>∃d r,l=d++r/\n=r.length/\J d ev U) l.length ⟨[],l,rfl,rfl,h0⟩ ?_;rintro n ev U ⟨d,r,hl,rfl,hJ⟩
 cases r with
 | nil=>
  rw[qBU]at hl;subst hl;exact kv c hp (fun e env U h=>wo (fun _ _ h=>h.elim) (fun _ _ _ h=>h) e env U h) (he ev U hJ)
 | cons v r=>
  refine kv c hp (fun e env U h=>wo (fun env U h=>?_) (fun _ _ _ h=>h) e env U h) (hs d v r ev U hl (by rw[hl];simp) (by rw[hl];simp) hJ);exact⟨r.length,by simp,d++[v],r,by rw[hl];simp,rfl,h⟩
def qC.count(n)(J:Nat->Env->St->Prop)(h0:J 0 env U)
 (hs:∀i env U,i<n->J i env U->vcC P G o c env U (vl (J (i+1)) Q))
 (he:∀env U,J n env U->vcC P G o c env U (vl (fun _ _=>False) Q)) (hp:yk c=true:=by rfl):qC P G o c env U Q:=by
 refine qFW (fun m ev U=>∃i,i<=n/\m=n-i/\J i ev U) n ⟨0,by omega,by omega,h0⟩ ?_;rintro m ev U ⟨i,hi,rfl,hJ⟩;by_cases hn:i=n
 . subst hn;exact kv c hp (fun e env U h=>wo (fun _ _ h=>h.elim) (fun _ _ _ h=>h) e env U h) (he ev U hJ)
 refine kv c hp (fun e env U h=>wo (fun env U h=>?_) (fun _ _ _ h=>h) e env U h) (hs i ev U (by omega) hJ);exact⟨n-(i+1),by omega,i+1,by omega,rfl,h⟩
end
def ZF{α:Type}(sz:Nat)(en:α->List AV)(t:Nat)(s:List α):AV:=match s with
 |[]=>.sl 0 [] .nil
 |a::r=>.sl sz ((a::r).map en) (.chain t (r.length+1))
def ky{α:Type}(T:List (Option Nat))(s:List α):List (Option Nat):=match s with
 |[]=>T
 |_::r=>T++[some (r.length+1)]
section
variable {α:Type}{sz t:Nat}{en:α->List AV}{T:List (Option Nat)}{s m:List α}
@[simp]def qwX:ZF sz en t ([]:List α)=.sl 0 [] .nil:=rfl
@[simp]def qu4:ky T ([]:List α)=T:=rfl
def qrY(h:s≠[]):ZF sz en t s=.sl sz (s.map en) (.chain t s.length):=by
 cases s with
 |nil=>exact absurd rfl h
 |cons a r=>rfl
def qnO(h:s≠[]):ky T s=T++[some s.length]:=by
 cases s with
 |nil=>exact absurd rfl h
 |cons a r=>rfl
def wn{D H ty e i j tok}(hi:D ty=some i)(hd:i.d=.sl e)(hj:D e=some j)(hsz:j.size=sz)(h0:0<sz)(hz:j.zero.length=sz)(hb:j.bytes<=256)(hlen:s.length+m.length<=549755813888)(sz2)(h2:sz2=sz\/m=[]):
 qr D ⟨H,ky T s⟩ ty (ZF sz en T.length s) (.sl sz2 (m.map en) tok)=some (ZF sz en T.length (s++m),⟨H,ky T (s++m)⟩):=by
 subst hsz;by_cases hm:m=[]
 . subst hm;rw[qBU]
   cases s with
   |nil=>simp[qr,hi,hd,hj,h0,hz,hb,qZ]
   | cons a r=>
    have:r.length+1<=549755813888:=by simpa using hlen
    simp[qr,hi,hd,hj,h0,hz,hb,qZ,ZF,ky,this]
 have h2:=h2.resolve_right hm;subst h2
 cases s with
 | nil=>
  have:m.length<=549755813888:=by simpa using hlen
  simp[qr,hi,hd,hj,h0,hz,hb,qZ,qnO hm,qrY hm,this,hm]
 | cons a r=>
  have:r.length+1+m.length<=549755813888:=by simpa using hlen
  simp only[qBB,ZF,ky];simp[qr,hi,hd,hj,h0,hz,hb,qZ,this,hm];omega
def qpW{α:Type}(sz:Nat)(en:α->List AV)(s:List α):AV:=match s with
 |[]=>.sl 0 [] .nil
 |a::r=>.sl sz ((a::r).map en) .none
@[simp high]def VF:plain (ZF sz en t s)=qpW sz en s:=by cases s<;>rfl
@[simp high]def qvH{H}:vU H (ZF sz en t s)=qpW sz en s:=by cases s<;>rfl
@[simp high]def qxm{H}:fin H (ZF sz en t s)=qpW sz en s:=by cases s<;>rfl
@[simp high]def qh0(hn:∀x,qx (en x)=true):qL (qpW sz en s)=true:=by
 cases s with
 |nil=>rfl
 |cons a r=>simpa[qpW] using zq hn (a::r)
def qgp:Leq (qpW sz en s) (.sl sz (s.map en) .none):=by
 cases s with
 |nil=>simp[qpW,Leq]
 |cons a r=>exact Leq.sl rfl
@[simp high]def qvm:Leq (qpW sz en s) (.sl sz (s.map en) .none)=True:=eq_true qgp
end
