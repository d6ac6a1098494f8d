/- A part of the proof. -/
import Derived.Test.YtpgcmnabljandaaGreatDoorPa03
import Derived.Test.YtpgcmnabljandaaGreatDoorPa04
import Derived.RangeFuncRecord
import Derived.Sort.LoopGhostIn
import Derived.TacticsIn
import Derived.OrdersIn
import Derived.RangeFuncIn
set_option linter.unusedVariables false
set_option linter.unusedSimpArgs false
set_option linter.defProp false
section
namespace Go.Abs
open Go Go.RowKit
section
def jA (ops:Array Oper)(env:Env)(o:Oper):Option Bool :=
 match o.guard with
 | none=>some true
 | some (j,b)=>match (ops[j]?).bind (·.dst) with
  | some t=>match env t with
   | .bool c=>some (c==b)
   | .tup []=>some false
   | _=>none
  | none=>some false
def kR (first args cap:List AV):List AV:=first++args++cap
def OpA (P:Program)(G:Nat->AV)(o:Oper)(env:Env)(O:St)(v:AV)(O':St):Prop :=
 sem (Dof P) G env O o.op=some (v,O') \/
 ∃ f args ts g first cap,o.op=.call { callee:=.value f,args:=args,argTypes:=ts }/\ev G env f=.fn g first cap/\Zw P G g (kR first (VS G env args.toList) cap) O v/\O'=O
def wZ (P:Program)(G:Nat->AV)(ops:Array Oper)(o:Oper)(env:Env)(O:St)(v:AV)(O':St):Prop :=
 (jA ops env o=some false/\v=.tup []/\O'=O)\/(jA ops env o=some true/\OpA P G o env O v O')
section
variable {P:Program}{G:Nat->AV}{N:Nat}{env:Env}{O O':St}{w0:World}{ro0:Nat->Nat->Option Value}{K:Kn}{a:Act}{w:World}{ops:Array Oper}{o:Oper}{v:AV}
theorem kx (he:ERel K N env a){b:Bool}(hj:∀ j,o.guard=some (j,true)\/o.guard=some (j,false)->∀ t,(ops[j]?).bind (·.dst)=some t->t<N)(h:jA ops env o=some b) :
 Region.wanted o (yielded ops a.tmps)=b:=by
 unfold jA at h;unfold Region.wanted;split at h
 . rename_i hg;simp at h;subst h;simp[hg]
 . rename_i j c hg;simp only[hg];split at h
   . rename_i t ht;have htN:t<N:=hj j (by cases c<;>simp[hg]) t ht;have hv:=he.val t;have hsz:t<a.tmps.size:=(by rw[he.size];exact htN);simp only[yielded,ht,Option.bind_some];split at h
     . rename_i x hx;simp at h;subst h;rw[hx]at hv;simp only[qj]at hv;have:a.tmps[t]?=some (.bool x):=by
        rw[qs8 hsz];simp[hsz]at hv;rw[hv]
       simp only[this];cases x<;>cases c<;>rfl
     . rename_i hx;simp at h;subst h;rw[hx]at hv;simp only[qj,qk]at hv;obtain⟨vs,hv1,hv2⟩:=hv;have:a.tmps[t]?=some (.tuple vs):=by
        rw[qs8 hsz];simp[hsz]at hv1;rw[hv1]
       simp only[this];rfl
     . cases h
   . rename_i ht;simp at h;subst h;simp[yielded,ht]
theorem WG (hw:WRel G w0 ro0 K O w)(he:ERel K N env a){f:Operand}{args:Array Operand}{ts:Array TypeId}{g:FuncId}{first cap:List AV}(ho:o.op=.call { callee:=.value f,args:=args,argTypes:=ts })
 (hf:ev G env f=.fn g first cap) (hb:bodied P g=true) :
 ∃ vs:Array Value,(execOp a.eval o).run P w=.ok (.enter g vs) w/\qk K (kR first (VS G env args.toList) cap) vs.toList:=by
 have hv:=ZD hw he f;rw[hf]at hv;simp only[qj]at hv;obtain⟨va,vb,e1,h1,h2⟩:=hv;refine⟨va++args.map a.eval++vb,?_,?_⟩
 . cases hg:P.funcs[g]? with
   | none=>simp[bodied,hg]at hb
   | some fn=>
    simp[bodied,hg]at hb;obtain⟨b1,b2⟩:=hb;have hbn:¬ fn.body=none:=(by intro e;simp[e]at b1);simp[execOp,ho,resolve,e1,Deferred.ofValue,invoke,callFunc,hg,b2,hbn]
 . have:=Zd hw he args.toList;simp only[kR,Array.toList_append,qtJ];exact (h1.append this).append h2
theorem Act.put_defers' {a:Act}{d:Option Tmp}{v:Value}:(a.put d v).defers=a.defers:=by
 unfold Act.put;split<;>rfl
theorem qpU (hw:WRel G w0 ro0 K O w)(he:ERel K N env a)(hd:∀ d,o.dst=some d->d<N)(h:OpA P G o env O v O'){next:Act->World->Prop}{Q:Exit->Act->World->Prop}
 (hn:∀ K' a' w',K.le K'->WRel G w0 ro0 K' O' w'->ERel K' N (upd env o.dst v) a'->a'.defers=a.defers->next a' w'):o.wp P a w next Q:=by
 rcases h with h|⟨f,args,ts,g,first,cap,ho,hf,hp,rfl⟩
 . obtain⟨v',w',K',hr,h1,h2,h3⟩:=KC hw he o h;unfold Oper.wp;rcases hr with hr|⟨hr,rfl⟩
   . rw[hr];exact hn K' _ w' h1 h2 ((he.mono h1).put hd h3) Act.put_defers'
   . rw[hr];exact hn K' _ w' h1 h2 ((he.mono h1).put hd h3) Act.put_defers'
 . obtain⟨vs,hr,hvs⟩:=WG hw he ho hf hp.bodied;unfold Oper.wp;rw[hr,Oper.upon_enter];refine (pcall hw hp hvs).mono ?_;rintro e w' ⟨v',K',rfl,h1,h2,h3⟩;exact hn K' _ w' h1 h2 ((he.mono h1).put hd h3) Act.put_defers'
def vz (N:Nat)(ops:Array Oper):Bool:=ops.toList.all fun o=>match o.dst with | some d=>decide (d<N) | none=>true
theorem Jf {N:Nat}{ops:Array Oper}(h:vz N ops=true){o:Oper}(ho:o∈ops.toList):∀ d,o.dst=some d->d<N:=by
 intro d hd;have:=qq7.1 h o ho;simpa[hd] using this
theorem ZG {N:Nat}{ops:Array Oper}(h:vz N ops=true)(o:Oper):∀ j,o.guard=some (j,true)\/o.guard=some (j,false)->∀ t,(ops[j]?).bind (·.dst)=some t->t<N:=by
 intro j _ t ht;obtain⟨o',h1,h2⟩:=qr9.1 ht;exact Jf h (qqW (by simpa using h1)) t h2
def JI (args:List AV):Env:=fun t=>args.getD t (.tup [])
def qf7 (D:Nat->Option TI)(rs:List ResultVar)(env:Env)(O:St):Option (List AV) :=
 match rs with
 | []=>some []
 | .tmp t::r=>(qf7 D r env O).map (env t::·)
 | .cell x t::r=>match Vk D O t (env x),qf7 D r env O with
  | some v,some l=>some (v::l)
  | _,_=>none
def Vx:List AV->AV
 | [v]=>v
 | l=>.tup l
def qct (a:Act):ResultVar->Sem Value
 | .tmp t=>pure (a.tmps.getD t undef)
 | .cell x t=>do loadVar t (<- asAddr (a.tmps.getD x undef))
theorem ZJ (hw:WRel G w0 ro0 K O w)(he:ERel K N env a):∀ (rs:List ResultVar) (l:List AV),qf7 (Dof P) rs env O=some l ->
 ∃ vs:List Value,(rs.mapM (qct a)).run P w=.ok vs w/\qk K l vs
 | [],l,h=>by simp[qf7]at h;subst h;exact⟨[],by simp,by simp[qk]⟩
 | .tmp t::r,l,h=>by
  simp only[qf7]at h;obtain⟨l',hl',rfl⟩:=qq0.1 h;obtain⟨vs,h1,h2⟩:=ZJ hw he r l' hl';refine⟨a.tmps.getD t undef::vs,?_,by simp only[qk];exact⟨_,_,rfl,he.val t,h2⟩⟩;rw[qt2,Sem.run_bind];simp only[qct,pure,Sem.run,Result.andThen_ok,Sem.run_bind,h1]
 | .cell x t::r,l,h=>by
  simp only[qf7]at h;split at h
  . rename_i v l' hv hl';simp only[Option.some.injEq]at h;subst h;obtain⟨vs,h1,h2⟩:=ZJ hw he r l' hl';obtain⟨v',r1,r2⟩:=qcO hw (he.val x) hv;have hx:=he.val x;have hptr:∃ ad,a.tmps.getD x undef=.pointer (some ad):=by
     cases hxx:env x<;>rw[hxx]at hx hv<;>simp only[qj]at hx<;>first
      | (obtain⟨B,_,e⟩:=hx;exact⟨_,e⟩)
      | (obtain⟨B,o,e,_⟩:=hx;exact⟨_,e⟩)
      | (unfold Vk at hv;split at hv<;>simp_all)
    obtain⟨ad,had⟩:=hptr;refine⟨v'::vs,?_,by simp only[qk];exact⟨_,_,rfl,r2,h2⟩⟩;rw[had]at r1;simp only[Instr.loadAt,Instr.sureAddr,pure,Sem.run_bind,Sem.run,Result.andThen_ok]at r1;rw[qt2,Sem.run_bind];simp only[qct,had,asAddr,pure,Sem.run,Result.andThen_ok,Sem.run_bind,r1,h1]
  . cases h
theorem KF (hw:WRel G w0 ro0 K O w)(he:ERel K N env a){fn:Func}{l:List AV}(h:qf7 (Dof P) fn.results.toList env O=some l) :
 ∃ v,(results fn a.tmps).run P w=.ok v w/\qj K (Vx l) v:=by
 obtain⟨vs,h1,h2⟩:=ZJ hw he _ _ h;have hrun:(fn.results.mapM (qct a)).run P w=.ok vs.toArray w:=by
  rw[Array.mapM_eq_mapM_toList];simp[h1]
 have hres:results fn a.tmps=(fn.results.mapM (qct a)).bind fun vs=>Sem.pure (if h:vs.size=1 then vs[0] else .tuple vs):=by
  unfold results;show Sem.bind _ _=_;congr 2
 have hlen:=h2.length
 cases l with
 | nil=>
  simp only[qk]at h2;subst h2;refine⟨.tuple #[],?_,by simp only[Vx,qj];exact⟨#[],rfl,by simp[qk]⟩⟩;rw[hres,Sem.run_bind',hrun];rfl
 | cons x r=>
  cases r with
  | nil=>
   simp only[qk]at h2;obtain⟨v,vr,rfl,g1,rfl⟩:=h2;refine⟨v,?_,g1⟩;rw[hres,Sem.run_bind',hrun];rfl
  | cons y r=>
   refine⟨.tuple vs.toArray,?_,by simp only[Vx,qj];exact⟨_,rfl,by simpa using h2⟩⟩;rw[hres,Sem.run_bind',hrun];have:¬ vs.toArray.size=1:=by simp at hlen ⊢;omega
   simp only[Result.andThen_ok,dif_neg this,Sem.run]
theorem ERel.enter {args:List AV}{vs:Array Value}{n:Nat}(hvs:qk K args vs.toList)(hn:args.length<=n) :
 ERel K n (JI args) { tmps:=vs++Array.replicate (n-vs.size) undef,defers:=[] }:=by
 have hlen:=hvs.length;simp only[qr0]at hlen;refine⟨by simp;omega,fun t=>?_⟩;simp only[JI];by_cases ht:t<vs.size
 . have h1:args[t]?=some args[t]:=qq6 (by omega);obtain⟨v,e1,e2⟩:=hvs.get t _ h1;have e1':vs[t]?=some v:=(by simpa using e1);simp only[qsJ,h1,qtK];rw[qs0,qs4 ht,e1'];exact e2
 . have h1:args[t]?=none:=qry (by omega);simp only[qsJ,h1,Option.getD_none];rw[qs0,Array.getElem?_append_right (by omega)];have:(Array.replicate (n-vs.size) undef)[t-vs.size]?.getD undef=undef:=by
    rw[Array.getElem?_replicate];split<;>rfl
   rw[this];exact⟨#[],rfl,by simp[qk]⟩
theorem Yy {fn:Func}{R:Ending->World->Prop}{tmps:Array Value}{f0:Nat->Option Obj}:∀ (Ds:List Nat) (K:Kn) (w:World),WRel G w0 ro0 K O w->Ds.Nodup->(∀ D∈Ds,K.fx D=some (.deferred (some []))/\f0 D=none) ->
 (∀ B o,f0 B=some o->K.fx B=some o) ->
 (∀ (w':World),WRel G w0 ro0 (K.withFx f0) O w'->∃ v,(results fn tmps).run P w'=.ok v w'/\R (.returned v) w')->LeavesInM Fence.wide 0 P fn tmps R (Ds.map mark) .returning w
 | [],K,w,hw,_,_,hf,h=>h w (hw.unfix hf)
 | D::Ds,K,w,hw,hn,hD,hf,h=>by
  obtain⟨d1,d2⟩:=hD D (by simp);obtain⟨b1,_⟩:=hw.fx D _ d1;have hw1:=hw.refix d1 (by intros;intro e;cases e) (.deferred none);refine⟨by simp,.inl ⟨D,_,rfl,run_takeDeferred b1,?_⟩⟩;refine Yy Ds _ _ hw1 (qr4.1 hn).2 (fun D' hD'=>?_) (fun B o e=>?_) h
  . have hne:¬ D'=D:=fun e=>(qr4.1 hn).1 (e▸hD')
    simp only[Kn.withFx,if_neg hne];exact hD D' (by simp[hD'])
  . have hne:¬ B=D:=fun e'=>by subst e';rw[d2]at e;cases e
    simp only[Kn.withFx,if_neg hne];exact hf B o e
theorem YI {f:FuncId}{fn:Func}{c:Code}{vs:Array Value}{R:Ending->World->Prop}{Q:Exit->Env->St->Prop}(hf:P.funcs[f]?=some fn)(hb:fn.body=some c)
 (h:c.wp P (Yp G w0 ro0 K fn.ntmps [] Q) { tmps:=vs++Array.replicate (fn.ntmps-vs.size) undef,defers:=[] } w)
 (hR:∀ e K' env O a w',K.le K'->WRel G w0 ro0 K' O w'->ERel K' fn.ntmps env a->Q e env O->(e=.ret\/e=.normal)/\∃ v,(results fn a.tmps).run P w'=.ok v w'/\R (.returned v) w'):Calls P f vs w R:=by
 refine (callsIn_wide (n:=0)).1 (callsIn_of_wp_marks hf hb trivial (wpIn_mono (wpIn_wide.2 h) ?_));rintro e a w' ⟨K',env,O',h1,h2,h3,⟨Ds,n1,n2,n3⟩,hq⟩;have he:=(hR e K' env O' a w' h1 h2 h3 hq).1;have key:LeavesInM Fence.wide 0 P fn a.tmps R a.defers .returning w':=by
  rw[n2,qrl];refine Yy (G:=G) (w0:=w0) (ro0:=ro0) (O:=O') (f0:=K.fx) Ds K' w' h2 n1 (fun D hD=>⟨(n3 D hD).2,(n3 D hD).1⟩) h1.fx fun w'' hw''=>?_
  exact (hR e _ env O' a w'' (Kn.le_swap (K:=K) (f:=K.fx) h1 fun _ _ e=>e) hw'' (h3.refx K.fx) hq).2
 rcases he with rfl|rfl
 . exact key
 . exact key
theorem Pure.of_body {f : FuncId} {fn : Func} {c : Code} {args : List AV} {r : AV} (hf : P.funcs[f]? = some fn) (hb : fn.body = some c) (hnm : fn.name ≠ "runtime.NumGoroutine") (hn : args.length ≤ fn.ntmps)
 (h:AWp P G fn.ntmps c (JI args) ⟨[],[]⟩ (fun e env O=>(e=.ret\/e=.normal)/\∃ l,qf7 (Dof P) fn.results.toList env O=some l/\((zg (fin O.H (Vx l))=true/\Leq (fin O.H (Vx l)) r)\/(zg (frz O.H 8 (Vx l))=true/\Leq (frz O.H 8 (Vx l)) r)))):Pure P G f args r:=by
 refine⟨by simp[bodied,hf,hb,hnm],?_⟩;intro w0 ro vs hg hro hvs;have hw:WRel G w0 ro (K0 ro) ⟨[],[]⟩ w0:=⟨Below.refl _ _,hg,hro,fun b o v e _=>e,by simp,fun _ _ _ e=>by simp[K0]at e,fun _ _ e=>by simp[K0]at e,by simp,fun _ _ e=>by simp[K0]at e,
  fun _ _ _ _ e=>by simp[K0]at e,rfl,fun _ _ _ _ _ e=>by simp[K0]at e,fun _ _ e=>by simp[K0]at e,fun _ _ e=>by simp[K0]at e⟩
 have he:=ERel.enter hvs hn;refine YI hf hb (h w0 ro (K0 ro) _ w0 hw he) ?_;rintro e K' env O a w h1 h2 h3 ⟨hend,l,hl,hfin⟩;refine⟨hend,?_⟩;obtain⟨v,hr,hv⟩:=KF h2 h3 hl;have hv3:qj (K0 (QH w0 w K'.ro)) r v:=by
  rcases hfin with ⟨hno,hfin⟩|⟨hno,hfin⟩
  . exact Leq.rel _ _ hfin (qj.toK0 _ hno (qqt h2 hv))
  . exact Leq.rel _ _ hfin (qqq h2 8 hv)
 obtain⟨q1,q2⟩:=h2.end_ro;exact⟨v,hr,v,QH w0 w K'.ro,rfl,h2.below,fun b o v e=>qaL _ _ _ _ _ _ (h1.ro b o v e),q1,q2,hv3⟩
theorem qq.of_body {f : FuncId} {fn : Func} {c : Code} {args : List AV} {Q : AV → St → Prop} (hf : P.funcs[f]? = some fn) (hb : fn.body = some c) (hnm : fn.name ≠ "runtime.NumGoroutine") (hn : args.length ≤ fn.ntmps)
 (h:AWp P G fn.ntmps c (JI args) O (fun e env O'=>(e=.ret\/e=.normal)/\∃ l,qf7 (Dof P) fn.results.toList env O'=some l/\Q (Vx l) O')):qq P G f args O Q:=by
 refine⟨by simp[bodied,hf,hb,hnm],?_⟩;intro w0 ro0 K w vs hw hvs;refine YI hf hb (h w0 ro0 K _ w hw (ERel.enter hvs hn)) ?_;rintro e K' env O' a w h1 h2 h3 ⟨hend,l,hl,hq⟩;obtain⟨v,hr,hv⟩:=KF h2 h3 hl;exact⟨hend,v,hr,v,Vx l,O',K',rfl,h1,h2,hv,hq⟩
end
end
section
def qe (P:Program)(G:Nat->AV)(d:Bool)(g:FuncId)(args:List AV)(O:St)(Q:AV->St->Prop):Prop :=
 match d with
 | true=>∃ r,Zw P G g args O r/\Q r O
 | false=>qq P G g args O Q
def qeK {α:Type}(d:Bool)(l:Option α):Option α:=match d with
 | true=>none
 | false=>l
def vcX (l:Option (List (AV×St)))(s:Option (AV×St))(Q:AV->St->Prop):Prop :=
 match l with
 | some l=>∀ v O',(v,O')∈l->Q v O'
 | none=>match s with
  | some (v,O')=>Q v O'
  | none=>False
def jY (P:Program)(G:Nat->AV)(mu d:Bool)(op:Op)(env:Env)(O:St)(Q:AV->St->Prop):Prop :=
 match op with
 | .call { callee:=.value f,args:=args,argTypes:=_ }=>match ev G env f with
  | .fn g first cap=>qe P G d g (kR first (VS G env args.toList) cap) O Q
  | _=>False
 | op=>vcX (qeK d (qck (Dof P) G mu env O op)) (sem (Dof P) G env O op) Q
section
variable {P:Program}{G:Nat->AV}{N:Nat}{env:Env}{O O':St}{w0:World}{ro0:Nat->Nat->Option Value}{K:Kn}{a:Act}{w:World}{ops:Array Oper}{o:Oper}{v:AV}{mu:Bool}
theorem qj1 (hw:WRel G w0 ro0 K O w)(he:ERel K N env a)(hd:∀ d,o.dst=some d->d<N){R:AV->St->Prop}(h:jY P G mu false o.op env O R){next:Act->World->Prop}{Q:Exit->Act->World->Prop}
 (hn:∀ v O' K' a' w',R v O'->K.le K'->WRel G w0 ro0 K' O' w'->ERel K' N (upd env o.dst v) a'->a'.defers=a.defers->next a' w'):o.wp P a w next Q:=by
 have did:∀ v O',R v O'->Did P G w0 ro0 K w (execOp a.eval o) v O'->o.wp P a w next Q:=by
  intro v O' hr hdid;obtain⟨v',w',K',hrun,h1,h2,h3⟩:=hdid;unfold Oper.wp;rcases hrun with hrun|⟨hrun,rfl⟩
  . rw[hrun];exact hn v O' K' _ w' hr h1 h2 ((he.mono h1).put hd h3) Act.put_defers'
  . rw[hrun];exact hn v O' K' _ w' hr h1 h2 ((he.mono h1).put hd h3) Act.put_defers'
 unfold jY at h;split at h
 . rename_i f args ts hop;split at h
   . rename_i g first cap hf
     have hac:qq P G g (kR first (VS G env args.toList) cap) O R:=h;obtain⟨vs,hr,hvs⟩:=WG hw he hop hf hac.1;unfold Oper.wp;rw[hr,Oper.upon_enter];refine (hac.2 w0 ro0 K w vs hw hvs).mono ?_;rintro e w' ⟨v',v,O',K',rfl,h1,h2,h3,h4⟩;exact hn v O' K' _ w' h4 h1 h2 ((he.mono h1).put hd h3) Act.put_defers'
   . exact h.elim
 . simp only[vcX,qeK]at h;split at h
   . rename_i l hl;obtain⟨v,O',h1,h2⟩:=VA hw he o hl;exact did v O' (h v O' h1) h2
   . split at h
     . rename_i v O' hs;exact did v O' h (KC hw he o hs)
     . exact h.elim
theorem qq.imp {f:FuncId}{args:List AV}{Q Q':AV->St->Prop}(h:qq P G f args O Q)(hq:∀ v O,Q v O->Q' v O):qq P G f args O Q' :=
 ⟨h.1,fun w0 ro0 K w vs hw hvs=>(h.2 w0 ro0 K w vs hw hvs).mono fun e w' ⟨v',v,O',K',h1,h2,h3,h4,h5⟩=>⟨v',v,O',K',h1,h2,h3,h4,hq _ _ h5⟩⟩
theorem vcX.imp {l:Option (List (AV×St))}{s:Option (AV×St)}{R R':AV->St->Prop}(h:vcX l s R)(hr:∀ v O,R v O->R' v O):vcX l s R':=by
 unfold vcX at h⊢;split at h
 . exact fun v O' hm=>hr _ _ (h v O' hm)
 . split at h
   . exact hr _ _ h
   . exact h.elim
theorem jY.plain {d:Bool}{op:Op}(hop:¬ ∃ f args ts,op=.call { callee:=.value f,args:=args,argTypes:=ts })(R:AV->St->Prop) :
 jY P G mu d op env O R=vcX (qeK d (qck (Dof P) G mu env O op)) (sem (Dof P) G env O op) R:=by
 unfold jY;split
 . exact absurd ⟨_,_,_,rfl⟩ hop
 . rfl
theorem jY.imp {d:Bool}{op:Op}{R R':AV->St->Prop}(h:jY P G mu d op env O R)(hr:∀ v O,R v O->R' v O):jY P G mu d op env O R':=by
 by_cases hop:∃ f args ts,op=.call { callee:=.value f,args:=args,argTypes:=ts }
 . obtain⟨f,args,ts,rfl⟩:=hop;simp only[jY]at h ⊢;split at h
   . rename_i g first cap hf
     cases d
     . exact qq.imp h hr
     . obtain⟨r,h1,h2⟩:=h;exact⟨r,h1,hr _ _ h2⟩
   . exact h.elim
 . rw[jY.plain hop]at h ⊢;exact h.imp hr
theorem qnb:∀ {a b:AV},Leq a b->b.atom=true->a.atom=true:=by
 intro a b h hb;cases b<;>simp only[AV.atom]at hb<;>first | (cases hb;done) | skip
 all_goals (cases a<;>simp only[Leq]at h<;>first | (cases h;done) | rfl | (exact h.elim) | skip)
theorem qcQ:∀ {l m:List AV},zt l m->m.all AV.atom=true->l.all AV.atom=true
 | [],[],_,_=>rfl
 | a::r,b::s,h,hm=>by
  simp only[zt,qsd,qq1]at h hm ⊢;exact⟨qnb h.1 hm.1,qcQ h.2 hm.2⟩
 | [],_::_,h,_=>by simp[zt]at h
 | _::_,[],h,_=>by simp[zt]at h
theorem zt.of_map {f g:AV->AV}(h:∀ a,Leq (f a) (g a)):∀ l:List AV,zt (l.map f) (l.map g)
 | []=>by simp[zt]
 | a::r=>by simp only[qqZ,zt];exact⟨h a,zt.of_map h r⟩
theorem Kg.of_map {f g:AV->AV}(h:∀ a,Leq (f a) (g a)):∀ l:List AV,Kg (l.map f) (l.map g)
 | []=>by simp[Kg]
 | a::r=>by simp only[qqZ,Kg];exact⟨h a,Kg.of_map h r⟩
theorem yL.of_map {f g:AV->AV}(h:∀ a,Leq (f a) (g a)):∀ l:List (List AV),(l.map (·.map g)).all (·.all AV.atom)=true->yL (l.map (·.map f)) (l.map (·.map g))
 | [],_=>by simp[yL]
 | a::r,ha=>by
  simp only[qqZ,qsd,qq1,yL]at ha ⊢;exact⟨.inr ⟨zt.of_map h a,ha.1⟩,yL.of_map h r ha.2⟩
theorem KL {f g:AV->AV}(h:∀ a,Leq (f a) (g a)):∀ l:List (List AV),(l.map (·.map g)).all (·.all AV.atom)=true->(l.map (·.map f)).all (·.all AV.atom)=true
 | [],_=>rfl
 | a::r,ha=>by
  simp only[qqZ,qsd,qq1]at ha ⊢;exact⟨qcQ (zt.of_map h a) ha.1,KL h r ha.2⟩
theorem Leq.any (a:AV):Leq a .any:=by cases a<;>simp[Leq]
theorem qgF {H H':List Blk}(hH:∀ (b:Nat) (x:Blk),H[b]?=some x->H'[b]?=some x):∀ (n:Nat) (a:AV),Leq (frz H' n a) (frz H n a)
 | 0,a=>by simp only[frz];exact Leq.refl _
 | n+1,a=>by
  have ih:=qgF hH n;by_cases hn:zg a=true
  . simp only[frz,hn,if_true];exact Leq.refl _
  . cases a with
    | ptr b off=>
     simp only[frz,hn,qrq,if_false]
     cases hb:H[b]? with
     | none=>exact Leq.any _
     | some x=>
      rw[hH b x hb]
      cases x with
      | cells c=>simp only[Leq];exact Kg.of_map ih _
      | _=>exact Leq.any _
    | ms b off len sz=>
     simp only[frz,hn,qrq,if_false]
     cases hb:H[b]? with
     | none=>exact Leq.any _
     | some x=>
      rw[hH b x hb]
      cases x with
      | cells c=>
       simp only;by_cases hc:off+len*sz<=c.length/\((vE sz len (c.drop off)).map (·.map (frz H n))).all (·.all AV.atom)=true
       . rw[if_pos hc,if_pos ⟨hc.1,KL ih _ hc.2⟩];simp only[Leq];exact .inr ⟨trivial,yL.of_map ih _ hc.2,.inl trivial⟩
       . rw[if_neg hc];exact Leq.any _
      | _=>exact Leq.any _
    | rptr c=>simp only[frz,hn,qrq,if_false,Leq];exact Kg.of_map ih _
    | sl sz rows tok=>
     simp only[frz,hn,qrq,if_false];by_cases hc:(rows.map (·.map (frz H n))).all (·.all AV.atom)=true
     . rw[if_pos hc,if_pos (KL ih _ hc)];simp only[Leq];exact .inr ⟨trivial,yL.of_map ih _ hc,.inl trivial⟩
     . rw[if_neg hc];exact Leq.any _
    | fn f x y=>simp only[frz,hn,qrq,if_false,Leq];exact⟨trivial,zt.of_map ih _,zt.of_map ih _⟩
    | agg c=>simp only[frz,hn,qrq,if_false,Leq];exact zt.of_map ih _
    | tup c=>simp only[frz,hn,qrq,if_false,Leq];exact zt.of_map ih _
    | _=>simp only[frz,hn,qrq,if_false];exact Leq.refl _
theorem Pure.less' {f:FuncId}{args args':List AV}{r:AV}(h:Pure P G f args' r)(ha:zt args args'):Pure P G f args r :=
 ⟨h.1,fun w0 ro vs hg hro hvs=>h.2 w0 ro vs hg hro (zt.rel _ _ ha hvs)⟩
theorem Zw.mono {g:FuncId}{args:List AV}{r:AV}{O τ:St}(h:Zw P G g args O r)(hH:∀ (b:Nat) (x:Blk),O.H[b]?=some x->τ.H[b]?=some x):Zw P G g args τ r:=by
 rcases h with h|⟨h1,h2⟩
 . exact .inl h
 . exact .inr ⟨h1,h2.less' (zt.of_map (qgF hH 8) args)⟩
end
end
section
def ZF:Op->Nat
 | .move _ | .assign _ | .pick .. | .nilCheck _ | .binOp .. | .unOp .. | .convert .. | .fieldAddr .. | .field .. | .indexAddr .. | .index .. | .extract .. | .slice .. | .makeFunc .. | .build .. | .buildSlice .. =>0
 | .load .. | .lookup .. =>1
 | .call { callee:=.builtin b,.. }=>match b with | .len=>1 | .min=>0 | .max=>0 | _=>2
 | .call { callee:=.value _,.. }=>1
 | _=>2
section
variable {P:Program}{G:Nat->AV}{N:Nat}{env env':Env}{O O':St}{ops:Array Oper}{o:Oper}{v:AV}
theorem cls0 (h:ZF o.op=0)(hs:wZ P G ops o env O v O'):O'=O/\∀ τ,wZ P G ops o env τ v τ:=by
 rcases hs with ⟨h1,rfl,rfl⟩|⟨h1,h2⟩
 . exact⟨rfl,fun τ=>.inl ⟨h1,rfl,rfl⟩⟩
 . rcases h2 with h2|⟨f,args,ts,g,first,cap,ho,_⟩
   . have key:O'=O/\∀ τ,sem (Dof P) G env τ o.op=some (v,τ):=by
      obtain⟨dst,op,ty,pos,after,guard⟩:=o;simp only at h h2 ⊢;cases op<;>simp only[ZF]at h<;>try (cases h;done)
      case call c=>
       obtain⟨callee,args,ts⟩:=c
       cases callee with
       | builtin b=>
        simp only at h;split at h
        . cases h
        . simp only[sem,zM]at h2 ⊢;split at h2<;>first
           | (obtain⟨u,hu,he⟩:=qq0.1 h2
              simp only[Prod.mk.injEq]at he;obtain⟨rfl,rfl⟩:=he;exact⟨rfl,fun τ=>by simp_all⟩)
           | (rename_i hb _ _;cases hb;done)
           | (cases h2;done)
           | skip
          all_goals simp_all
        . simp only[sem,zM]at h2 ⊢;split at h2<;>first
           | (obtain⟨u,hu,he⟩:=qq0.1 h2
              simp only[Prod.mk.injEq]at he;obtain⟨rfl,rfl⟩:=he;exact⟨rfl,fun τ=>by simp_all⟩)
           | (rename_i hb _ _;cases hb;done)
           | (cases h2;done)
           | skip
          all_goals simp_all
        . cases h
       | value f=>simp at h
       | invoke r m=>simp at h
      case makeFunc fn a b=>
       cases fn<;>simp only[sem]at h2 ⊢<;>first | (cases h2;done) | skip
       simp only[Option.some.injEq,Prod.mk.injEq]at h2;obtain⟨rfl,rfl⟩:=h2;exact⟨rfl,fun τ=>rfl⟩
      case pick c a b=>
       simp only[sem]at h2 ⊢;split at h2
       . simp only[Option.some.injEq,Prod.mk.injEq]at h2;obtain⟨rfl,rfl⟩:=h2;exact⟨rfl,fun τ=>by simp_all⟩
       . cases h2
      case nilCheck x=>
       simp only[sem]at h2 ⊢;split at h2
       . simp only[Option.some.injEq,Prod.mk.injEq]at h2;obtain⟨rfl,rfl⟩:=h2;exact⟨rfl,fun τ=>by simp_all⟩
       . simp only[Option.some.injEq,Prod.mk.injEq]at h2;obtain⟨rfl,rfl⟩:=h2;exact⟨rfl,fun τ=>by simp_all⟩
       . cases h2
      case slice t x lo hi mx=>
       simp only[sem]at h2 ⊢;split at h2
       . split at h2
         . obtain⟨u,hu,he⟩:=qq0.1 h2;simp only[Prod.mk.injEq]at he;obtain⟨rfl,rfl⟩:=he;exact⟨rfl,fun τ=>by simp_all⟩
         . split at h2
           . split at h2
             . obtain⟨u,hu,he⟩:=qq0.1 h2;simp only[Prod.mk.injEq]at he;obtain⟨rfl,rfl⟩:=he;exact⟨rfl,fun τ=>by simp_all⟩
             . cases h2
           . split at h2
             . obtain⟨u,hu,he⟩:=qq0.1 h2;simp only[Prod.mk.injEq]at he;obtain⟨rfl,rfl⟩:=he;exact⟨rfl,fun τ=>by simp_all⟩
             . cases h2
           . cases h2
         . cases h2
       . cases h2
      all_goals
       simp only[sem]at h2 ⊢
       first
        | (obtain⟨u,hu,he⟩:=qq0.1 h2
           simp only[Prod.mk.injEq]at he;obtain⟨rfl,rfl⟩:=he;exact⟨rfl,fun τ=>by rw[hu];rfl⟩)
        | (simp only[Option.some.injEq,Prod.mk.injEq]at h2
           obtain⟨rfl,rfl⟩:=h2;exact⟨rfl,fun τ=>rfl⟩)
     exact⟨key.1,fun τ=>.inr ⟨h1,.inl (key.2 τ)⟩⟩
   . rw[ho]at h;simp[ZF]at h
theorem cls1 (h:ZF o.op=1)(hs:wZ P G ops o env O v O'):O'=O:=by
 rcases hs with ⟨h1,rfl,rfl⟩|⟨h1,h2⟩
 . rfl
 . rcases h2 with h2|⟨f,args,ts,g,first,cap,ho,_,_,e⟩
   . obtain⟨dst,op,ty,pos,after,guard⟩:=o;simp only at h h2;cases op<;>simp only[ZF]at h<;>try (cases h;done)
     case load t a=>
      simp only[sem]at h2;obtain⟨u,hu,he⟩:=qq0.1 h2;simp only[Prod.mk.injEq]at he;exact he.2.symm
     case lookup t a i ok=>
      simp only[sem]at h2;obtain⟨u,hu,he⟩:=qq0.1 h2;simp only[Prod.mk.injEq]at he;exact he.2.symm
     case call c=>
      obtain⟨callee,args,ts⟩:=c
      cases callee with
      | builtin b=>
       simp only[sem]at h2;simp only at h;unfold zM at h2;split at h2
       . obtain⟨u,hu,he⟩:=qq0.1 h2;simp only[Prod.mk.injEq]at he;exact he.2.symm
       . simp at h
       . simp at h
       . simp at h
       . cases h2
      | value f=>simp[sem]at h2
      | invoke r m=>simp[sem]at h2
   . exact e
theorem qoC {t:Option Nat}{u:AV}{x:Operand}(h:∀ d,t=some d->x≠.tmp d):ev G (upd env t u) x=ev G env x:=by
 cases t with
 | none=>rfl
 | some d=>
  cases x with
  | tmp n=>
   have:¬ n=d:=fun e=>h d rfl (by rw[e])
   simp[ev,upd,this]
  | _=>rfl
theorem vM {l:List Operand}(h:∀ x∈l,ev G env x=ev G env' x):VS G env l=VS G env' l:=qr7 h
theorem qcj (D:Nat->Option TI){op:Op}(h:∀ x∈op.operands,ev G env x=ev G env' x):sem D G env O op=sem D G env' O op:=by
 have pairs:∀ ps:Array (Nat×Operand),(∀ x∈ps.map (·.2),ev G env x=ev G env' x)->(ps.toList.map fun p=>(p.1,ev G env p.2))=(ps.toList.map fun p=>(p.1,ev G env' p.2)):=fun ps hp=>
  qr7 fun p hm=>by
   rw[hp p.2 (Array.mem_map.2 ⟨p,by simpa using hm,rfl⟩)]
 have opt:∀ m:Option Operand,(∀ x,m=some x->ev G env x=ev G env' x)->m.map (ev G env)=m.map (ev G env'):=by
  intro m hm
  cases m with
  | none=>rfl
  | some x=>simp[hm x rfl]
 cases op<;>simp only[Op.operands]at h<;>simp only[sem]
 case build t ps=>rw[pairs ps fun x hx=>h x (by simpa using hx)]
 case buildSlice t n ps=>rw[pairs ps fun x hx=>h x (by simpa using hx)]
 case makeFunc fn a b=>
  cases fn<;>simp only;rw[vM (env:=env) (env':=env') (l:=a.toList) (fun x hx=>h x (by simp at hx;simp[hx])),vM (env:=env) (env':=env') (l:=b.toList) (fun x hx=>h x (by simp at hx;simp[hx]))]
 case call c=>
  obtain⟨callee,args,ts⟩:=c;cases callee<;>simp only;rw[vM (env:=env) (env':=env') (l:=args.toList) (fun x hx=>h x (by simp at hx;simp[Call.operands,hx]))]
 case slice t x lo hi mx=>
  rw[h x (by simp),opt lo (fun y e=>h y (by simp[e])),opt hi (fun y e=>h y (by simp[e])),opt mx (fun y e=>h y (by simp[e]))]
 case pick c a b=>rw[h c (by simp),h a (by simp),h b (by simp)]
 case store t a b=>rw[h a (by simp),h b (by simp)]
 case binOp op t a b u=>rw[h a (by simp),h b (by simp)]
 case makeSlice t a b=>rw[h a (by simp),h b (by simp)]
 case indexAddr t a b=>rw[h a (by simp),h b (by simp)]
 case index t a b=>rw[h a (by simp),h b (by simp)]
 case lookup t a b ok=>rw[h a (by simp),h b (by simp)]
 case mapUpdate t a b c=>rw[h a (by simp),h b (by simp),h c (by simp)]
 case makeMap t r=>cases r<;>rfl
 case next it b=>cases b<;>simp only[h it (by simp)]
 all_goals first
  | (rw[h _ (by simp)];done)
  | rfl
theorem yS {t:Option Nat}{u:AV}(h:∀ d,t=some d->d∉o.looksAt ops):wZ P G ops o (upd env t u) O v O'↔wZ P G ops o env O v O':=by
 have hop:∀ x∈o.op.operands,ev G (upd env t u) x=ev G env x:=fun x hx=>qoC fun d hd hxd=>h d hd (by
  subst hxd;exact qrD _ (List.mem_filterMap.2 ⟨.tmp d,by simpa using hx,rfl⟩))
 have hw:jA ops (upd env t u) o=jA ops env o:=by
  unfold jA
  cases hg:o.guard with
  | none=>rfl
  | some jb=>
   obtain⟨j,b⟩:=jb
   cases hj:(ops[j]?).bind (·.dst) with
   | none=>simp[hj]
   | some s=>
    simp only[hj];have:upd env t u s=env s:=by
     cases t with
     | none=>rfl
     | some d=>
      have:¬ s=d:=fun e=>h d rfl (by subst e;simp[Oper.looksAt,hg,hj])
      simp[upd,this]
    rw[this]
 have hsem:=qcj (G:=G) (O:=O) (Dof P) (op:=o.op) (env:=upd env t u) (env':=env) hop;have hpure:∀ f args ts,o.op=.call { callee:=.value f,args:=args,argTypes:=ts }->ev G (upd env t u) f=ev G env f/\VS G (upd env t u) args.toList=VS G env args.toList:=by
  intro f args ts ho;rw[ho]at hop;simp only[Op.operands,Call.operands]at hop;exact⟨hop f (by simp),vM fun x hx=>hop x (by simp at hx;simp[hx])⟩
 unfold wZ OpA;rw[hw,hsem];constructor
 . rintro (h1|⟨h1,h2|⟨f,args,ts,g,first,cap,ho,h3,h4⟩⟩)
   . exact .inl h1
   . exact .inr ⟨h1,.inl h2⟩
   . obtain⟨e1,e2⟩:=hpure f args ts ho;rw[e1]at h3;rw[e2]at h4;exact .inr ⟨h1,.inr ⟨f,args,ts,g,first,cap,ho,h3,h4⟩⟩
 . rintro (h1|⟨h1,h2|⟨f,args,ts,g,first,cap,ho,h3,h4⟩⟩)
   . exact .inl h1
   . exact .inr ⟨h1,.inl h2⟩
   . obtain⟨e1,e2⟩:=hpure f args ts ho;rw[<- e1]at h3;rw[<- e2]at h4;exact .inr ⟨h1,.inr ⟨f,args,ts,g,first,cap,ho,h3,h4⟩⟩
theorem qfP {s t:Option Nat}{u v:AV}(h:∀ d,s=some d->t≠some d):upd (upd env s u) t v=upd (upd env t v) s u:=by
 cases s with
 | none=>rfl
 | some d=>
  cases t with
  | none=>rfl
  | some e=>
   have hne:e≠d:=fun x=>h d rfl (by rw[x])
   funext i;simp only[upd];by_cases h1:i=e
   . subst h1;simp[hne]
   . simp[h1]
def zR (mu:Bool)(ac:List Nat)(k:Nat)(op:Op):Nat :=
 match op with
 | .alloc _=>2
 | .box .. =>2
 | .makeMap _ none=>2
 | .call { callee:=.builtin .append,.. }=>if mu then 9 else 3
 | .call { callee:=.value _,.. }=>if ac.contains k then 9 else 1
 | op=>match ZF op with | 0=>0 | 1=>1 | _=>9
def free2 (x y:Nat):Bool:=x==0||y==0||(x==1&&(y==1||y==2||y==3))||(x==3&&(y==1||y==2))||(x==2&&y==3)
def qda (ops:Array Oper)(x y:Oper)(cx cy:Nat):Bool:=x.apart ops y&&free2 cx cy
theorem qh0 {D:Nat->Option TI}{O τ:St}{t:Nat}{a u:AV}(hH:∀ (b:Nat) (x:Blk),O.H[b]?=some x->τ.H[b]?=some x)(h:Vk D O t a=some u):Vk D τ t a=some u:=by
 unfold Vk at h⊢
 cases hD:D t with
 | none=>simp[hD]at h
 | some i=>
  cases a<;>simp only[hD]at h ⊢<;>first | exact h | (cases h;done) | skip
  rename_i b off
  cases hb:O.H[b]? with
  | none=>simp[hb]at h
  | some x=>rw[hH _ _ hb];rw[hb]at h;exact h
theorem qcN {D:Nat->Option TI}{O τ:St}{t:Nat}{m k u:AV}{ok:Bool}(hH:∀ (b:Nat) (x:Blk),O.H[b]?=some x->τ.H[b]?=some x)(h:yj D O t m k ok=some u):yj D τ t m k ok=some u:=by
 unfold yj at h⊢
 cases hD:D t with
 | none=>simp[hD]at h
 | some i=>
  simp only[hD]at h ⊢;cases hd:i.d<;>simp only[hd]at h ⊢<;>first | (cases h;done) | skip
  rename_i kt et;by_cases hk:jc D kt k=true
  . rw[if_pos hk]at h ⊢;cases m<;>simp only at h⊢<;>first | exact h | (cases h;done) | skip
    rename_i b
    cases hb:O.H[b]? with
    | none=>simp[hb]at h
    | some x=>rw[hH _ _ hb];rw[hb]at h;exact h
  . rw[if_neg hk]at h;cases h
theorem qkn {D:Nat->Option TI}{O τ:St}{t:Nat}{x u:AV}(hH:∀ (b:Nat) (x:Blk),O.H[b]?=some x->τ.H[b]?=some x)(h:kw D O t x=some u):kw D τ t x=some u:=by
 unfold kw at h⊢
 cases hD:D t with
 | none=>simp[hD]at h
 | some i=>
  simp only[hD]at h ⊢;cases x<;>cases hd:i.d<;>simp only[hd]at h ⊢<;>first | exact h | (cases h;done) | skip
  rename_i b _ _
  cases hb:O.H[b]? with
  | none=>simp[hb]at h
  | some x=>rw[hH _ _ hb];rw[hb]at h;exact h
theorem appB {D:Nat->Option TI}{O:St}{ts:List Nat}{vs:List AV}{v:AV}{O':St}(h:zM D O .append ts vs=some (v,O')):∃ t s x,ts=[t,t]/\vs=[s,x]/\qt D O t s x=some (v,O'):=by
 match ts,vs,h with
 | [t,u],[s,x],h=>
  simp only[zM]at h;split at h
  . rename_i hut;subst hut;exact⟨_,s,x,rfl,rfl,h⟩
  . cases h
 | [],_,h=>simp[zM]at h
 | [_],_,h=>simp[zM]at h
 | _::_::_::_,_,h=>simp[zM]at h
 | [_,_],[],h=>simp[zM]at h
 | [_,_],[_],h=>simp[zM]at h
 | [_,_],_::_::_::_,h=>simp[zM]at h
theorem lenB {D:Nat->Option TI}{O:St}{ts:List Nat}{vs:List AV}{v:AV}{O':St}(h:zM D O .len ts vs=some (v,O')):∃ t x,ts=[t]/\vs=[x]/\kw D O t x=some v:=by
 cases ts with
 | nil=>simp[zM]at h
 | cons t r=>
  cases r with
  | cons _ _=>simp[zM]at h
  | nil=>
   cases vs with
   | nil=>simp[zM]at h
   | cons x s=>
    cases s with
    | cons _ _=>simp[zM]at h
    | nil=>
     simp only[zM]at h;obtain⟨u,hu,he⟩:=qq0.1 h;simp only[Prod.mk.injEq]at he;obtain⟨rfl,_⟩:=he;exact⟨t,x,rfl,rfl,hu⟩
theorem KO (h:ZF o.op=1)(hs:wZ P G ops o env O v O'):O'=O/\∀ τ:St,(∀ (b:Nat) (x:Blk),O.H[b]?=some x->τ.H[b]?=some x)->wZ P G ops o env τ v τ:=by
 have e:=cls1 h hs;refine⟨e,fun τ hH=>?_⟩;subst e;rcases hs with ⟨h1,rfl,_⟩|⟨h1,h2⟩
 . exact .inl ⟨h1,rfl,rfl⟩
 . refine .inr ⟨h1,?_⟩;rcases h2 with h2|⟨f,args,ts,g,first,cap,ho,hf,hp,_⟩
   . left;obtain⟨dst,op,type,pos,after,guard⟩:=o;simp only at h h2 ⊢;cases op<;>simp only[ZF]at h<;>try (cases h;done)
     case load t a=>
      simp only[sem]at h2 ⊢;obtain⟨u,hu,he⟩:=qq0.1 h2;simp only[Prod.mk.injEq]at he;obtain⟨rfl,_⟩:=he;rw[qh0 hH hu];rfl
     case lookup t a i ok=>
      simp only[sem]at h2 ⊢;obtain⟨u,hu,he⟩:=qq0.1 h2;simp only[Prod.mk.injEq]at he;obtain⟨rfl,_⟩:=he;rw[qcN hH hu];rfl
     case call c=>
      obtain⟨callee,args,ts⟩:=c
      cases callee with
      | builtin b=>
       simp only at h;simp only[sem]at h2 ⊢;cases b<;>simp only at h<;>try (cases h;done)
       obtain⟨t,x,e1,e2,hu⟩:=lenB h2;rw[e1,e2];simp only[zM,qkn hH hu];rfl
      | value f=>simp[sem]at h2
      | invoke r m=>simp[sem]at h2
   . exact .inr ⟨f,args,ts,g,first,cap,ho,hf,hp.mono hH,rfl⟩
theorem qbc (h:(∃ e,o.op=.alloc e)\/(∃ e x,o.op=.box e x)\/(∃ t,o.op=.makeMap t none))(hs:wZ P G ops o env O v O') :
 (∀ (b:Nat) (x:Blk),O.H[b]?=some x->O'.H[b]?=some x)/\O'.T=O.T/\∀ T,wZ P G ops o env ⟨O.H,T⟩ v ⟨O'.H,T⟩:=by
 have push:∀ (b:Blk) (i:Nat) (x:Blk),O.H[i]?=some x->(O.H++[b])[i]?=some x:=fun b i x hi=>by
  rw[qrc (qqV.1 hi).1];exact hi
 rcases hs with ⟨h1,rfl,rfl⟩|⟨h1,h2⟩
 . exact⟨fun _ _ e=>e,rfl,fun T=>.inl ⟨h1,rfl,rfl⟩⟩
 . rcases h2 with h2|⟨f,args,ts,g,first,cap,ho,hf,hp,_⟩
   . obtain⟨dst,op,type,pos,after,guard⟩:=o;simp only at h h2;rcases h with ⟨e,rfl⟩|⟨e,x,rfl⟩|⟨t,rfl⟩
     . simp only[sem]at h2;split at h2
       . rename_i i hD;split at h2
         . rename_i hz;simp only[Option.some.injEq,Prod.mk.injEq]at h2;obtain⟨rfl,rfl⟩:=h2;exact⟨push _,rfl,fun T=>.inr ⟨h1,.inl (by simp[sem,hD,hz,St.push])⟩⟩
         . cases h2
       . cases h2
     . simp only[sem]at h2;obtain⟨c,hc,he⟩:=qq0.1 h2;simp only[Prod.mk.injEq]at he;obtain⟨rfl,rfl⟩:=he;exact⟨push _,rfl,fun T=>.inr ⟨h1,.inl (by simp[sem,hc,St.push])⟩⟩
     . simp only[sem,Option.some.injEq,Prod.mk.injEq]at h2;obtain⟨rfl,rfl⟩:=h2;exact⟨push _,rfl,fun T=>.inr ⟨h1,.inl (by simp[sem,St.push])⟩⟩
   . rw[ho]at h;rcases h with ⟨e,h⟩|⟨e,x,h⟩|⟨t,h⟩<;>cases h
theorem app_step {args:Array Operand}{ts:Array TypeId}(h:o.op=.call { callee:=.builtin .append,args:=args,argTypes:=ts })(hs:wZ P G ops o env O v O') :
 O'.H=O.H/\∀ H,wZ P G ops o env ⟨H,O.T⟩ v ⟨H,O'.T⟩:=by
 rcases hs with ⟨h1,rfl,rfl⟩|⟨h1,h2⟩
 . exact⟨rfl,fun H=>.inl ⟨h1,rfl,rfl⟩⟩
 . rcases h2 with h2|⟨f,args',ts',g,first,cap,ho,hf,hp,_⟩
   . obtain⟨dst,op,type,pos,after,guard⟩:=o;simp only at h;subst h;simp only[sem]at h2;have key:O'.H=O.H/\∀ H,zM (Dof P) ⟨H,O.T⟩ .append ts.toList (VS G env args.toList)=some (v,⟨H,O'.T⟩):=by
      obtain⟨t,s,x,e1,e2,h3⟩:=appB h2;rw[e1,e2];simp only[zM,if_true];clear h2 e1 e2 h1;unfold qt at h3 ⊢;split at h3
      case h_2=>cases h3
      rename_i i sz rows tok sz2 rows2 hD hr
      try simp only[]
      split at h3
      case h_2=>cases h3
      rename_i e hd;split at h3
      case h_2=>cases h3
      rename_i j hj
      try simp only[hj]
      split at h3
      case isFalse=>cases h3
      rename_i hc
      try simp only[if_pos hc]
      split at h3
      . rename_i hn;simp only[Option.some.injEq,Prod.mk.injEq]at h3;obtain⟨rfl,rfl⟩:=h3;exact⟨rfl,fun H=>by rw[if_pos hn]⟩
      . rename_i hn;split at h3
        . cases h3
        . simp only[Option.some.injEq,Prod.mk.injEq]at h3;obtain⟨rfl,rfl⟩:=h3;exact⟨rfl,fun H=>by rw[if_neg hn]⟩
        . simp only[Option.some.injEq,Prod.mk.injEq]at h3;obtain⟨rfl,rfl⟩:=h3;exact⟨rfl,fun H=>by rw[if_neg hn]⟩
        . split at h3
          . rename_i hk;simp only[Option.some.injEq,Prod.mk.injEq]at h3;obtain⟨rfl,rfl⟩:=h3;exact⟨rfl,fun H=>by rw[if_neg hn,if_pos hk]⟩
          . cases h3
     exact⟨key.1,fun H=>.inr ⟨h1,.inl (by simp only[sem];exact key.2 H)⟩⟩
   . rw[h]at ho;cases ho
theorem qle {mu:Bool}{ac:List Nat}{k:Nat}{op:Op} :
 (zR mu ac k op=0->ZF op=0)/\(zR mu ac k op=1->ZF op=1)/\(zR mu ac k op=2->(∃ e,op=.alloc e)\/(∃ e x,op=.box e x)\/(∃ t,op=.makeMap t none)) /\
   (zR mu ac k op=3->∃ args ts,op=.call { callee:=.builtin .append,args:=args,argTypes:=ts }):=by
 unfold zR;split
 . simp
 . simp
 . simp
 . cases mu<;>simp
 . split<;>simp[ZF]
 . rename_i op h1 h2 h3 h4 h5;split
   . rename_i h;simp[h]
   . rename_i h;simp[h]
   . simp
theorem swapB {oi oj:Oper}{vi vj:AV}{O1 O2:St}{mu:Bool}{ac:List Nat}{i j:Nat}(hf:qda ops oi oj (zR mu ac i oi.op) (zR mu ac j oj.op)=true)(hi:wZ P G ops oi env O vi O1)(hj:wZ P G ops oj (upd env oi.dst vi) O1 vj O2) :
 ∃ τ,wZ P G ops oj env O vj τ/\wZ P G ops oi (upd env oj.dst vj) τ vi O2/\upd (upd env oj.dst vj) oi.dst vi=upd (upd env oi.dst vi) oj.dst vj:=by
 simp only[qda,free2,qq1,qrV,beq_iff_eq]at hf;obtain⟨ha,hc⟩:=hf;obtain⟨a1,a2,a3⟩:=Oper.apart_spec ha;have hj':wZ P G ops oj env O1 vj O2:=(yS a1).1 hj;have hcomm:upd (upd env oj.dst vj) oi.dst vi=upd (upd env oi.dst vi) oj.dst vj:=(qfP a2).symm;obtain⟨ci0,ci1,ci2,ci3⟩:=qle (mu:=mu) (ac:=ac) (k:=i) (op:=oi.op);obtain⟨cj0,cj1,cj2,cj3⟩:=qle (mu:=mu) (ac:=ac) (k:=j) (op:=oj.op);rcases hc with (((hc|hc)|⟨hc,hc2⟩)|⟨hc,hc2⟩)|⟨hc,hc2⟩
 . obtain⟨rfl,hall⟩:=cls0 (ci0 hc) hi;exact⟨O2,hj',(yS a3).2 (hall O2),hcomm⟩
 . obtain⟨rfl,hall⟩:=cls0 (cj0 hc) hj';exact⟨O,hall O,(yS a3).2 hi,hcomm⟩
 . obtain⟨rfl,hall⟩:=KO (ci1 hc) hi;have hH:∀ (b:Nat) (x:Blk),O1.H[b]?=some x->O2.H[b]?=some x:=by
    rcases hc2 with (hc2|hc2)|hc2
    . obtain⟨rfl,_⟩:=KO (cj1 hc2) hj';exact fun _ _ e=>e
    . exact (qbc (cj2 hc2) hj').1
    . obtain⟨args,ts,ho⟩:=cj3 hc2;rw[(app_step ho hj').1];exact fun _ _ e=>e
   exact⟨O2,hj',(yS a3).2 (hall O2 hH),hcomm⟩
 . obtain⟨args,ts,ho⟩:=ci3 hc;obtain⟨e1,hall⟩:=app_step ho hi;obtain⟨H,T⟩:=O;obtain⟨H1,T1⟩:=O1;simp only at e1 hall;subst e1;rcases hc2 with hc2|hc2
   . obtain⟨rfl,hallj⟩:=KO (cj1 hc2) hj';exact⟨⟨H1,T⟩,hallj _ (fun _ _ e=>e),(yS a3).2 (hall H1),hcomm⟩
   . obtain⟨_,e2,hallj⟩:=qbc (cj2 hc2) hj';obtain⟨H2,T2⟩:=O2;simp only at e2 hallj;subst e2;exact⟨⟨H2,T⟩,hallj T,(yS a3).2 (hall H2),hcomm⟩
 . obtain⟨args,ts,ho⟩:=cj3 hc2;obtain⟨e1,hallj⟩:=app_step ho hj';obtain⟨_,e2,hall⟩:=qbc (ci2 hc) hi;obtain⟨H,T⟩:=O;obtain⟨H1,T1⟩:=O1;obtain⟨H2,T2⟩:=O2;simp only at e1 e2 hall hallj;subst e1;subst e2;exact⟨⟨H,T2⟩,hallj H,(yS a3).2 (hall T2),hcomm⟩
def YW (P:Program)(G:Nat->AV)(ops:Array Oper)(mu:Bool)(ac:List Nat)(R:Env->St->Prop):Nat->Array Bool->Env->St->Prop
 | 0,listed,env,O=>Region.ready .any ops listed=[]/\R env O
 | fuel+1,listed,env,O=>(Region.ready .any ops listed=[]->R env O) /\
  ∀ i∈Region.ready .any ops listed,∃ o,ops[i]?=some o /\
   ((∃ v O',wZ P G ops o env O v O'/\YW P G ops mu ac R fuel (listed.setIfInBounds i true) (upd env o.dst v) O') \/
    (zR mu ac i o.op=9/\jA ops env o=some true/\jY P G mu false o.op env O (fun v O'=>YW P G ops mu ac R fuel (listed.setIfInBounds i true) (upd env o.dst v) O')))
def qin (ops:Array Oper)(listed:Array Bool)(i:Nat)(dp:List Nat):Bool :=
 dp.all fun j=>!listed.getD j true&&(match ops[j]? with
  | some oj=>oj.after.any fun e=>Region.binds .any e&&(e.on==i||dp.contains e.on)
  | none=>true)
theorem qj3 {listed:Array Bool}{i j:Nat}{dp:List Nat}(hd:qin ops listed i dp=true)(hi:listed.getD i true=false)(hj:j∈Region.ready .any ops listed):j∉dp:=by
 intro hm;have h1:=qq7.1 hd j hm;simp only[qq1,qsq]at h1;obtain⟨hun,oj,hoj,hall⟩:=mem_ready.1 hj;rw[hoj]at h1;obtain⟨e,he,he2⟩:=Array.any_eq_true'.1 h1.2;simp only[qq1,qrV,beq_iff_eq]at he2;have hl:=hall e he he2.1;have tt:∀ k,listed.getD k true=false->listed.getD k false=true->False:=by
  intro k h2 h3;rcases qtL k listed.size with h' | h'
  . simp[h']at h2 h3;rw[h2]at h3;cases h3
  . simp[Array.getElem?_eq_none h']at h3
 rcases he2.2 with h2|h2
 . rw[h2]at hl;exact tt i hi hl
 . have h3:=qq7.1 hd e.on (by simpa using h2);simp only[qq1,qsq]at h3;exact tt _ h3.1 hl
theorem qdF {listed:Array Bool}{i j:Nat}{dp:List Nat}(hd:qin ops listed i dp=true)(hj:j∉dp):qin ops (listed.setIfInBounds j true) i dp=true:=by
 refine qq7.2 fun k hk=>?_
 have h1:=qq7.1 hd k hk;simp only[qq1,qsq]at h1 ⊢;have hjk:j≠k:=fun e=>hj (e▸hk)
 exact⟨by rw[getD_set_ne true hjk];exact h1.1,h1.2⟩
theorem qeO {o:Oper}{d:Nat}(h:d∉o.looksAt ops) : .tmp d∉o.op.operands.toList:=fun hm=>h (qrD _ (List.mem_filterMap.2 ⟨.tmp d,hm,rfl⟩))
theorem qbX {t:Option Nat}{u:AV}(h:∀ d,t=some d->d∉o.looksAt ops):jA ops (upd env t u) o=jA ops env o:=by
 unfold jA
 cases hg:o.guard with
 | none=>rfl
 | some jb=>
  obtain⟨j,b⟩:=jb
  cases hj:(ops[j]?).bind (·.dst) with
  | none=>simp[hj]
  | some s=>
   simp only[hj];have:upd env t u s=env s:=by
    cases t with
    | none=>rfl
    | some d=>
     have:¬ s=d:=fun e=>h d rfl (by subst e;simp[Oper.looksAt,hg,hj])
     simp[upd,this]
   rw[this]
theorem qhu (D:Nat->Option TI){mu:Bool}{op:Op}(h:∀ x∈op.operands,ev G env x=ev G env' x):qck D G mu env O op=qck D G mu env' O op:=by
 cases op<;>simp only[Op.operands]at h<;>simp only[qck]
 case insert t m k v=>rw[h m (by simp),h k (by simp),h v (by simp)]
 case binOp o t x y u=>rw[h x (by simp),h y (by simp)]
 case next it b=>cases b<;>simp only[h it (by simp)]
 case entry it=>rw[h it (by simp)]
 case call c=>
  obtain⟨callee,args,ts⟩:=c;cases callee<;>simp only;rename_i b;have ha:∀ x∈args.toList,ev G env x=ev G env' x:=fun x hx=>h x (by simp at hx;simp[Call.operands,hx])
  generalize ts.toList=tl;generalize args.toList=al at ha;split
  . cases mu
    . rfl
    . simp only[ha _ (qtb),ha _ (qrk _ (qtb))]
  . simp only[ha _ (qtb)]
  . simp only[ha _ (qtb)]
  . rfl
theorem ql0 {mu:Bool}{op:Op}{t:Option Nat}{u:AV}{R:AV->St->Prop}(h:∀ d,t=some d->.tmp d∉op.operands.toList):jY P G mu false op (upd env t u) O R↔jY P G mu false op env O R:=by
 have hop:∀ x∈op.operands,ev G (upd env t u) x=ev G env x:=fun x hx=>qoC fun d hd hxd=>h d hd (by subst hxd;simpa using hx)
 by_cases hc:∃ f args ts,op=.call { callee:=.value f,args:=args,argTypes:=ts }
 . obtain⟨f,args,ts,rfl⟩:=hc;simp only[Op.operands,Call.operands]at hop;simp only[jY];rw[hop f (by simp),vM (l:=args.toList) (fun x hx=>hop x (by simp at hx;simp[hx]))]
 . rw[jY.plain hc,jY.plain hc,qhu (Dof P) hop,qcj (Dof P) hop]
variable {mu:Bool}{ac:List Nat}
theorem YW.first {R:Env->St->Prop}{i:Nat}{oi:Oper}{vi:AV}{dp:List Nat}(hi:ops[i]?=some oi):∀ (fuel:Nat) (listed:Array Bool) (env:Env) (O O1:St),
 qin ops listed i dp=true ->
 (∀ (j:Nat) (oj:Oper),ops[j]?=some oj->j≠i->listed.getD j true=false->j∉dp->qda ops oi oj (zR mu ac i oi.op) (zR mu ac j oj.op)=true/\(zR mu ac j oj.op≠9\/zR mu ac i oi.op=0)) ->
 i∈Region.ready .any ops listed->wZ P G ops oi env O vi O1->YW P G ops mu ac R fuel (listed.setIfInBounds i true) (upd env oi.dst vi) O1->YW P G ops mu ac R (fuel+1) listed env O:=by
 intro fuel
 induction fuel with
 | zero=>
  intro listed env O O1 hd _ hr hs H;refine⟨fun h=>(by rw[h]at hr;cases hr),fun j hj=>?_⟩;by_cases hji:j=i
  . subst hji;exact⟨oi,hi,.inl ⟨vi,O1,hs,H⟩⟩
  . have:=ready_mono hj hji;rw[H.1]at this;cases this
 | succ fuel ih=>
  intro listed env O O1 hd hfree hr hs H;refine⟨fun h=>(by rw[h]at hr;cases hr),fun j hj=>?_⟩;by_cases hji:j=i
  . subst hji;exact⟨oi,hi,.inl ⟨vi,O1,hs,H⟩⟩
  . obtain⟨oj,hoj,hst⟩:=H.2 j (ready_mono hj hji);obtain⟨hjun,oj',hoj',hall⟩:=mem_ready.1 hj;rw[hoj]at hoj';cases hoj';have hnd:=qj3 hd (mem_ready.1 hr).1 hj;obtain⟨hf1,hf2⟩:=hfree j oj hoj hji hjun hnd;have rest:∀ (k:Nat) (ok:Oper),ops[k]?=some ok->k≠i->(listed.setIfInBounds j true).getD k true=false->k∉dp->qda ops oi ok (zR mu ac i oi.op) (zR mu ac k ok.op)=true/\(zR mu ac k ok.op≠9\/zR mu ac i oi.op=0):=by
     intro k ok hk hki hun hkd;refine hfree k ok hk hki ?_ hkd;by_cases hjk:j=k
     . subst hjk;exact hjun
     . rw[getD_set_ne true hjk]at hun;exact hun
    rcases hst with ⟨vj,O2,hsj,H2⟩|⟨hc9,hw9,H2⟩
    . obtain⟨τ,s1,s2,s3⟩:=swapB hf1 hs hsj;refine⟨oj,hoj,.inl ⟨vj,τ,s1,ih (listed.setIfInBounds j true) _ τ O2 (qdF hd hnd) rest (ready_mono hr (Ne.symm hji)) s2 ?_⟩⟩;rw[qtM _ _ hji,s3];exact H2
    . have h0:=hf2.resolve_left (fun h=>h hc9);simp only[qda,qq1]at hf1;obtain⟨a1,a2,a3⟩:=Oper.apart_spec hf1.1;obtain⟨rfl,hpure⟩:=cls0 ((qle (mu:=mu) (ac:=ac) (k:=i) (op:=oi.op)).1 h0) hs;refine⟨oj,hoj,.inr ⟨hc9,by rw[<- qbX (t:=oi.dst) (u:=vi) a1];exact hw9,?_⟩⟩;refine ((ql0 (t:=oi.dst) (u:=vi) (fun d hd=>qeO (a1 d hd))).1 H2).imp fun v O' hv=>?_
      refine ih (listed.setIfInBounds j true) _ O' O' (qdF hd hnd) rest (ready_mono hr (Ne.symm hji)) ((yS a3).2 (hpure O')) ?_;rw[qtM _ _ hji,qfP (s:=oj.dst) (t:=oi.dst) (fun d hd e=>a2 d e hd)];exact hv
theorem YW.solo {R:Env->St->Prop}{i:Nat}{oi:Oper}{dp:List Nat}(hi:ops[i]?=some oi){fuel:Nat}{listed:Array Bool}{env:Env}{O:St}(hd:qin ops listed i dp=true)
 (hall:∀ (j:Nat) (oj:Oper),ops[j]?=some oj->j≠i->listed.getD j true=false->j∈dp) (hr:i∈Region.ready .any ops listed)
 (H:(∃ v O',wZ P G ops oi env O v O'/\YW P G ops mu ac R fuel (listed.setIfInBounds i true) (upd env oi.dst v) O') \/
   (zR mu ac i oi.op=9/\jA ops env oi=some true/\jY P G mu false oi.op env O (fun v O'=>YW P G ops mu ac R fuel (listed.setIfInBounds i true) (upd env oi.dst v) O'))) :
 YW P G ops mu ac R (fuel+1) listed env O:=by
 refine⟨fun h=>(by rw[h]at hr;cases hr),fun j hj=>?_⟩;by_cases hji:j=i
 . subst hji;exact⟨oi,hi,H⟩
 . obtain⟨hjun,oj,hoj,_⟩:=mem_ready.1 hj;exact absurd (hall j oj hoj hji hjun) (qj3 hd (mem_ready.1 hr).1 hj)
theorem Zn (hsl:vz N ops=true){R:Env->St->Prop}{w0:World}{ro0:Nat->Nat->Option Value}{Q:Exit->Act->World->Prop}:∀ (fuel:Nat) (listed:Array Bool) (env:Env) (O:St) (K:Kn) (a:Act) (w:World),
 (∀ K' env' O' a' w',K.le K'->WRel G w0 ro0 K' O' w'->ERel K' N env' a'->a'.defers=a.defers->R env' O'->Q .normal a' w')->WRel G w0 ro0 K O w->ERel K N env a->YW P G ops mu ac R fuel listed env O->wpAny P .any ops Q fuel listed a w
 | 0,listed,env,O,K,a,w,hq,hw,he,h=>⟨h.1,hq K env O a w (Kn.le_refl K) hw he rfl h.2⟩
 | fuel+1,listed,env,O,K,a,w,hq,hw,he,h=>by
  refine⟨fun h0=>hq K env O a w (Kn.le_refl K) hw he rfl (h.1 h0),fun i hi=>?_⟩;obtain⟨o,ho,H⟩:=h.2 i hi;have hmem:o∈ops.toList:=qqW (i:=i) (by simpa using ho);have hd:=Jf hsl hmem;have hgd:=ZG hsl o;unfold wpOp;simp only[ho];rcases H with ⟨v,O',hs,H⟩|⟨_,hwant,H⟩
  . rcases hs with ⟨hwant,rfl,rfl⟩|⟨hwant,hop⟩
    . rw[if_neg (by simp[kx he hgd hwant])];exact Zn hsl fuel _ _ _ K _ w (fun K2 env2 O2 a2 w2 hle x1 x2 xd=>hq K2 env2 O2 a2 w2 hle x1 x2 (xd.trans Act.put_defers')) hw (he.put hd (by simp only[qj];exact⟨#[],rfl,by simp[qk]⟩)) H
    . rw[if_pos (kx he hgd hwant)];refine .inl (qpU hw he hd hop fun K' a' w' h1 h2 h3 hds=>?_);exact Zn hsl fuel _ _ _ K' a' w' (fun K2 env2 O2 a2 w2 hle x1 x2 xd=>hq K2 env2 O2 a2 w2 (Kn.le_trans h1 hle) x1 x2 (xd.trans hds)) h2 h3 H
  . rw[if_pos (kx he hgd hwant)];refine .inl (qj1 hw he hd H fun v O' K' a' w' hA h1 h2 h3 hds=>?_);exact Zn hsl fuel _ _ _ K' a' w' (fun K2 env2 O2 a2 w2 hle x1 x2 xd=>hq K2 env2 O2 a2 w2 (Kn.le_trans h1 hle) x1 x2 (xd.trans hds)) h2 h3 hA
end
mutual
inductive Sch where
 | done
 | step (k:Nat) (dp:List Nat) (s:Sch)
 | fork (a:Alts)
inductive Alts where
 | nil
 | cons (k:Nat) (s:Sch) (r:Alts)
end
def qcf (ops:Array Oper)(mu:Bool)(ac:List Nat)(listed:Array Bool)(k:Nat)(dp:List Nat):Bool :=
 (Region.ready .any ops listed).contains k&&qin ops listed k dp&&(match ops[k]? with
   | some ok=>(List.range ops.size).all fun j=>j==k||listed.getD j true||dp.contains j||(zR mu ac k ok.op != 9&&(match ops[j]? with
    | some oj=>qda ops ok oj (zR mu ac k ok.op) (zR mu ac j oj.op)&&(zR mu ac j oj.op != 9||zR mu ac k ok.op==0)
    | none=>true))
   | none=>false)
mutual
def qep (ops:Array Oper)(mu:Bool)(ac:List Nat):Sch->Array Bool->Bool
 | .done,listed=>(Region.ready .any ops listed).isEmpty
 | .step k dp s,listed=>qcf ops mu ac listed k dp&&qep ops mu ac s (listed.setIfInBounds k true)
 | .fork a,listed=>!(Region.ready .any ops listed).isEmpty&&qd0 ops mu ac a listed (Region.ready .any ops listed)
def qd0 (ops:Array Oper)(mu:Bool)(ac:List Nat):Alts->Array Bool->List Nat->Bool
 | .nil,_,need=>need.isEmpty
 | .cons k s r,listed,need=>need.contains k&&qep ops mu ac s (listed.setIfInBounds k true)&&qd0 ops mu ac r listed (need.filter (· != k))
end
mutual
def VB:Sch->Nat
 | .done=>0
 | .step _ _ s=>VB s+1
 | .fork a=>qbR a+1
def qbR:Alts->Nat
 | .nil=>0
 | .cons _ s r=>max (VB s) (qbR r)
end
def dpOf (ops:Array Oper)(k:Nat):List Nat :=
 (List.range ops.size).foldl (fun dp j=>match ops[j]? with
   | some oj=>if oj.after.any (fun e=>Region.binds .any e&&(e.on==k||dp.contains e.on)) then j::dp else dp
   | none=>dp) []
def lexB (ops:Array Oper)(mu:Bool)(ac:List Nat):Nat->Nat->Array Bool->Bool
 | 0,_,listed=>(Region.ready .any ops listed).isEmpty
 | fuel+1,k,listed=>qcf ops mu ac listed k (dpOf ops k)&&lexB ops mu ac fuel (k+1) (listed.setIfInBounds k true)
def qoE (ops:Array Oper)(mu lw:Bool):Bool:=lexB ops mu (if lw then [ops.size-1] else []) ops.size 0 (Array.replicate ops.size false)
end
section
structure Opts where
 mu:Bool
 fk:List (Nat×Sch×List Nat)
 lw:List Nat
 bw:List (Nat×Nat):=[]
def o0:Opts:=⟨false,[],[],[]⟩
def jw (N:Nat):Code->Bool
 | .skip | .exit _=>true
 | .region _ ops false=>vz N ops
 | .seq x y=>jw N x&&jw N y
 | .cond _ x y=>jw N x&&jw N y
 | .block _ c=>jw N c
 | _=>false
def j8 (N:Nat)(o:Opts):Code->Bool
 | .skip | .ret | .exit _=>true
 | .region id ops d=>vz N ops&&(!d||(match o.fk.lookup id with
  | some (s,ac)=>qep ops o.mu ac s (Array.replicate ops.size false)&&decide (VB s<=ops.size)
  | none=>qoE ops o.mu (o.lw.contains id)))
 | .seq x y=>j8 N o x&&j8 N o y
 | .cond _ x y=>j8 N o x&&j8 N o y
 | .block _ c=>j8 N o c
 | .loop c=>j8 N o c
 | .rangeFunc _ ps x y=>(match ps.toList with
  | [p,q]=>decide (p<N)&&decide (q<N)
  | _=>false)&&jw N x&&jw N y
 | _=>false
def qhj (c:Bool)(A B:Prop):Prop:=(c=true->A)/\(c=false->B)
def vcG (P:Program)(G:Nat->AV)(mu d:Bool)(ops:Array Oper)(o:Oper)(env:Env)(O:St)(k:Env->AV->St->Prop):Prop :=
 match o.guard with
 | none=>jY P G mu d o.op env O (k env)
 | some (j,b)=>match (ops[j]?).bind (·.dst) with
  | some t=>match env t with
   | .bool c=>qhj (c==b) (jY P G mu d o.op (upd env (some t) (.bool b)) O (k (upd env (some t) (.bool b)))) (k (upd env (some t) (.bool (!b))) (.tup []) O)
   | .tup []=>k env (.tup []) O
   | _=>False
  | none=>k env (.tup []) O
def qeY:Op->Bool
 | .call { callee:=.value _,.. }=>true
 | _=>false
def qqi {α:Type}:List α->Bool
 | []=>true
 | _=>false
def vcR (P:Program)(G:Nat->AV)(mu:Bool)(ops:Array Oper)(d lw:Bool):List Oper->Env->St->(Env->St->Prop)->Prop
 | [],env,O,Q=>Q env O
 | o::rest,env,O,Q=>vcG P G mu (d&&!(lw&&qqi rest&&qeY o.op)) ops o env O (fun env v O'=>vcR P G mu ops d lw rest (upd env o.dst v) O' Q)
mutual
def vcS (P:Program)(G:Nat->AV)(mu:Bool)(ac:List Nat)(ops:Array Oper):Sch->Env->St->(Env->St->Prop)->Prop
 | .done,env,O,Q=>Q env O
 | .step k _ s,env,O,Q=>match ops[k]? with
  | some o=>vcG P G mu (zR mu ac k o.op != 9) ops o env O (fun env v O'=>vcS P G mu ac ops s (upd env o.dst v) O' Q)
  | none=>False
 | .fork a,env,O,Q=>Qz P G mu ac ops a env O Q
def Qz (P:Program)(G:Nat->AV)(mu:Bool)(ac:List Nat)(ops:Array Oper):Alts->Env->St->(Env->St->Prop)->Prop
 | .nil,_,_,_=>True
 | .cons k s r,env,O,Q=>(match ops[k]? with
  | some o=>vcG P G mu (zR mu ac k o.op != 9) ops o env O (fun env v O'=>vcS P G mu ac ops s (upd env o.dst v) O' Q)
  | none=>False)/\Qz P G mu ac ops r env O Q
end
abbrev FR (ro:Option Nat):Fence:={ Fence.wide with round:=ro }
theorem qfO {env:Env}{t:Nat}{v:AV}(h:env t=v):upd env (some t) v=env:=by
 funext i;simp only[upd];split
 . rename_i e;rw[e,h]
 . rfl
section
variable {P:Program}{G:Nat->AV}{N:Nat}{env:Env}{O O':St}{w0:World}{ro0:Nat->Nat->Option Value}{K:Kn}{a:Act}{w:World}{ops:Array Oper}{o:Oper}{v:AV}{mu d:Bool}{ac:List Nat}
theorem w9 {k:Env->AV->St->Prop}(h:vcG P G mu d ops o env O k):(jA ops env o=some false/\k env (.tup []) O)\/(jA ops env o=some true/\jY P G mu d o.op env O (k env)):=by
 unfold vcG at h;split at h
 . rename_i hg;exact .inr ⟨by simp[jA,hg],h⟩
 . rename_i j b hg;split at h
   . rename_i t ht;split at h
     . rename_i c hc;by_cases hcb:c=b
       . have:=h.1 (by simp[hcb]);rw[hcb]at hc;rw[qfO hc]at this;exact .inr ⟨by simp[jA,hg,ht,hc],this⟩
       . have hcb':c = !b:=(by cases c<;>cases b<;>simp_all);have:=h.2 (by simp[hcb]);rw[hcb']at hc;rw[qfO hc]at this;exact .inl ⟨by simp[jA,hg,ht,hc],this⟩
     . rename_i hc;exact .inl ⟨by simp[jA,hg,ht,hc],h⟩
     . exact h.elim
   . rename_i ht;exact .inl ⟨by simp[jA,hg,ht],h⟩
theorem qbZ (hs:vz N ops=true){lw:Bool}{Q:Env->St->Prop}:∀ (l:List Oper) (env:Env) (O:St) (K:Kn) (a:Act) (w:World),(∀ o∈l,o∈ops.toList)->vcR P G mu ops false lw l env O Q->WRel G w0 ro0 K O w->ERel K N env a ->
 ∀ {Q':Exit->Act->World->Prop},(∀ K' env' O' a' w',K.le K'->WRel G w0 ro0 K' O' w'->ERel K' N env' a'->a'.defers=a.defers->Q env' O'->Q' .normal a' w')->wpList P ops Q' l a w
 | [],env,O,K,a,w,_,h,hw,he,Q',hq=>hq K env O a w (Kn.le_refl K) hw he rfl h
 | o::rest,env,O,K,a,w,hm,h,hw,he,Q',hq=>by
  have hd:=Jf hs (hm o (by simp));have hgd:=ZG hs o;have hrest:∀ x∈rest,x∈ops.toList:=fun x hx=>hm x (by simp[hx])
  have cont:∀ (v:AV) (O':St) (K1:Kn) (a1:Act) (w1:World),vcR P G mu ops false lw rest (upd env o.dst v) O' Q->K.le K1->WRel G w0 ro0 K1 O' w1->ERel K1 N (upd env o.dst v) a1->a1.defers=a.defers->wpList P ops Q' rest a1 w1 :=
   fun v O' K1 a1 w1 hv hle h1 h2 hds=>qbZ hs rest _ O' K1 a1 w1 hrest hv h1 h2 fun K' env' O'' a' w' hle' x1 x2 xd=>hq K' env' O'' a' w' (Kn.le_trans hle hle') x1 x2 (xd.trans hds)
  simp only[vcR,qsN]at h;unfold wpList;rcases w9 h with ⟨hwant,h⟩|⟨hwant,h⟩
  . have:=kx he hgd hwant;rw[if_neg (by simp[this])];exact cont _ O K _ w h (Kn.le_refl K) hw (he.put hd (by simp only[qj];exact⟨#[],rfl,by simp[qk]⟩)) Act.put_defers'
  . have:=kx he hgd hwant;rw[if_pos this];exact .inl (qj1 hw he hd h fun v O' K' a' w' hv h1 h2 h3 hds=>cont v O' K' a' w' hv h1 h2 h3 hds)
theorem qj0 {ro:Option Nat}{n:Nat}(hw:WRel G w0 ro0 K O w)(he:ERel K N env a)(hd:∀ d,o.dst=some d->d<N){R:AV->St->Prop}(h:jY P G mu false o.op env O R){next:Act->World->Prop}{Q:Exit->Act->World->Prop}
 (hn:∀ v v' O' K' w',R v O'->K.le K'->WRel G w0 ro0 K' O' w'->ERel K' N (upd env o.dst v) (a.put o.dst v')->next (a.put o.dst v') w'):o.wpIn (FR ro) n P a w next Q:=by
 have hnd:∀ c,o.op≠.defer c:=by
  intro c e;rw[e]at h;simp[jY,vcX,qeK,qck,sem]at h
 refine⟨fun _ _=>trivial,?_⟩;rw[Oper.semAt_eq _ _ _ hnd];have did:∀ v O',R v O'->Did P G w0 ro0 K w (execOp a.eval o) v O'->o.uponIn (FR ro) n P a next Q ((execOp a.eval o).run P w):=by
  intro v O' hr hdid;obtain⟨v',w',K',hrun,h1,h2,h3⟩:=hdid;rcases hrun with hrun|⟨hrun,rfl⟩
  . rw[hrun];exact hn v v' O' K' w' hr h1 h2 ((he.mono h1).put hd h3)
  . rw[hrun];exact hn v _ O' K' w' hr h1 h2 ((he.mono h1).put hd h3)
 unfold jY at h;split at h
 . rename_i f args ts hop;split at h
   . rename_i g first cap hf
     have hac:qq P G g (kR first (VS G env args.toList) cap) O R:=h;obtain⟨vs,hr,hvs⟩:=WG hw he hop hf hac.1;rw[hr,Oper.uponIn_enter];refine⟨fun e=>by simp[Fence.wide]at e,?_⟩;refine CallsIn.mono (F:=FR ro) (show CallsIn (FR ro) (n-1) P g vs w _ from (callsIn_wide (n:=n-1)).2 (hac.2 w0 ro0 K w vs hw hvs)) ?_;rintro e w' ⟨v',v,O',K',rfl,h1,h2,h3,h4⟩;exact hn v v' O' K' w' h4 h1 h2 ((he.mono h1).put hd h3)
   . exact h.elim
 . simp only[vcX,qeK]at h;split at h
   . rename_i l hl;obtain⟨v,O',h1,h2⟩:=VA hw he o hl;exact did v O' (h v O' h1) h2
   . split at h
     . rename_i v O' hs;exact did v O' h (KC hw he o hs)
     . exact h.elim
theorem wK (hs:vz N ops=true){ro:Option Nat}{n:Nat}{lw:Bool}{Q:Env->St->Prop}{more:List Oper}:∀ (l:List Oper) (env:Env) (O:St) (K:Kn) (a:Act) (w:World),(∀ o∈l,o∈ops.toList)->vcR P G mu ops false lw l env O Q->WRel G w0 ro0 K O w->ERel K N env a ->
 ∀ {Q':Exit->Act->World->Prop},(∀ K' env' O' a' w',K.le K'->WRel G w0 ro0 K' O' w'->ERel K' N env' a'->a'.defers=a.defers->(∀ t,(∀ o∈l,o.dst≠some t)->a'.tmps.getD t undef=a.tmps.getD t undef)->Q env' O'->wpListIn (FR ro) n P ops Q' more a' w')->wpListIn (FR ro) n P ops Q' (l++more) a w
 | [],env,O,K,a,w,_,h,hw,he,Q',hq=>hq K env O a w (Kn.le_refl K) hw he rfl (fun _ _=>rfl) h
 | o::rest,env,O,K,a,w,hm,h,hw,he,Q',hq=>by
  have hd:=Jf hs (hm o (by simp));have hgd:=ZG hs o;have hrest:∀ x∈rest,x∈ops.toList:=fun x hx=>hm x (by simp[hx])
  have cont:∀ (v:AV) (v':Value) (O':St) (K1:Kn) (w1:World),vcR P G mu ops false lw rest (upd env o.dst v) O' Q->K.le K1->WRel G w0 ro0 K1 O' w1->ERel K1 N (upd env o.dst v) (a.put o.dst v')->wpListIn (FR ro) n P ops Q' (rest++more) (a.put o.dst v') w1 :=
   fun v v' O' K1 w1 hv hle h1 h2=>wK hs rest _ O' K1 _ w1 hrest hv h1 h2 fun K' env' O'' a' w' hle' x1 x2 xd xk=>hq K' env' O'' a' w' (Kn.le_trans hle hle') x1 x2 (xd.trans Act.put_defers') fun t ht=>by
    rw[xk t fun x hx=>ht x (by simp[hx])];have hne:=ht o (by simp);unfold Act.put;split
    . rename_i d hdd;have:d≠t:=fun e=>hne (by rw[hdd,e])
      simp[this]
    . rfl
  simp only[vcR,qsN]at h;rw[qrd];unfold wpListIn;rcases w9 h with ⟨hwant,h⟩|⟨hwant,h⟩
  . have:=kx he hgd hwant;rw[if_neg (by simp[this])];exact⟨fun _ _=>trivial,cont _ _ O K w h (Kn.le_refl K) hw (he.put hd (by simp only[qj];exact⟨#[],rfl,by simp[qk]⟩))⟩
  . have:=kx he hgd hwant;rw[if_pos this];exact qj0 hw he hd h fun v v' O' K' w' hv h1 h2 h3=>cont v v' O' K' w' hv h1 h2 h3
theorem Ki {R:AV->St->Prop}(h:jY P G mu true o.op env O R):∃ v O',OpA P G o env O v O'/\R v O':=by
 unfold jY at h;split at h
 . rename_i f args ts hop;split at h
   . rename_i g first cap hf
     obtain⟨r,h1,h2⟩:=h;exact⟨r,O,.inr ⟨f,args,ts,g,first,cap,hop,hf,h1,rfl⟩,h2⟩
   . exact h.elim
 . simp only[vcX,qeK]at h;split at h
   . rename_i v O' hs;exact⟨v,O',.inl hs,h⟩
   . exact h.elim
theorem qjT {R:Env->St->Prop}{i:Nat}{oi:Oper}{dp:List Nat}(hi:ops[i]?=some oi){fuel:Nat}{listed:Array Bool}(hs:qcf ops mu ac listed i dp=true)
 (h:vcG P G mu (zR mu ac i oi.op != 9) ops oi env O (fun env v O'=>YW P G ops mu ac R fuel (listed.setIfInBounds i true) (upd env oi.dst v) O')):YW P G ops mu ac R (fuel+1) listed env O:=by
 simp only[qcf,hi,qq1]at hs;obtain⟨⟨hr,hd⟩,hall⟩:=hs;have hr':i∈Region.ready .any ops listed:=by simpa using hr
 have rest:∀ (j:Nat) (oj:Oper),ops[j]?=some oj->j≠i->listed.getD j true=false->j∉dp->zR mu ac i oi.op≠9/\qda ops oi oj (zR mu ac i oi.op) (zR mu ac j oj.op)=true/\(zR mu ac j oj.op≠9\/zR mu ac i oi.op=0):=by
  intro j oj hoj hji hun hnd;have:=qq7.1 hall j (qrC.2 (qrE.1 hoj).1);simp only[hoj,qrV,beq_iff_eq,qq1,bne_iff_ne,ne_eq]at this;rcases this with ((h1|h1)|h1)|h1
  . exact absurd h1 hji
  . rw[hun]at h1;cases h1
  . exact absurd (by simpa using h1) hnd
  . exact⟨h1.1,h1.2.1,h1.2.2⟩
 by_cases h9:zR mu ac i oi.op=9
 . have solo:∀ (j:Nat) (oj:Oper),ops[j]?=some oj->j≠i->listed.getD j true=false->j∈dp:=by
    intro j oj hoj hji hun;apply Classical.byContradiction;intro hnd;exact (rest j oj hoj hji hun hnd).1 h9
   rw[h9]at h;refine YW.solo hi hd solo hr' ?_;rcases w9 h with ⟨hwant,h⟩|⟨hwant,h⟩
   . exact .inl ⟨_,O,.inl ⟨hwant,rfl,rfl⟩,h⟩
   . exact .inr ⟨h9,hwant,h⟩
 . have hd1:(zR mu ac i oi.op != 9)=true:=(by simpa using h9);rw[hd1]at h;rcases w9 h with ⟨hwant,h⟩|⟨hwant,h⟩
   . exact YW.first hi fuel listed env O O hd (fun j oj a b c e=>(rest j oj a b c e).2) hr' (.inl ⟨hwant,rfl,rfl⟩) h
   . obtain⟨v,O',h1,h2⟩:=Ki h;exact YW.first hi fuel listed env O O' hd (fun j oj a b c e=>(rest j oj a b c e).2) hr' (.inr ⟨hwant,h1⟩) h2
theorem vcG.imp {k k':Env->AV->St->Prop}(h:vcG P G mu d ops o env O k)(hk:∀ env v O,k env v O->k' env v O):vcG P G mu d ops o env O k':=by
 unfold vcG at h⊢
 cases hg:o.guard with
 | none=>simp only[hg]at h ⊢;exact jY.imp h (hk _)
 | some p=>
  obtain⟨j,b⟩:=p;simp only[hg]at h ⊢
  cases ht:(ops[j]?).bind (·.dst) with
  | none=>simp only[ht]at h ⊢;exact hk _ _ _ h
  | some t=>
   simp only[ht]at h ⊢;generalize env t=x at h⊢
   match x,h with
   | .bool c,h=>exact⟨fun e=>jY.imp (h.1 e) (hk _),fun e=>hk _ _ _ (h.2 e)⟩
   | .tup [],h=>exact hk _ _ _ h
theorem qkj {lw:Bool}{Q:Env->St->Prop}{mu:Bool}:∀ (l:List Oper) (k:Nat) (listed:Array Bool) (env:Env) (O:St),(∀ j:Nat,l[j]?=ops[k+j]?)->k+l.length=ops.size->lexB ops mu (if lw then [ops.size-1] else []) l.length k listed=true ->
 vcR P G mu ops true lw l env O Q->YW P G ops mu (if lw then [ops.size-1] else []) Q l.length listed env O
 | [],k,listed,env,O,_,_,hB,h=>⟨by simpa[lexB] using hB,h⟩
 | o::l,k,listed,env,O,hl,hlen,hB,h=>by
  have h0:ops[k]?=some o:=by simpa using (hl 0).symm
  simp only[qq5,lexB,qq1]at hB;obtain⟨hst,hB'⟩:=hB;simp only[vcR,qsi]at h;have ih:=fun env O h=>qkj (lw:=lw) (Q:=Q) (mu:=mu) l (k+1) (listed.setIfInBounds k true) env O (fun j=>by have:=hl (j+1);simpa[qs3,qtl 1 j] using this) (by simp only[qq5]at hlen;omega) hB' h
  have hst0:=hst;simp only[qcf,h0,qq1]at hst;obtain⟨⟨hr,hd⟩,hall⟩:=hst;have hr':k∈Region.ready .any ops listed:=by simpa using hr
  have rest:∀ (j:Nat) (oj:Oper),ops[j]?=some oj->j≠k->listed.getD j true=false->j∉dpOf ops k->zR mu (if lw then [ops.size-1] else []) k o.op≠9/\qda ops o oj (zR mu (if lw then [ops.size-1] else []) k o.op) (zR mu (if lw then [ops.size-1] else []) j oj.op)=true/\(zR mu (if lw then [ops.size-1] else []) j oj.op≠9\/zR mu (if lw then [ops.size-1] else []) k o.op=0):=by
   intro j oj hoj hji hun hnd;have:=qq7.1 hall j (qrC.2 (qrE.1 hoj).1);simp only[hoj,qrV,beq_iff_eq,qq1,bne_iff_ne,ne_eq]at this;rcases this with ((h1|h1)|h1)|h1
   . exact absurd h1 hji
   . rw[hun]at h1;cases h1
   . exact absurd (by simpa using h1) hnd
   . exact⟨h1.1,h1.2.1,h1.2.2⟩
  have stp:∀ v O',wZ P G ops o env O v O'->YW P G ops mu (if lw then [ops.size-1] else []) Q l.length (listed.setIfInBounds k true) (upd env o.dst v) O'->YW P G ops mu (if lw then [ops.size-1] else []) Q (l.length+1) listed env O:=by
   intro v O' h1 h2;by_cases h9:zR mu (if lw then [ops.size-1] else []) k o.op=9
   . refine YW.solo h0 hd (fun j oj hoj hji hun=>?_) hr' (.inl ⟨v,O',h1,h2⟩);apply Classical.byContradiction;intro hnd;exact (rest j oj hoj hji hun hnd).1 h9
   . exact YW.first h0 l.length listed env O O' hd (fun j oj a b c e=>(rest j oj a b c e).2) hr' h1 h2
  cases hdd : !(lw&&qqi l&&qeY o.op) with
  | true=>
   rw[hdd]at h;rcases w9 h with ⟨hwant,h⟩|⟨hwant,h⟩
   . exact stp _ _ (.inl ⟨hwant,rfl,rfl⟩) (ih _ _ h)
   . obtain⟨v,O',h1,h2⟩:=Ki h;exact stp _ _ (.inr ⟨hwant,h1⟩) (ih _ _ h2)
  | false=>
   rw[hdd]at h;simp only[qtx,qq1]at hdd;obtain⟨⟨hlw,hnil⟩,hcall⟩:=hdd;have hnil:l=[]:=(by cases l with | nil=>rfl | cons _ _=>simp[qqi]at hnil);rcases w9 h with ⟨hwant,h⟩|⟨hwant,h⟩
   . exact stp _ _ (.inl ⟨hwant,rfl,rfl⟩) (ih _ _ h)
   . -- the last operation
     have h9:zR mu (if lw then [ops.size-1] else []) k o.op=9:=by
      subst hnil;simp only[qq5,qrt]at hlen;have hk1:k=ops.size-1:=(by omega);unfold qeY at hcall;split at hcall
      . rename_i f args ts e;rw[e];simp[zR,hlw,hk1]
      . cases hcall
     refine YW.solo h0 hd (fun j oj hoj hji hun=>?_) hr' (.inr ⟨h9,hwant,jY.imp h fun v O' hv=>ih _ _ hv⟩);apply Classical.byContradiction;intro hnd;exact (rest j oj hoj hji hun hnd).1 h9
mutual
theorem qeb {Q:Env->St->Prop}:∀ (s:Sch) (fuel:Nat) (listed:Array Bool) (env:Env) (O:St),qep ops mu ac s listed=true->VB s<=fuel->vcS P G mu ac ops s env O Q->YW P G ops mu ac Q fuel listed env O
 | .done,fuel,listed,env,O,hk,_,h=>by
  simp only[qep]at hk;have hr:Region.ready .any ops listed=[]:=by simpa using hk
  cases fuel with
  | zero=>exact⟨hr,h⟩
  | succ fuel=>exact⟨fun _=>h,fun i hi=>by rw[hr]at hi;cases hi⟩
 | .step k dp s,fuel,listed,env,O,hk,hf,h=>by
  simp only[VB]at hf;obtain⟨f,rfl⟩:∃ f,fuel=f+1:=⟨fuel-1,by omega⟩;simp only[qep,qq1]at hk;simp only[vcS]at h;split at h
  . rename_i o ho;exact qjT ho hk.1 (vcG.imp h fun env v O' hv=>qeb s f _ _ _ hk.2 (by omega) hv)
  . exact h.elim
 | .fork al,fuel,listed,env,O,hk,hf,h=>by
  simp only[VB]at hf;obtain⟨f,rfl⟩:∃ f,fuel=f+1:=⟨fuel-1,by omega⟩;simp only[qep,qq1,qsq]at hk;simp only[vcS]at h;refine⟨fun h0=>by rw[h0]at hk;simp at hk,fun i hi=>?_⟩;exact Vu al f listed env O _ hk.2 (by omega) h i hi
theorem Vu {Q:Env->St->Prop}:∀ (al:Alts) (fuel:Nat) (listed:Array Bool) (env:Env) (O:St) (need:List Nat),qd0 ops mu ac al listed need=true->qbR al<=fuel->Qz P G mu ac ops al env O Q->∀ i∈need,∃ o,ops[i]?=some o /\
 ((∃ v O',wZ P G ops o env O v O'/\YW P G ops mu ac Q fuel (listed.setIfInBounds i true) (upd env o.dst v) O') \/
  (zR mu ac i o.op=9/\jA ops env o=some true/\jY P G mu false o.op env O (fun v O'=>YW P G ops mu ac Q fuel (listed.setIfInBounds i true) (upd env o.dst v) O')))
 | .nil,fuel,listed,env,O,need,hk,_,_,i,hi=>by
  simp only[qd0]at hk;have:need=[]:=by simpa using hk
  rw[this]at hi;cases hi
 | .cons k s r,fuel,listed,env,O,need,hk,hf,h,i,hi=>by
  simp only[qbR]at hf;simp only[qd0,qq1]at hk;simp only[Qz]at h;by_cases hik:i=k
  . subst hik;obtain⟨h,_⟩:=h;split at h
    . rename_i o ho;refine⟨o,ho,?_⟩;have h':=vcG.imp h fun env v O' hv=>qeb s fuel _ _ _ hk.1.2 (by omega) hv
      by_cases h9:zR mu ac i o.op=9
      . rw[h9]at h';rcases w9 h' with ⟨hwant,h'⟩|⟨hwant,h'⟩
        . exact .inl ⟨_,O,.inl ⟨hwant,rfl,rfl⟩,h'⟩
        . exact .inr ⟨h9,hwant,h'⟩
      . have hd1:(zR mu ac i o.op != 9)=true:=(by simpa using h9);rw[hd1]at h';rcases w9 h' with ⟨hwant,h'⟩|⟨hwant,h'⟩
        . exact .inl ⟨_,O,.inl ⟨hwant,rfl,rfl⟩,h'⟩
        . obtain⟨v,O',h1,h2⟩:=Ki h';exact .inl ⟨v,O',.inr ⟨hwant,h1⟩,h2⟩
    . exact h.elim
  . exact Vu r fuel listed env O _ hk.2 (by omega) h.2 i (qrz.2 ⟨hi,by simpa using hik⟩)
end
end
def BwOk (P:Program)(G:Nat->AV)(gb:FuncId)(k:Nat):Prop :=
 bodied P gb=true/\∀ (w0:World) (ro0:Nat->Nat->Option Value) (b L B:Nat) (K:Kn) (O:St) (w:World) (sz:Nat) (rows:List (List AV)) (tok:Tok) (S:Nat->St->Prop),
  WRel G w0 ro0 K O w->K.m b=some B->O.H[b]?=some (.cells [.sl sz rows tok])->rows.length<2 ^ 62->S rows.length O ->
  (∀ i O' K' w',S (i+1) O'->K.le K'->WRel G w0 ro0 K' O' w'->∃ rows tok r,O'.H[b]?=some (.cells [.sl k rows tok])/\rows[i]?=some r/\∀ v,qj K' (.agg r) v ->
    ∃ f tmps asn body,(Instr.yield L #[.int .i64 i,v]).run P w'=.ok (.round L f tmps asn body) w' /\
     RoundIn Fence.wide 0 P L f tmps asn body w' (fun e w''=>e=.returned (.bool true)/\∃ K'' O'',K'.le K''/\WRel G w0 ro0 K'' O'' w''/\S i O'')) ->
  CallsIn Fence.wide 0 P gb #[.func (.yield L) #[] #[],.pointer (some ⟨B,0,none⟩)] w (fun e w'=>(∃ v,e=.returned v)/\∃ K' O',K.le K'/\WRel G w0 ro0 K' O' w'/\S 0 O')
def QG (A B:Env->St->(Exit->Env->St->Prop)->Prop)(k b pi pe:Nat)(env:Env):Nat->St->(St->Prop)->Prop
 | 0,O,Q=>Q O
 | i+1,O,Q=>match O.H[b]? with
  | some (.cells [.sl sz rows _])=>sz=k/\match rows[i]? with
   | some r=>A (upd (upd env (some pi) (.int .i64 i)) (some pe) (.agg r)) O (fun e env' O'=>e=.normal/\B env' O' (fun e _ O''=>e=.normal/\QG A B k b pi pe env i O'' Q))
   | none=>False
  | _=>False
def vcC (P:Program)(G:Nat->AV)(o:Opts):Code->Env->St->(Exit->Env->St->Prop)->Prop
 | .skip,env,O,Q=>Q .normal env O
 | .ret,env,O,Q=>Q .ret env O
 | .exit id,env,O,Q=>Q (.exit id) env O
 | .seq x y,env,O,Q=>vcC P G o x env O (vW (fun env O=>vcC P G o y env O Q) Q)
 | .cond c x y,env,O,Q=>match ev G env c with
  | .bool b=>qhj b (vcC P G o x env O Q) (vcC P G o y env O Q)
  | _=>False
 | .block id c,env,O,Q=>vcC P G o c env O (vX id Q)
 | .region id ops d,env,O,Q=>match d,o.fk.lookup id with
  | true,some (s,ac)=>vcS P G o.mu ac ops s env O (fun env O=>Q .normal env O)
  | d,_=>vcR P G o.mu ops d (o.lw.contains id) ops.toList env O (fun env O=>Q .normal env O)
 | .loop c,env,O,Q=>∃ (I:Nat->Env->St->Prop) (n:Nat),I n env O/\∀ n env O,I n env O->vcC P G o c env O (vW (fun env' O'=>∃ n',n' < n/\I n' env' O') Q)
 | .rangeFunc g ps x y,env,O,Q=>match ps.toList,ev G env g with
  | [pi,pe],.fn gb [] [.ptr b 0]=>∃ k,BwOk P G gb k/\(match O.H[b]? with
   | some (.cells [.sl _ rows _])=>rows.length<2 ^ 62/\QG (fun env O Q=>vcC P G o x env O Q) (fun env O Q=>vcC P G o y env O Q) k b pi pe env rows.length O (fun O=>Q .normal env O)
   | _=>False)
  | _,_=>False
 | _,_,_,_=>False
section
variable {P:Program}{G:Nat->AV}{N:Nat}{env:Env}{O:St}{ops:Array Oper}{mu:Bool}{ac:List Nat}
theorem AWp.any {id:Nat}{Q:Exit->Env->St->Prop}(hm:P.follows .mixedOrders=true)(hs:vz N ops=true)(h:YW P G ops mu ac (fun env O=>Q .normal env O) ops.size (Array.replicate ops.size false) env O) :
 AWp P G N (.region id ops true) env O Q:=by
 intro w0 ro0 K a w hw he;refine wp_region_any hm ?_;exact Zn hs (Q:=Yp G w0 ro0 K N a.defers Q) ops.size (Array.replicate ops.size false) env O K a { w with drawn:=w.drawn+1 }
  (fun K' env' O' a' w' h1 h2 h3 hd h4=>⟨K',env',O',h1,h2,h3,.same hd,h4⟩) hw.drew he h
end
def qg2 (ro:Option Nat)(P:Program)(G:Nat->AV)(N:Nat)(c:Code)(env:Env)(O:St)(Q:Exit->Env->St->Prop):Prop :=
 ∀ (w0:World) (ro0:Nat->Nat->Option Value) (K:Kn) (a:Act) (w:World),WRel G w0 ro0 K O w->ERel K N env a->c.wpIn (FR ro) 0 P (Yp G w0 ro0 K N a.defers Q) a w
section
variable {P:Program}{G:Nat->AV}{N:Nat}{ro:Option Nat}{env:Env}{O:St}{Q:Exit->Env->St->Prop}
theorem qg2.seq {x y:Code}(h:qg2 ro P G N x env O (vW (fun env O=>qg2 ro P G N y env O Q) Q)):qg2 ro P G N (.seq x y) env O Q:=by
 intro w0 ro0 K a w hw he;refine wpIn_seq (wpIn_mono (h w0 ro0 K a w hw he) ?_);intro e a' w' hp;obtain⟨K',env',O',h1,h2,h3,hd,h4⟩:=hp
 cases e with
 | normal=>exact wpIn_mono (h4 w0 ro0 K' a' w' h2 h3) fun e a w x=>x.after h1 hd
 | _=>exact⟨K',env',O',h1,h2,h3,hd,h4⟩
theorem qg2.block {id:Nat}{c:Code}(h:qg2 ro P G N c env O (vX id Q)):qg2 ro P G N (.block id c) env O Q:=by
 intro w0 ro0 K a w hw he;refine wpIn_block (wpIn_mono (h w0 ro0 K a w hw he) ?_);intro e a' w' hp;obtain⟨K',env',O',h1,h2,h3,hd,h4⟩:=hp
 cases e with
 | exit id'=>
  simp only[vX]at h4;simp only[Exit.inBlock];split
  . rename_i e;rw[if_pos e]at h4;exact⟨K',env',O',h1,h2,h3,hd,h4⟩
  . rename_i e;rw[if_neg e]at h4;exact⟨K',env',O',h1,h2,h3,hd,h4⟩
 | _=>exact⟨K',env',O',h1,h2,h3,hd,h4⟩
theorem qg2.mono {c:Code}{Q':Exit->Env->St->Prop}(h:qg2 ro P G N c env O Q)(hq:∀ e env O,Q e env O->Q' e env O):qg2 ro P G N c env O Q' :=
 fun w0 ro0 K a w hw he=>wpIn_mono (h w0 ro0 K a w hw he) fun e a w x=>x.mono hq
end
theorem ky {P:Program}{G:Nat->AV}{N:Nat}{ro:Option Nat}{o:Opts}:∀ (c:Code) {env:Env} {O:St} {Q:Exit->Env->St->Prop},jw N c=true->vcC P G o c env O Q->qg2 ro P G N c env O Q
 | .skip,env,O,_,_,h=>fun w0 ro0 K a w hw he=>wpIn_skip ⟨K,env,O,Kn.le_refl K,hw,he,.same rfl,h⟩
 | .exit id,env,O,_,_,h=>fun w0 ro0 K a w hw he=>wpIn_exit ⟨K,env,O,Kn.le_refl K,hw,he,.same rfl,h⟩
 | .seq x y,env,O,Q,hk,h=>by
  simp only[jw,qq1]at hk;exact qg2.seq (qg2.mono (ky x hk.1 (by simpa only[vcC] using h)) fun e env O hq=>by
   cases e<;>first | exact ky y hk.2 hq | exact hq)
 | .cond c x y,env,O,Q,hk,h=>by
  simp only[jw,qq1]at hk;simp only[vcC]at h;split at h
  . rename_i b hb;intro w0 ro0 K a w hw he;have:=ZD hw he c;rw[hb]at this;simp only[qj]at this;exact wpIn_cond_split this (fun e=>ky x hk.1 (h.1 e) w0 ro0 K a w hw he) (fun e=>ky y hk.2 (h.2 e) w0 ro0 K a w hw he)
  . exact h.elim
 | .block id c,_,_,_,hk,h=>qg2.block (ky c hk (by simpa only[vcC] using h))
 | .region id ops false,env,O,Q,hk,h=>by
  have h':vcR P G o.mu ops false (o.lw.contains id) ops.toList env O (fun env O=>Q .normal env O):=by
   simp only[vcC]at h;exact h
  intro w0 ro0 K a w hw he;have:=wpIn_region_list (F:=FR ro) (n:=0) (P:=P) (id:=id) (ops:=ops) (a:=a) (w:=w) (Q:=Yp G w0 ro0 K N a.defers Q) (by
   have:=wK (w0:=w0) (ro0:=ro0) (by simpa only[jw] using hk) (ro:=ro) (n:=0) (more:=[]) ops.toList env O K a w (by simp) h' hw he (Q':=Yp G w0 ro0 K N a.defers Q) fun K' env' O' a' w' h1 h2 h3 hd _ h4=>⟨K',env',O',h1,h2,h3,.same hd,h4⟩
   simpa using this)
  exact this
 | .region id ops true,_,_,_,hk,_=>by simp[jw]at hk
 | .ret,_,_,_,hk,_=>by simp[jw]at hk
 | .loop c,_,_,_,hk,_=>by simp[jw]at hk
 | .rangeFunc ..,_,_,_,hk,h=>by simp[jw]at hk
 | .scope c,_,_,_,hk,h=>by simp[jw]at hk
 | .label l,_,_,_,hk,h=>by simp[jw]at hk
 | .goto l,_,_,_,hk,h=>by simp[jw]at hk
 | .refuse w,_,_,_,hk,h=>by simp[jw]at hk
theorem qiu {P:Program}{g:FuncId}(hb:bodied P g=true)(args:Array Value)(w:World):(callFunc g args).run P w=.ok (.enter g args) w:=by
 cases hg:P.funcs[g]? with
 | none=>simp[bodied,hg]at hb
 | some fn=>
  simp[bodied,hg]at hb;obtain⟨b1,b2⟩:=hb;have hbn:¬ fn.body=none:=by intro e;simp[e]at b1
  simp[callFunc,hg,b2,hbn]
theorem AWp.range {P:Program}{G:Nat->AV}{N:Nat}{env:Env}{O:St}{Q:Exit->Env->St->Prop}{o:Opts}{g:Operand}{pi pe:Nat}{x y:Code}{gb b k:Nat}{sz:Nat}{rows:List (List AV)}{tok:Tok}
 (hpi:pi<N) (hpe:pe<N) (hx:jw N x=true) (hy:jw N y=true) (hg:ev G env g=.fn gb [] [.ptr b 0]) (hbw:BwOk P G gb k) (hlen:rows.length<2 ^ 62) (hb:O.H[b]?=some (.cells [.sl sz rows tok]))
 (h:QG (fun env O Q=>vcC P G o x env O Q) (fun env O Q=>vcC P G o y env O Q) k b pi pe env rows.length O (fun O=>Q .normal env O)):AWp P G N (.rangeFunc g #[pi,pe] x y) env O Q:=by
 intro w0 ro0 K a w hw he;refine (wpIn_wide (n:=0)).1 (wpIn_rangeFunc fun fn hfn=>?_);have hv:=ZD hw he g;rw[hg]at hv;simp only[qj,qk]at hv;obtain⟨va,vb,e1,e2,v1,vr,e3,⟨B,hB,e4⟩,e5⟩:=hv;have ea:va = #[]:=qsE (by rw[<- qr0,e2];rfl);have eb:vb = #[.pointer (some ⟨B,0,none⟩)]:=by rw[<- qsM (xs:=vb),e3,e4,e5]
 subst ea eb;obtain⟨rec,hrec⟩:∃ rec:LoopState->Option Code->Loop,rec=fun st pe'=>{ state:=st,pending:=pe',fn,tmps:=a.tmps,params:=#[pi,pe],assign:=x,body:=y,defers:=w.heap.size }:=⟨_,rfl⟩
 obtain⟨W1,hW1⟩:∃ W1,(w.alloc (.deferred (some []))).alloc (.loop (rec .ready none))=W1:=⟨_,rfl⟩;have hw1:=hw.allocFix (.deferred (some []));have hw2:=hw1.allocFix (.loop (rec .ready none));rw[hW1,World.size_alloc]at hw2;obtain⟨K2,hK2⟩:∃ K2,((K.withFx fun b=>if b=w.heap.size then some (.deferred (some [])) else K.fx b).withFx fun b=>if b=w.heap.size+1 then some (.loop (rec .ready none)) else (K.withFx fun b=>if b=w.heap.size then some (.deferred (some [])) else K.fx b).fx b)=K2:=⟨_,rfl⟩;rw[hK2]at hw2;have hleK:K.le K2:=by
  rw[<- hK2];refine Kn.le_trans (Kn.le_fx fun B o e=>?_) (Kn.le_fx fun B o e=>?_)
  . have:=hw.fx_lt e;rw[if_neg (by omega)];exact e
  . have:=hw1.fx_lt e;rw[World.size_alloc]at this;rw[if_neg (by omega)];exact e
 have hL2:K2.fx (w.heap.size+1)=some (.loop (rec .ready none)):=by rw[<- hK2];simp[Kn.withFx]
 have hD2:K2.fx w.heap.size=some (.deferred (some [])):=by rw[<- hK2];simp[Kn.withFx]
 refine⟨w.heap.size+1,[mark w.heap.size],W1,{ target:=.fn (.func gb) #[.pointer (some ⟨B,0,none⟩)],args:=#[.func (.yield (w.heap.size+1)) #[] #[]] },W1,gb,
  #[.func (.yield (w.heap.size+1)) #[] #[]]++#[.pointer (some ⟨B,0,none⟩)],W1,?_,?_,fun _ _=>trivial,?_,fun e=>by simp[Fence.wide]at e,?_⟩
 . rw[<- hW1,hrec];exact run_enterLoop_outer _ _ _ _ _
 . simp only[resolve,e1];simp[go_sem]
 . simp[invoke,go_sem,qiu hbw.1]
 . refine CallsIn.mono (hbw.2 w0 ro0 b (w.heap.size+1) B K2 O W1 sz rows tok (fun i O=>QG (fun env O Q=>vcC P G o x env O Q) (fun env O Q=>vcC P G o y env O Q) k b pi pe env i O (fun O=>Q .normal env O)) hw2 (hleK.m _ _ hB) hb hlen h ?_) ?_
   . -- one round
     intro i O' K' w' hr hle' hw';simp only[QG]at hr;split at hr
     . rename_i sz' rows' tok' hb';obtain⟨hszk,hr⟩:=hr;subst hszk;split at hr
       . rename_i r hri;refine⟨rows',tok',r,hb',hri,fun v hv=>?_⟩;have hLf:=hle'.fx _ _ hL2;have hl:=(hw'.fx _ _ hLf).1;refine⟨fn,_,x,y,by have:=run_yield (P:=P) (args:=#[.int .i64 i,v]) hl (by rw[hrec];rfl);rw[hrec]at this;exact this,roundIn_of_wpIn hfn ?_⟩;have he':ERel K' N (upd (upd env (some pi) (.int .i64 i)) (some pe) (.agg r)) { tmps:=(a.tmps.setIfInBounds pi (.int .i64 i)).setIfInBounds pe v,defers:=[] }:=by
          have h0:=he.mono (Kn.le_trans hleK hle');have h1:=(h0.put (dst:=some pi) (fun d hd=>by cases hd;exact hpi) (v:=.int .i64 i) (v':=.int .i64 i) (by simp[qj])).put (dst:=some pe) (fun d hd=>by cases hd;exact hpe) hv;exact⟨h1.size,h1.val⟩
         have hasn:=ky (ro:=some (w.heap.size+1)) x hx hr w0 ro0 K' _ w' hw' he';refine wpIn_mono (F:=FR (some (w.heap.size+1))) (show Code.wpIn (FR (some (w.heap.size+1))) 0 P x _ _ w' from by simpa using hasn) ?_;rintro e a1 w1 ⟨K3,env3,O3,g1,g2,g3,_,rfl,g4⟩;have hL3:=g1.fx _ _ hLf;have hl3:=(g2.fx _ _ hL3).1;refine⟨_,run_beginRound hl3 (by rw[hrec]),?_⟩;have hw4:=g2.refix hL3 (by intros;intro e;cases e) (.loop { rec .ready none with state:=.busy });have hbody:=ky (ro:=some (w.heap.size+1)) y hy g4 w0 ro0 _ a1 _ hw4 (g3.refx _);refine wpIn_mono (F:=FR (some (w.heap.size+1))) hbody ?_;rintro e a5 w5 ⟨K5,env5,O5,k1,k2,k3,_,rfl,k4⟩;have hL5:K5.fx (w.heap.size+1)=some (.loop { rec .ready none with state:=.busy }):=k1.fx _ _ (by simp[Kn.withFx]);have hl5:=(k2.fx _ _ hL5).1;have hw6:=k2.refix hL5 (by intros;intro e;cases e) (.loop (rec .ready none));refine⟨.bool true,w5.putObj (w.heap.size+1) (.loop (rec .ready none)),?_,rfl,_,O5,?_,hw6,k4⟩
         . have:=run_endRound (P:=P) none hl5;rw[hrec]at this ⊢;exact this
         . refine Kn.le_trans g1 (Kn.le_swap k1 fun B o e=>?_);by_cases hBL:B=w.heap.size+1
           . subst hBL;rw[hL3]at e;simp[e]
           . rw[if_neg hBL];refine k1.fx B o ?_;simp only[Kn.withFx,if_neg hBL];exact e
       . exact hr.elim
     . exact hr.elim
   . -- behind the QG
     rintro e w' ⟨⟨v,rfl⟩,K',O',hle',hw',hS⟩;have hLf:=hle'.fx _ _ hL2;have hl:=(hw'.fx _ _ hLf).1;have hw3:=(hw'.refix hLf (by intros;intro e;cases e) (.loop { rec .ready none with state:=.exhausted })).unfix (f:=fun B=>if B=w.heap.size+1 then none else K'.fx B) (by
      intro B o e;by_cases hBL:B=w.heap.size+1
      . rw[if_pos hBL]at e;cases e
      . rw[if_neg hBL]at e;simp only[Kn.withFx,if_neg hBL];exact e)
     refine⟨none,w'.putObj (w.heap.size+1) (.loop { rec .ready none with state:=.exhausted }),?_,?_⟩
     . have:=run_endLoop (P:=P) hl (by rw[hrec];simp);rw[hrec]at this ⊢;exact this
     . have hle3:K.le (K'.withFx fun B=>if B=w.heap.size+1 then none else K'.fx B):=by
        have:(K.withFx K.fx).le K':=Kn.le_trans hleK hle';refine Kn.le_swap this fun B o e=>?_
        have:=hw.fx_lt e;rw[if_neg (by omega)];exact hle'.fx _ _ (hleK.fx _ _ e)
       have hfin:QG (fun env O Q=>vcC P G o x env O Q) (fun env O Q=>vcC P G o y env O Q) k b pi pe env 0 O' (fun O=>Q .normal env O):=hS;simp only[QG]at hfin;refine⟨_,env,O',hle3,hw3,⟨he.size,(he.mono hle3).val⟩,⟨[w.heap.size],by simp,rfl,fun D hD=>?_⟩,hfin⟩;simp only[qrM]at hD;subst hD;refine⟨?_,?_⟩
       . cases e:K.fx w.heap.size with
         | none=>rfl
         | some o=>have:=hw.fx_lt e;omega
       . simp only[Kn.withFx];rw[if_neg (by omega)];exact hle'.fx _ _ hD2
theorem kU {P:Program}{G:Nat->AV}{N:Nat}{o:Opts}(hm:P.follows .mixedOrders=true):∀ (c:Code) {env:Env} {O:St} {Q:Exit->Env->St->Prop},j8 N o c=true->vcC P G o c env O Q->AWp P G N c env O Q
 | .skip,_,_,_,_,h=>AWp.skip h
 | .ret,_,_,_,_,h=>AWp.ret h
 | .exit id,_,_,_,_,h=>AWp.exit h
 | .seq x y,env,O,Q,hk,h=>by
  simp only[j8,qq1]at hk;exact AWp.seq (AWp.mono (kU hm x hk.1 (by simpa only[vcC] using h)) fun e env O hq=>by
   cases e<;>first | exact kU hm y hk.2 hq | exact hq)
 | .cond c x y,env,O,Q,hk,h=>by
  simp only[j8,qq1]at hk;simp only[vcC]at h;split at h
  . rename_i b hb;exact AWp.cond hb (fun e=>kU hm x hk.1 (h.1 e)) (fun e=>kU hm y hk.2 (h.2 e))
  . exact h.elim
 | .block id c,_,_,_,hk,h=>AWp.block (kU hm c hk (by simpa only[vcC] using h))
 | .region id ops false,env,O,Q,hk,h=>by
  simp only[j8,qq1]at hk;have h':vcR P G o.mu ops false (o.lw.contains id) ops.toList env O (fun env O=>Q .normal env O):=by
   simp only[vcC]at h;exact h
  intro w0 ro0 K a w hw he;have:=wp_region_lit (P:=P) (id:=id) (l:=ops.toList) (a:=a) (w:=w) (Q:=Yp G w0 ro0 K N a.defers Q) (qbZ (by simpa using hk.1) ops.toList env O K a w (by simp) (by simpa using h') hw he fun K' env' O' a' w' h1 h2 h3 hd h4=>⟨K',env',O',h1,h2,h3,.same hd,h4⟩);simpa using this
 | .region id ops true,env,O,Q,hk,h=>by
  simp only[j8,qq1,qrV,qt5,qrq,false_or]at hk;simp only[vcC]at h
  cases hl:o.fk.lookup id with
  | none=>
   rw[hl]at hk h;simp only at hk h;refine AWp.any hm hk.1 (mu:=o.mu) (ac:=if o.lw.contains id then [ops.size-1] else []) ?_;have:=qkj (P:=P) (G:=G) (ops:=ops) (lw:=o.lw.contains id) (mu:=o.mu) ops.toList 0 (Array.replicate ops.size false) env O (by simp) (by simp) (by simpa[qoE] using hk.2) h;simpa using this
  | some p=>
   obtain⟨s,ac⟩:=p;rw[hl]at hk h;simp only[qq1,decide_eq_true_eq]at hk h;exact AWp.any hm hk.1 (mu:=o.mu) (ac:=ac) (qeb s ops.size _ env O hk.2.1 hk.2.2 h)
 | .loop c,_,_,_,hk,h=>by
  simp only[vcC]at h;obtain⟨I,n,h0,hr⟩:=h;exact AWp.loop I n h0 fun n env O hI=>kU hm c hk (hr n env O hI)
 | .rangeFunc g ps x y,env,O,Q,hk,h=>by
  simp only[j8,qq1]at hk;obtain⟨⟨hk1,hk2⟩,hk3⟩:=hk;simp only[vcC]at h;split at h
  . rename_i pi pe gb b hps hg;obtain⟨k,hbw,h⟩:=h;rw[hps]at hk1;simp only[qq1,decide_eq_true_eq]at hk1;split at h
    . rename_i sz rows tok hb;have:ps = #[pi,pe]:=by rw[<- qsM (xs:=ps),hps]
      subst this;exact AWp.range hk1.1 hk1.2 hk2 hk3 hg hbw h.1 hb h.2
    . exact h.elim
  . exact h.elim
 | .scope c,_,_,_,hk,h=>by simp[j8]at hk
 | .label l,_,_,_,hk,h=>by simp[j8]at hk
 | .goto l,_,_,_,hk,h=>by simp[j8]at hk
 | .refuse w,_,_,_,hk,h=>by simp[j8]at hk
section
variable {P:Program}{G:Nat->AV}{O:St}{f:FuncId}{args args':List AV}{r r':AV}
theorem Pure.sub (h:Pure P G f args' r')(ha:zt args args')(hr:Leq r' r):Pure P G f args r :=
 ⟨h.1,fun w0 ro vs hg hro hvs=>(h.2 w0 ro vs hg hro (zt.rel _ _ ha hvs)).mono fun e w' ⟨v,ro',h1,h2,h3,h4,h5,h6⟩=>⟨v,ro',h1,h2,h3,h4,h5,Leq.rel _ _ hr h6⟩⟩
theorem Pure.less (h:Pure P G f args' r)(ha:zt args args'):Pure P G f args r:=h.sub ha (Leq.refl r)
theorem qq.pure {Q:AV->St->Prop}(h:Pure P G f args' r)(hno:qu (args.map plain)=true)(ha:zt (args.map plain) args')(hq:Q r O):qq P G f args O Q :=
 Zw.acall (.inl ⟨hno,h.less ha⟩) hq
theorem Zw.pure (h:Pure P G f args' r)(hno:qu (args.map plain)=true)(ha:zt (args.map plain) args'):Zw P G f args O r:=.inl ⟨hno,h.less ha⟩
theorem Zw.lent (h:Pure P G f args' r)(hb:bare r=true)(ha:zt (args.map (frz O.H 8)) args'):Zw P G f args O r:=.inr ⟨hb,h.less ha⟩
theorem qe.of {d:Bool}{Q:AV->St->Prop}(h:Zw P G f args O r)(hq:Q r O):qe P G d f args O Q:=by
 cases d
 . exact h.acall hq
 . exact⟨r,h,hq⟩
theorem qe.pure {d:Bool}{Q:AV->St->Prop}(h:Pure P G f args' r)(hno:qu (args.map plain)=true)(ha:zt (args.map plain) args')(hq:Q r O):qe P G d f args O Q:=.of (.pure h hno ha) hq
theorem qe.lent {d:Bool}{Q:AV->St->Prop}(h:Pure P G f args' r)(hb:bare r=true)(ha:zt (args.map (frz O.H 8)) args')(hq:Q r O):qe P G d f args O Q:=.of (.lent h hb ha) hq
def qkN (P:Program)(deep:Bool)(rs:List ResultVar)(r:AV)(env:Env)(O:St):Prop :=
 match qf7 (Dof P) rs env O with
 | some l=>match deep with
  | false=>zg (fin O.H (Vx l))=true/\Leq (fin O.H (Vx l)) r
  | true=>zg (frz O.H 8 (Vx l))=true/\Leq (frz O.H 8 (Vx l)) r
 | none=>False
def qdh (P:Program)(deep:Bool)(rs:List ResultVar)(r:AV):Exit->Env->St->Prop
 | .ret,env,O=>qkN P deep rs r env O
 | .normal,env,O=>qkN P deep rs r env O
 | _,_,_=>False
theorem Pure.vcO {fn : Func} {c : Code} (o : Opts) (deep : Bool) (hm : P.follows .mixedOrders = true) (hf : P.funcs[f]? = some fn) (hb : fn.body = some c) (hk : (j8 fn.ntmps o c && decide (args.length ≤ fn.ntmps) && fn.name != "runtime.NumGoroutine") = true)
 (h:vcC P G o c (JI args) ⟨[],[]⟩ (qdh P deep fn.results.toList r)):Pure P G f args r:=by
 simp only[qq1,decide_eq_true_eq,bne_iff_ne,ne_eq]at hk;refine Pure.of_body hf hb hk.2 hk.1.2 (AWp.mono (kU hm c hk.1.1 h) fun e env O hq=>?_);have key:qkN P deep fn.results.toList r env O->∃ l,qf7 (Dof P) fn.results.toList env O=some l/\((zg (fin O.H (Vx l))=true/\Leq (fin O.H (Vx l)) r)\/(zg (frz O.H 8 (Vx l))=true/\Leq (frz O.H 8 (Vx l)) r)):=fun h=>by
  unfold qkN at h;split at h
  . rename_i l hl;cases deep
    . exact⟨l,hl,.inl h⟩
    . exact⟨l,hl,.inr h⟩
  . exact h.elim
 cases e with
 | ret=>exact⟨.inl rfl,key hq⟩
 | normal=>exact⟨.inr rfl,key hq⟩
 | _=>exact hq.elim
theorem Pure.vc {fn : Func} {c : Code} (hm : P.follows .mixedOrders = true) (hf : P.funcs[f]? = some fn) (hb : fn.body = some c) (hk : (j8 fn.ntmps o0 c && decide (args.length ≤ fn.ntmps) && fn.name != "runtime.NumGoroutine") = true)
 (h:vcC P G o0 c (JI args) ⟨[],[]⟩ (qdh P false fn.results.toList r)):Pure P G f args r:=Pure.vcO o0 false hm hf hb hk h
end
end
end Go.Abs
end
