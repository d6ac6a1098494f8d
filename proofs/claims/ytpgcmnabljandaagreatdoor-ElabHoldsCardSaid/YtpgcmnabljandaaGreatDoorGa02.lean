/- A part of the proof: AbsWorld AbsMem AbsMem2. -/
import Derived.Test.YtpgcmnabljandaaGreatDoorGa01
set_option linter.unusedVariables false
set_option linter.unusedSimpArgs false
section
namespace Go.Abs
open Go Go.RowKit
section
def BlkRel (K:Kn):Blk→Option Obj→Prop
 | .cells c,o=>∃ cs el,o=some (.cells cs el (0,0))∧c.all AV.atom=true∧c.length≤cs.size∧∀ (i:Nat) (a:AV),c[i]?=some a→∃ v,cs[i]?=some v∧VRel K a v
 | .map es clock,o=>∃ es',o=some (.map es' clock)∧es'.size=es.length ∧
  ∀ (i:Nat) (k v:AV) (b:Nat),es[i]?=some (k,v,b)→∃ e:MapEntry,es'[i]?=some e∧VRel K k e.key∧VRel K v e.val∧e.born=b
 | .siter s pos,o=>o=some (.stringIter ⟨s.toArray⟩ pos)
 | .miter mb since seen st,o=>∃ mB,o=some (.mapIter mB since seen.toArray st) ∧
  (match mb with | none=>mB=none | some b=>∃ B,K.m b=some B∧mB=some B)
 | .dead,_=>True
 | .raw n,o=>∃ x,K.rw n=some x∧o=some x
theorem BlkRel.mono {K K':Kn} (h:K.le K') {b:Blk} {o:Option Obj} (x:BlkRel K b o):BlkRel K' b o:=by
 cases b with
 | cells c=>
  obtain⟨cs,el,h1,h0,h2,h3⟩:=x
  exact⟨cs,el,h1,h0,h2,fun i a e=>by obtain⟨v,h4,h5⟩:=h3 i a e;exact⟨v,h4,h5.mono h⟩⟩
 | map es clock=>
  obtain⟨es',h1,h2,h3⟩:=x
  exact⟨es',h1,h2,fun i k v b e=>by obtain⟨e',h4,h5,h6,h7⟩:=h3 i k v b e;exact⟨e',h4,h5.mono h,h6.mono h,h7⟩⟩
 | siter s pos=>simpa [BlkRel] using x
 | miter mb since seen st=>
  obtain⟨mB,h1,h2⟩:=x
  refine⟨mB,h1,?_⟩
  cases mb with
  | none=>exact h2
  | some b=>obtain⟨B,h3,h4⟩:=h2;exact⟨B,h.m _ _ h3,h4⟩
 | dead=>simp [BlkRel]
 | raw n=>obtain⟨y,h1,h2⟩:=x;exact⟨y,h.rw _ _ h1,h2⟩
structure WRel (G:Nat→AV) (w0:World) (ro0:Nat→Nat→Option Value) (K:Kn) (σ:St) (w:World):Prop where
 below:Below w0.heap.size w0 w
 glob:∀ g,VRel (K0 K.ro) (G g) (.pointer (some ⟨g,0,none⟩))
 ro:∀ b o v,K.ro b o=some v→w.cell? ⟨b,o,none⟩=some v
 new:∀ b o v,K.ro b o=some v→b<w0.heap.size→ro0 b o=some v
 blk:∀ i b,σ.H[i]?=some b→∃ B,K.m i=some B∧w0.heap.size≤B∧B<w.heap.size∧BlkRel K b w.heap[B]?∧∀ o,K.ro B o=none
 inj:∀ i j B,K.m i=some B→K.m j=some B→i=j∨σ.H[i]?=some .dead∨σ.H[j]?=some .dead
 mlt:∀ i B,K.m i=some B→i<σ.H.length
 ch:∀ t k,σ.T[t]?=some (some k)→∃ C,K.ch t=some C∧C.k=k∧w0.heap.size≤C.B∧C.fin≤C.cap ∧
  (∃ cs el,w.heap[C.B]?=some (.cells cs el (0,0))∧cs.size=C.cap)∧(∀ o,C.fin≤o→K.ro C.B o=none)∧∀ i,K.m i≠some C.B
 chd:∀ t C,K.ch t=some C→∃ k,σ.T[t]?=some (some k)
 chinj:∀ t u C C',K.ch t=some C→K.ch u=some C'→C.B=C'.B→t=u
 nch:K.nch=σ.T.length
 bsz:∀ i B cs el fr,K.m i=some B→w.heap[B]?=some (.cells cs el fr)→cs.size=K.bs i
 fx:∀ B o,K.fx B=some o→w.heap[B]?=some o∧w0.heap.size≤B∧(∀ i,K.m i≠some B)∧∀ t C,K.ch t=some C→C.B≠B
 rwl:∀ n o,K.rw n=some o→n<2*σ.H.length
structure ERel (K:Kn) (N:Nat) (env:Env) (a:Act):Prop where
 size:a.tmps.size=N
 val:∀ t,VRel K (env t) (a.tmps.getD t undef)
theorem ERel.mono {K K':Kn} (h:K.le K') {N:Nat} {env:Env} {a:Act} (x:ERel K N env a):ERel K' N env a :=
 ⟨x.size,fun t=>(x.val t).mono h⟩
theorem ERel.put {K:Kn} {N:Nat} {env:Env} {a:Act} (x:ERel K N env a) {dst:Option Nat} (hd:∀ d,dst=some d→d<N) {v:AV} {v':Value} (hv:VRel K v v') :
 ERel K N (upd env dst v) (a.put dst v'):=by
 cases dst with
 | none=>exact x
 | some d=>
  refine⟨by simpa [Act.put] using x.size,fun t=>?_⟩
  have hlt:=hd d rfl
  simp only [Act.put,upd]
  by_cases ht:t=d
  · subst ht
    have:t<a.tmps.size:=by rw [x.size];exact hlt
    simpa [Array.getElem?_setIfInBounds,this] using hv
  · have:=x.val t
    have hne:¬ d=t:=fun e=>ht e.symm
    simpa [ht,Array.getElem?_setIfInBounds,hne] using this
theorem VRel.ofAtom (K:Kn) (v:Value):VRel K (ofAtom v) v:=by
 cases v with
 | pointer a=>cases a<;>simp [Abs.ofAtom,VRel]
 | slice a l c=>
  unfold Abs.ofAtom
  split<;>first | (simp_all [VRel,Tok.plain];done) | simp_all [VRel]
 | map r=>cases r<;>simp [Abs.ofAtom,VRel]
 | func f a b=>
  cases f<;>simp only [Abs.ofAtom]<;>first | (simp [VRel];done) | skip
  split
  · rename_i h
    obtain⟨h1,h2⟩:=h
    refine⟨a,b,rfl,?_,?_⟩
    · have:a = #[]:=Array.eq_empty_of_size_eq_zero h1
      subst this;simp [VRels]
    · have:b = #[]:=Array.eq_empty_of_size_eq_zero h2
      subst this;simp [VRels]
  · simp [VRel]
 | _=>simp [Abs.ofAtom,VRel]
theorem VRels.ofAtoms (K:Kn):∀ l:List Value,VRels K (l.map Abs.ofAtom) l
 | []=>by simp [VRels]
 | v::r=>by simp only [List.map_cons,VRels];exact⟨v,r,rfl,VRel.ofAtom K v,VRels.ofAtoms K r⟩
theorem VRel.ofV (K:Kn) (v:Value):VRel K (ofV v) v:=by
 have h:=VRel.ofAtom K v
 cases v with
 | agg cs=>simp only [Abs.ofV,VRel];exact⟨cs,rfl,VRels.ofAtoms K _⟩
 | tuple vs=>
  simp only [Abs.ofV]
  split
  · rename_i h
    have:vs = #[]:=Array.eq_empty_of_size_eq_zero h
    subst this
    exact⟨#[],rfl,by simp [VRels]⟩
  · simp [VRel]
 | _=>simpa only [Abs.ofV] using h
section
variable {P:Program} {G:Nat→AV} {w0:World} {ro0:Nat→Nat→Option Value} {K:Kn} {σ:St} {w:World} {N:Nat} {env:Env} {a:Act}
theorem ev_rel (hw:WRel G w0 ro0 K σ w) (he:ERel K N env a) (x:Operand):VRel K (ev G env x) (a.eval x):=by
 cases x with
 | tmp t=>exact he.val t
 | const v=>exact VRel.ofV K v
 | global g=>exact (hw.glob g).mono (K0_le K)
 | func f=>exact⟨#[],#[],rfl,by simp [VRels],by simp [VRels]⟩
theorem opds_rel (hw:WRel G w0 ro0 K σ w) (he:ERel K N env a):∀ l:List Operand,VRels K (opds G env l) (l.map a.eval)
 | []=>by simp [opds,VRels]
 | x::r=>by
  simp only [opds,List.map_cons,VRels]
  exact⟨_,_,rfl,ev_rel hw he x,opds_rel hw he r⟩
end
theorem VRels.length {K:Kn}:∀ {l:List AV} {vs:List Value},VRels K l vs→vs.length=l.length
 | [],_,h=>by simp only [VRels] at h;simp [h]
 | a::r,_,h=>by
  simp only [VRels] at h
  obtain⟨v,vr,rfl,_,h2⟩:=h
  simp [VRels.length h2]
theorem VRels.get {K:Kn}:∀ {l:List AV} {vs:List Value},VRels K l vs→∀ (i:Nat) (a:AV),l[i]?=some a→∃ v,vs[i]?=some v∧VRel K a v
 | [],_,h,i,a,e=>by simp at e
 | a::r,_,h,i,b,e=>by
  simp only [VRels] at h
  obtain⟨v,vr,rfl,h1,h2⟩:=h
  cases i with
  | zero=>simp at e;subst e;exact⟨v,by simp,h1⟩
  | succ i=>simp at e ⊢;exact VRels.get h2 i b e
theorem VRels.intro {K:Kn}:∀ {l:List AV} {vs:List Value},vs.length=l.length→(∀ (i:Nat) (a:AV),l[i]?=some a→∃ v,vs[i]?=some v∧VRel K a v)→VRels K l vs
 | [],vs,h,_=>by simp only [VRels];exact List.eq_nil_of_length_eq_zero (by simpa using h)
 | a::r,[],h,_=>by simp at h
 | a::r,v::vr,h,k=>by
  simp only [VRels]
  obtain⟨v',e,h1⟩:=k 0 a (by simp)
  simp at e
  subst e
  refine⟨v,vr,rfl,h1,VRels.intro (by simpa using h) fun i b e=>?_⟩
  simpa using k (i+1) b (by simpa using e)
theorem VRels.append {K:Kn}:∀ {l m:List AV} {vs us:List Value},VRels K l vs→VRels K m us→VRels K (l++m) (vs++us)
 | [],_,_,_,h,k=>by simp only [VRels] at h;subst h;simpa using k
 | a::r,_,_,_,h,k=>by
  simp only [VRels] at h
  obtain⟨v,vr,rfl,h1,h2⟩:=h
  simp only [List.cons_append,VRels]
  exact⟨v,_,rfl,h1,VRels.append h2 k⟩
theorem VRel.oneCell {K:Kn} {a:AV} {v:Value} (h:VRel K a v) (ha:a.atom=true):v.oneCell'=true:=by
 cases a<;>simp only [AV.atom,VRel] at h ha
 case any=>cases ha
 case agg=>cases ha
 case tup=>cases ha
 case sl=>rcases h with ⟨⟨_,rfl,_⟩,_⟩ | ⟨_,_,_,rfl,_⟩<;>rfl
 all_goals first
  | (subst h;rfl)
  | (obtain⟨_,_,rfl⟩:=h;rfl)
  | (obtain⟨_,_,rfl,_⟩:=h;rfl)
  | (obtain⟨_,_,_,rfl,_⟩:=h;rfl)
theorem VRels.oneCells {K:Kn}:∀ {l:List AV} {vs:List Value},VRels K l vs→l.all AV.atom=true→∀ v∈vs,v.oneCell'=true
 | [],_,h,_,v,hv=>by simp only [VRels] at h;subst h;cases hv
 | a::r,_,h,ha,u,hu=>by
  simp only [VRels] at h
  obtain⟨v,vr,rfl,h1,h2⟩:=h
  simp only [List.all_cons,Bool.and_eq_true] at ha
  rcases List.mem_cons.1 hu with rfl|hu
  · exact h1.oneCell ha.1
  · exact VRels.oneCells h2 ha.2 u hu
theorem acells_rel {K:Kn} {x:AV} {v:Value} {c:List AV} (h:VRel K x v) (hc:acells x=some c):VRels K c v.cells.toList∧c.all AV.atom=true:=by
 cases x with
 | any=>simp [acells] at hc
 | tup vs=>simp [acells] at hc
 | agg cs=>
  simp only [acells] at hc
  split at hc
  · rename_i ha
    simp at hc;subst hc
    simp only [VRel] at h
    obtain⟨vs,rfl,h2⟩:=h
    exact⟨h2,ha⟩
  · simp at hc
 | _=>
  simp only [acells,Option.some.injEq] at hc
  subst hc
  have h1:=h.oneCell rfl
  refine⟨?_,rfl⟩
  cases v<;>first | (simp [Value.oneCell'] at h1;done) | exact⟨_,_,rfl,h,rfl⟩
def Lies (K:Kn) (w:World) (B off:Nat) (c:List AV):Prop :=
 ∃ vs:List Value,VRels K c vs∧∀ (j:Nat) (v:Value),vs[j]?=some v→w.cell? ⟨B,off+j,none⟩=some v
theorem Lies.of_cellsAt {K:Kn} {w:World} (hro:∀ b o v,K.ro b o=some v→w.cell? ⟨b,o,none⟩=some v) (B:Nat):∀ (c:List AV) (off:Nat),CellsAt K B off c→Lies K w B off c
 | [],off,_=>⟨[],by simp [VRels],by simp⟩
 | a::r,off,h=>by
  simp only [CellsAt] at h
  obtain⟨⟨v,h1,h2⟩,h3⟩:=h
  obtain⟨vs,h4,h5⟩:=Lies.of_cellsAt hro B r (off+1) h3
  refine⟨v::vs,by simp only [VRels];exact⟨v,vs,rfl,h2,h4⟩,fun j u e=>?_⟩
  cases j with
  | zero=>simp at e;subst e;simpa using hro _ _ _ h1
  | succ j=>simp at e;have:=h5 j u e;rwa [show off+1+j=off+(j+1) by omega] at this
theorem CellsAt.drop {K:Kn} (B:Nat):∀ (c:List AV) (off n:Nat),CellsAt K B off c→CellsAt K B (off+n) (c.drop n)
 | [],off,n,_=>by simp [CellsAt]
 | a::r,off,0,h=>by simpa using h
 | a::r,off,n+1,h=>by
  simp only [CellsAt] at h
  have:=CellsAt.drop B r (off+1) n h.2
  rw [show off+1+n=off+(n+1) by omega] at this
  simpa using this
theorem CellsAt.take {K:Kn} (B:Nat):∀ (c:List AV) (off n:Nat),CellsAt K B off c→CellsAt K B off (c.take n)
 | [],off,n,_=>by simp [CellsAt]
 | a::r,off,0,h=>by simp [CellsAt]
 | a::r,off,n+1,h=>by
  simp only [CellsAt,List.take_succ_cons] at h ⊢
  exact⟨h.1,CellsAt.take B r (off+1) n h.2⟩
theorem CellsAt.get {K:Kn} (B:Nat):∀ (c:List AV) (off:Nat),CellsAt K B off c→∀ (i:Nat) (a:AV),c[i]?=some a→∃ v,K.ro B (off+i)=some v∧VRel K a v
 | [],_,_,i,a,e=>by simp at e
 | b::r,off,h,i,a,e=>by
  simp only [CellsAt] at h
  cases i with
  | zero=>simp at e;subst e;simpa using h.1
  | succ i=>simp at e;have:=CellsAt.get B r (off+1) h.2 i a e;rwa [show off+1+i=off+(i+1) by omega] at this
theorem CellsAt.intro {K:Kn} (B:Nat):∀ (c:List AV) (off:Nat),(∀ (i:Nat) (a:AV),c[i]?=some a→∃ v,K.ro B (off+i)=some v∧VRel K a v)→CellsAt K B off c
 | [],_,_=>by simp [CellsAt]
 | b::r,off,h=>by
  simp only [CellsAt]
  exact⟨by simpa using h 0 b (by simp),CellsAt.intro B r (off+1) fun i a e=>by have:=h (i+1) a (by simpa using e);rwa [show off+(i+1)=off+1+i by omega] at this⟩
theorem RowsAt.get {K:Kn} (B sz:Nat):∀ (rs:List (List AV)) (off:Nat),RowsAt K B off sz rs→∀ (i:Nat) (r:List AV),rs[i]?=some r→r.length=sz∧r.all AV.atom=true∧CellsAt K B (off+i*sz) r
 | [],_,_,i,a,e=>by simp at e
 | b::rs,off,h,i,r,e=>by
  simp only [RowsAt] at h
  cases i with
  | zero=>simp at e;subst e;simpa using h.1
  | succ i=>simp at e;have:=RowsAt.get B sz rs (off+sz) h.2 i r e;rwa [show off+sz+i*sz=off+(i+1)*sz by rw [Nat.add_mul];omega] at this
theorem RowsAt.intro {K:Kn} (B sz:Nat):∀ (rs:List (List AV)) (off:Nat),(∀ (i:Nat) (r:List AV),rs[i]?=some r→r.length=sz∧r.all AV.atom=true∧CellsAt K B (off+i*sz) r)→RowsAt K B off sz rs
 | [],_,_=>by simp [RowsAt]
 | b::rs,off,h=>by
  simp only [RowsAt]
  exact⟨by simpa using h 0 b (by simp),RowsAt.intro B sz rs (off+sz) fun i r e=>by have:=h (i+1) r (by simpa using e);rwa [show off+(i+1)*sz=off+sz+i*sz by rw [Nat.add_mul];omega] at this⟩
theorem RowsAt.flat {K:Kn} (B sz:Nat):∀ (rs:List (List AV)) (off:Nat),RowsAt K B off sz rs→CellsAt K B off rs.flatten∧rs.flatten.length=rs.length*sz∧rs.flatten.all AV.atom=true
 | [],_,_=>by simp [CellsAt]
 | r::rs,off,h=>by
  simp only [RowsAt] at h
  obtain⟨⟨h1,h2,h3⟩,h4⟩:=h
  obtain⟨i1,i2,i3⟩:=RowsAt.flat B sz rs (off+sz) h4
  refine⟨?_,by simp [h1,Nat.add_mul];rw [← List.length_flatten,i2];omega,by simp [List.all_append,h2];simpa using i3⟩
  simp only [List.flatten_cons]
  refine CellsAt.intro B _ off fun i a e=>?_
  rw [List.getElem?_append] at e
  split at e
  · exact CellsAt.get B _ _ h3 i a e
  · rename_i hlt
    have:=CellsAt.get B _ _ i1 (i-r.length) a e
    rwa [show off+sz+(i-r.length)=off+i by omega] at this
end
section
theorem addr_add (B off j:Nat):(⟨B,off,none⟩:Addr).add j=⟨B,off+j,none⟩:=by
 unfold Addr.add;split<;>simp_all
def Kn.addM (K:Kn) (i B n:Nat):Kn:={ K with m:=fun j=>if j=i then some B else K.m j,bs:=fun j=>if j=i then n else K.bs j }
def objSize:Obj→Nat
 | .cells cs _ _=>cs.size
 | _=>0
def Kn.addRo (K:Kn) (B lo:Nat) (vs:List Value):Kn :=
 { K with ro:=fun b o=>if b=B∧lo≤o∧o<lo+vs.length then vs[o-lo]? else K.ro b o }
def Kn.setCh (K:Kn) (t:Nat) (C:Chn) (n:Nat):Kn:={ K with ch:=fun u=>if u=t then some C else K.ch u,nch:=n }
section
variable {P:Program} {G:Nat→AV} {w0:World} {ro0:Nat→Nat→Option Value} {K:Kn} {σ:St} {w:World}
theorem WRel.ro_lt (h:WRel G w0 ro0 K σ w) {b o:Nat} {v:Value} (e:K.ro b o=some v):b<w.heap.size :=
 World.block_lt_of_cell? w ⟨b,o,none⟩ (h.ro b o v e)
theorem WRel.ro_new (h:WRel G w0 ro0 K σ w) (o:Nat):K.ro w.heap.size o=none:=by
 cases e:K.ro w.heap.size o with
 | none=>rfl
 | some v=>have:=h.ro_lt e;omega
theorem WRel.m_lt (h:WRel G w0 ro0 K σ w) {i B:Nat} (e:K.m i=some B):B<w.heap.size∧w0.heap.size≤B:=by
 have hi:=h.mlt i B e
 obtain⟨B',h1,h2,h3,_⟩:=h.blk i σ.H[i] (by simp [hi])
 rw [e] at h1
 cases h1
 exact⟨h3,h2⟩
theorem WRel.ch_lt (h:WRel G w0 ro0 K σ w) {t:Nat} {C:Chn} (e:K.ch t=some C):C.B<w.heap.size∧w0.heap.size≤C.B∧t<K.nch:=by
 obtain⟨k,hk⟩:=h.chd t C e
 obtain⟨C',h1,_,h3,_,⟨cs,el,h5,_⟩,_⟩:=h.ch t k hk
 rw [e] at h1
 cases h1
 have:t<σ.T.length:=(List.getElem?_eq_some_iff.1 hk).1
 exact⟨(Array.getElem?_eq_some_iff.1 h5).1,h3,by rw [h.nch];exact this⟩
theorem WRel.size_le (h:WRel G w0 ro0 K σ w):w0.heap.size≤w.heap.size:=h.below.size
theorem WRel.drew (h:WRel G w0 ro0 K σ w):WRel G w0 ro0 K σ w.drew :=
 ⟨h.below.drew,h.glob,h.ro,h.new,h.blk,h.inj,h.mlt,h.ch,h.chd,h.chinj,h.nch,h.bsz,h.fx,h.rwl⟩
def Kn.withFx (K:Kn) (f:Nat→Option Obj):Kn:={ K with fx:=f }
theorem Kn.le0_fx (K:Kn) (f g:Nat→Option Obj):(K.withFx f).le0 (K.withFx g):=⟨fun _ _ _ e=>e,fun _ _ e=>e,Nat.le_refl _,fun t C _ e=>⟨C,e,.inl rfl⟩,fun _ _ _=>rfl⟩
theorem VRel.refx {K:Kn} {a:AV} {v:Value} (f:Nat→Option Obj) (h:VRel K a v):VRel (K.withFx f) a v:=VRel.mono0 (Kn.le0_fx K K.fx f) a h
theorem ERel.refx {K:Kn} {N:Nat} {env:Env} {a:Act} (f:Nat→Option Obj) (h:ERel K N env a):ERel (K.withFx f) N env a:=⟨h.size,fun t=>(h.val t).refx f⟩
theorem BlkRel.refx {K:Kn} {b:Blk} {o:Option Obj} (f:Nat→Option Obj) (x:BlkRel K b o):BlkRel (K.withFx f) b o:=by
 cases b with
 | cells c=>
  obtain⟨cs,el,h1,h0,h2,h3⟩:=x
  exact⟨cs,el,h1,h0,h2,fun i a e=>by obtain⟨v,h4,h5⟩:=h3 i a e;exact⟨v,h4,h5.refx f⟩⟩
 | map es clock=>
  obtain⟨es',h1,h2,h3⟩:=x
  exact⟨es',h1,h2,fun i k v b e=>by obtain⟨e',h4,h5,h6,h7⟩:=h3 i k v b e;exact⟨e',h4,h5.refx f,h6.refx f,h7⟩⟩
 | siter s pos=>simpa [BlkRel] using x
 | miter mb since seen st=>exact x
 | dead=>simp [BlkRel]
 | raw n=>exact x
theorem WRel.unfix (h:WRel G w0 ro0 K σ w) {f:Nat→Option Obj} (hf:∀ B o,f B=some o→K.fx B=some o):WRel G w0 ro0 (K.withFx f) σ w :=
 ⟨h.below,h.glob,h.ro,h.new,fun i b e=>by obtain⟨B,h1,h2,h3,h4,h5⟩:=h.blk i b e;exact⟨B,h1,h2,h3,h4.refx f,h5⟩,h.inj,h.mlt,h.ch,h.chd,h.chinj,h.nch,h.bsz,fun B o e=>h.fx B o (hf B o e),h.rwl⟩
theorem WRel.refix (h:WRel G w0 ro0 K σ w) {B:Nat} {o:Obj} (hB:K.fx B=some o) (hc:∀ c el fr,o≠.cells c el fr) (o':Obj) :
 WRel G w0 ro0 (K.withFx fun b=>if b=B then some o' else K.fx b) σ { w with heap:=w.heap.setIfInBounds B o' }:=by
 obtain⟨b1,b2,b3,b4⟩:=h.fx B o hB
 have hlt:B<w.heap.size:=(Array.getElem?_eq_some_iff.1 b1).1
 have oth:∀ k,k≠B→(w.heap.setIfInBounds B o')[k]?=w.heap[k]? := fun k hk=>by simp [Array.getElem?_setIfInBounds_ne (Ne.symm hk)]
 have hro:∀ b o v,K.ro b o=some v→b≠B:=by
  intro b o1 v e eb
  subst eb
  have:=h.ro _ _ _ e
  unfold World.cell? at this
  rw [b1] at this
  cases o<;>first | exact hc _ _ _ rfl | simp at this
 refine⟨h.below.trans ⟨rfl,rfl,rfl,by simp,fun k hk=>oth k (by omega)⟩,h.glob,?_,h.new,?_,h.inj,h.mlt,?_,h.chd,h.chinj,h.nch,?_,?_,h.rwl⟩
 · intro b o1 v e
   rw [World.cell?_of_block (w:=w) (oth b (hro b o1 v e))]
   exact h.ro b o1 v e
 · intro i b e
   obtain⟨B',h1,h2,h3,h4,h5⟩:=h.blk i b e
   refine⟨B',h1,h2,by simpa using h3,?_,h5⟩
   show BlkRel _ b (w.heap.setIfInBounds B o')[B']?
   rw [oth B' (fun e=>b3 i (e▸h1))]
   exact h4.refx _
 · intro t k e
   obtain⟨C,c1,c2,c3,c4,⟨cs,el,c5,c6⟩,c7,c8⟩:=h.ch t k e
   refine⟨C,c1,c2,c3,c4,⟨cs,el,?_,c6⟩,c7,c8⟩
   show (w.heap.setIfInBounds B o')[C.B]?=_
   rw [oth C.B (b4 t C c1)]
   exact c5
 · intro i B' cs el fr e1 e2
   have e2':(w.heap.setIfInBounds B o')[B']?=some (.cells cs el fr):=e2
   rw [oth B' (fun e=>b3 i (e▸e1))] at e2'
   exact h.bsz i B' cs el fr e1 e2'
 · intro B' o1 e
   show (w.heap.setIfInBounds B o')[B']?=_∧_
   by_cases hB':B'=B
   · subst hB'
     simp only [Kn.withFx,if_pos] at e
     cases e
     exact⟨by simp [hlt],b2,b3,b4⟩
   · simp only [Kn.withFx,if_neg hB'] at e
     rw [oth B' hB']
     exact h.fx B' o1 e
theorem WRel.allocFix (h:WRel G w0 ro0 K σ w) (o:Obj):WRel G w0 ro0 (K.withFx fun b=>if b=w.heap.size then some o else K.fx b) σ (w.alloc o):=by
 have hsz:=h.size_le
 have oth:∀ k,k<w.heap.size→(w.alloc o).heap[k]?=w.heap[k]? := fun k hk=>Below.heap_alloc w o k hk
 have hlt:∀ k x,w.heap[k]?=some x→k<w.heap.size:=fun k x e=>(Array.getElem?_eq_some_iff.1 e).1
 have new:(w.alloc o).heap[w.heap.size]?=some o:=by show (w.heap.push o)[w.heap.size]?=some o;simp
 have hs:(w.alloc o).heap.size=w.heap.size+1:=by show (w.heap.push o).size=_;simp
 refine⟨h.below.alloc hsz o,h.glob,?_,h.new,?_,h.inj,h.mlt,?_,h.chd,h.chinj,h.nch,?_,?_,h.rwl⟩
 · intro b o' v e
   rw [World.cell?_of_block (w:=w) (oth b (h.ro_lt e))]
   exact h.ro b o' v e
 · intro i b e
   obtain⟨B',h1,h2,h3,h4,h5⟩:=h.blk i b e
   refine⟨B',h1,h2,by omega,?_,h5⟩
   rw [oth B' h3]
   exact h4.refx _
 · intro t k e
   obtain⟨C,c1,c2,c3,c4,⟨cs,el,c5,c6⟩,c7,c8⟩:=h.ch t k e
   exact⟨C,c1,c2,c3,c4,⟨cs,el,by rw [oth C.B (hlt _ _ c5)];exact c5,c6⟩,c7,c8⟩
 · intro i B' cs el fr e1 e2
   rw [oth B' (h.m_lt e1).1] at e2
   exact h.bsz i B' cs el fr e1 e2
 · intro B' o1 e
   by_cases hB':B'=w.heap.size
   · subst hB'
     simp only [Kn.withFx,if_pos] at e
     cases e
     refine⟨new,hsz,fun i e=>?_,fun t C e eB=>?_⟩
     · have:=(h.m_lt e).1;omega
     · have:=(h.ch_lt e).1;omega
   · simp only [Kn.withFx,if_neg hB'] at e
     obtain⟨x1,x2,x3,x4⟩:=h.fx B' o1 e
     exact⟨by rw [oth B' (hlt _ _ x1)];exact x1,x2,x3,x4⟩
theorem WRel.fx_lt (h:WRel G w0 ro0 K σ w) {B:Nat} {o:Obj} (e:K.fx B=some o):B<w.heap.size:=(Array.getElem?_eq_some_iff.1 (h.fx B o e).1).1
theorem Kn.le_fx {K:Kn} {f:Nat→Option Obj} (hf:∀ B o,K.fx B=some o→f B=some o):K.le (K.withFx f) :=
 ⟨fun _ _ _ e=>e,fun _ _ e=>e,Nat.le_refl _,fun t C _ e=>⟨C,e,.inl rfl⟩,fun _ _ _=>rfl,hf,fun _ _ e=>e⟩
theorem Kn.le_swap {K K':Kn} {f g:Nat→Option Obj} (h:(K.withFx f).le K') (hg:∀ B o,K.fx B=some o→g B=some o):K.le (K'.withFx g) :=
 ⟨h.ro,h.m,h.nch,h.ch,h.bs,hg,h.rw⟩
theorem Kn.le_addM (h:WRel G w0 ro0 K σ w) (B n:Nat):K.le (K.addM σ.H.length B n) :=
 ⟨fun _ _ _ e=>e,fun i B' e=>by
  have:=h.mlt i B' e
  have hne:¬ i=σ.H.length:=by omega
  simp [Kn.addM,hne,e],Nat.le_refl _,fun t C _ e=>⟨C,e,.inl rfl⟩,fun i B' e=>by
  have:=h.mlt i B' e
  have hne:¬ i=σ.H.length:=by omega
  simp [Kn.addM,hne],fun _ _ e=>e,fun _ _ e=>e⟩
theorem WRel.push (h:WRel G w0 ro0 K σ w) {b:Blk} {o:Obj} (hb:BlkRel K b (some o)) :
 WRel G w0 ro0 (K.addM σ.H.length w.heap.size (objSize o)) (σ.push b) (w.alloc o):=by
 have hle:=Kn.le_addM h w.heap.size (objSize o)
 have hsz:=h.size_le
 refine⟨h.below.alloc hsz o,fun g=>(h.glob g).mono (K0_mono hle),?_,h.new,?_,?_,?_,?_,h.chd,h.chinj,h.nch,?_,?_,?_⟩
 · intro b o' v e
   have hlt:=h.ro_lt e
   rw [World.cell?_of_block (w:=w) (Below.heap_alloc w o b hlt)]
   exact h.ro b o' v e
 · intro i b' e
   simp only [St.push,List.getElem?_append] at e
   split at e
   · rename_i hi
     obtain⟨B,h1,h2,h3,h4,h5⟩:=h.blk i b' e
     refine⟨B,hle.m _ _ h1,h2,by simp;omega,?_,h5⟩
     rw [Below.heap_alloc w o B h3]
     exact h4.mono hle
   · rename_i hi
     have hi':i=σ.H.length:=by
      rcases Nat.lt_or_ge (i-σ.H.length) 1 with h1|h1
      · omega
      · simp [List.getElem?_eq_none (l:=[b]) (by simpa using h1)] at e
     subst hi'
     simp at e
     subst e
     refine⟨w.heap.size,by simp [Kn.addM],hsz,by simp,?_,h.ro_new⟩
     rw [heap_alloc_new]
     exact hb.mono hle
 · intro i j B e1 e2
   simp only [Kn.addM] at e1 e2
   split at e1<;>split at e2
   · left;omega
   · simp at e1;subst e1;have:=(h.m_lt e2).1;omega
   · simp at e2;subst e2;have:=(h.m_lt e1).1;omega
   · have li:=h.mlt i B e1
     have lj:=h.mlt j B e2
     simp only [St.push,List.getElem?_append_left li,List.getElem?_append_left lj]
     exact h.inj i j B e1 e2
 · intro i B e
   simp only [Kn.addM] at e
   simp only [St.push,List.length_append,List.length_singleton]
   split at e
   · omega
   · have:=h.mlt i B e;omega
 · intro t k e
   obtain⟨C,h1,h2,h3,h4,⟨cs,el,h5,h6⟩,h7,h8⟩:=h.ch t k e
   refine⟨C,h1,h2,h3,h4,⟨cs,el,?_,h6⟩,h7,?_⟩
   · rw [Below.heap_alloc w o C.B (h.ch_lt h1).1];exact h5
   · intro i e2
     simp only [Kn.addM] at e2
     split at e2
     · simp at e2;have:=(h.ch_lt h1).1;omega
     · exact h8 i e2
 · intro i B cs el fr e1 e2
   simp only [Kn.addM] at e1 ⊢
   split at e1
   · rename_i hi
     simp at e1;subst e1
     rw [heap_alloc_new] at e2
     cases e2
     simp [hi,objSize]
   · rename_i hi
     rw [Below.heap_alloc w o B (h.m_lt e1).1] at e2
     simp only [hi,if_false]
     exact h.bsz i B cs el fr e1 e2
 · intro B x e
   obtain⟨h1,h2,h3,h4⟩:=h.fx B x e
   have hlt:=(Array.getElem?_eq_some_iff.1 h1).1
   refine⟨by rw [Below.heap_alloc w o B hlt];exact h1,h2,fun i e2=>?_,h4⟩
   simp only [Kn.addM] at e2
   split at e2
   · simp at e2;omega
   · exact h3 i e2
 · intro n x e
   have:=h.rwl n x e
   simp only [St.push,List.length_append,List.length_singleton];omega
theorem Kn.le_addRo (B lo:Nat) (vs:List Value) (hn:∀ o,lo≤o→o<lo+vs.length→K.ro B o=none):K.le (K.addRo B lo vs) :=
 ⟨fun b o v e=>by
  simp only [Kn.addRo]
  split
  · rename_i hc
    obtain⟨rfl,h1,h2⟩:=hc
    rw [hn o h1 h2] at e;cases e
  · exact e,fun _ _ e=>e,Nat.le_refl _,fun t C _ e=>⟨C,e,.inl rfl⟩,fun _ _ _=>rfl,fun _ _ e=>e,fun _ _ e=>e⟩
theorem WRel.newRo (h:WRel G w0 ro0 K σ w) (vs:List Value) (cs:Array Value) (el:TypeId) (hp:∀ (j:Nat) (v:Value),vs[j]?=some v→cs[j]?=some v) :
 WRel G w0 ro0 (K.addRo w.heap.size 0 vs) σ (w.alloc (.cells cs el))∧K.le (K.addRo w.heap.size 0 vs):=by
 have hle:K.le (K.addRo w.heap.size 0 vs):=Kn.le_addRo _ _ _ (fun o _ _=>h.ro_new o)
 have hsz:=h.size_le
 refine⟨⟨h.below.alloc hsz _,fun g=>(h.glob g).mono (K0_mono hle),?_,?_,?_,h.inj,h.mlt,?_,h.chd,h.chinj,h.nch,fun i B cs el fr e1 e2=>by
  rw [Below.heap_alloc w _ B (h.m_lt e1).1] at e2
  exact h.bsz i B cs el fr e1 e2,fun B x e=>by
  obtain⟨h1,h2,h3,h4⟩:=h.fx B x e
  exact⟨by rw [Below.heap_alloc w _ B (Array.getElem?_eq_some_iff.1 h1).1];exact h1,h2,h3,h4⟩,h.rwl⟩,hle⟩
 · intro b o v e
   simp only [Kn.addRo] at e
   split at e
   · rename_i hc
     obtain⟨rfl,h1,h2⟩:=hc
     have:=hp _ _ e
     simp only [World.cell?,heap_alloc_new]
     simpa using this
   · have hlt:=h.ro_lt e
     rw [World.cell?_of_block (w:=w) (Below.heap_alloc w _ b hlt)]
     exact h.ro b o v e
 · intro b o v e hb
   simp only [Kn.addRo] at e
   split at e
   · rename_i hc
     obtain⟨rfl,_⟩:=hc
     omega
   · exact h.new b o v e hb
 · intro i b e
   obtain⟨B,h1,h2,h3,h4,h5⟩:=h.blk i b e
   refine⟨B,h1,h2,by simp;omega,by rw [Below.heap_alloc w _ B h3];exact h4.mono hle,fun o=>?_⟩
   simp only [Kn.addRo]
   rw [if_neg (by omega)]
   exact h5 o
 · intro t k e
   obtain⟨C,h1,h2,h3,h4,⟨cs',el',h5,h6⟩,h7,h8⟩:=h.ch t k e
   refine⟨C,h1,h2,h3,h4,⟨cs',el',?_,h6⟩,fun o ho=>?_,h8⟩
   · rw [Below.heap_alloc w _ C.B (h.ch_lt h1).1];exact h5
   · simp only [Kn.addRo]
     have:=(h.ch_lt h1).1
     rw [if_neg (by omega)]
     exact h7 o ho
theorem CellsAt.addRo {B lo:Nat} {vs:List Value} {c:List AV} (h:VRels K c vs) (hle:K.le (K.addRo B lo vs)):CellsAt (K.addRo B lo vs) B lo c:=by
 refine CellsAt.intro B c lo fun i a e=>?_
 obtain⟨v,h1,h2⟩:=h.get i a e
 refine⟨v,?_,h2.mono hle⟩
 have hlt:i<vs.length:=(List.getElem?_eq_some_iff.1 h1).1
 show (if B=B∧lo≤lo+i∧lo+i<lo+vs.length then vs[lo+i-lo]? else K.ro B (lo+i))=some v
 rw [if_pos ⟨rfl,by omega,by omega⟩,show lo+i-lo=i by omega]
 exact h1
end
end
section
theorem putAt_length:∀ (new c:List AV) (off:Nat),(putAt c off new).length=c.length
 | [],c,off=>by simp [putAt]
 | v::r,c,off=>by simp [putAt,putAt_length r]
theorem putAt_get:∀ (new c:List AV) (off i:Nat),off+new.length≤c.length→(putAt c off new)[i]?=if off≤i∧i<off+new.length then new[i-off]? else c[i]?
 | [],c,off,i,_=>by simp [putAt];intro h1 h2;omega
 | v::r,c,off,i,h=>by
  simp only [List.length_cons] at h
  simp only [putAt]
  rw [putAt_get r _ _ _ (by simp;omega)]
  by_cases h1:i=off
  · subst h1
    have:i<c.length:=by omega
    rw [if_neg (by omega),if_pos ⟨Nat.le_refl _,by simp⟩]
    simp [this]
  · by_cases h2:off+1≤i∧i<off+1+r.length
    · rw [if_pos h2,if_pos ⟨by omega,by simp;omega⟩]
      have:i-off=(i-(off+1))+1:=by omega
      rw [this];simp
    · rw [if_neg h2,if_neg (by simp;omega)]
      rw [List.getElem?_set_ne (by omega)]
theorem putAt_all:∀ (new c:List AV) (off:Nat),c.all AV.atom=true→new.all AV.atom=true→(putAt c off new).all AV.atom=true
 | [],c,off,h,_=>by simpa [putAt] using h
 | v::r,c,off,h,k=>by
  simp only [List.all_cons,Bool.and_eq_true] at k
  refine putAt_all r _ _ ?_ k.2
  rw [List.all_eq_true] at h ⊢
  intro x hx
  rcases List.mem_or_eq_of_mem_set hx with h1|h1
  · exact h x h1
  · rw [h1];exact k.1
section
variable {P:Program} {G:Nat→AV} {w0:World} {ro0:Nat→Nat→Option Value} {K:Kn} {σ:St} {w w':World}
theorem WRel.setBlk (h:WRel G w0 ro0 K σ w) {i B:Nat} {b':Blk} (hi:i<σ.H.length) (hm:K.m i=some B) (hos:w'.os=w.os) (htape:w'.tape=w.tape) (hout:w'.output=w.output)
 (hsz:w'.heap.size=w.heap.size) (hother:∀ k,k≠B→w'.heap[k]?=w.heap[k]?) (hb:BlkRel K b' w'.heap[B]?)
 (hal:σ.H[i]?≠some .dead) (hbs:∀ cs el fr,w'.heap[B]?=some (.cells cs el fr)→cs.size=K.bs i)
 (hwas:∀ cs el fr,w'.heap[B]?=some (.cells cs el fr)→∃ cs0 el0 fr0,w.heap[B]?=some (.cells cs0 el0 fr0)):WRel G w0 ro0 K { σ with H:=σ.H.set i b' } w':=by
 have hB:=h.m_lt hm
 have keep:∀ j,σ.H[j]?=some Blk.dead→(σ.H.set i b')[j]?=some Blk.dead:=fun j hj=>by
  have hne:i≠j:=by rintro rfl;exact hal hj
  rw [List.getElem?_set_ne hne];exact hj
 refine⟨h.below.trans ⟨hos,htape,hout,by omega,fun k hk=>hother k (by omega)⟩,h.glob,?_,h.new,?_,fun i' j B' e1 e2=>(h.inj i' j B' e1 e2).imp_right (Or.imp (keep _) (keep _)),fun i' B' e=>by simpa using h.mlt i' B' e,?_,h.chd,h.chinj,h.nch,?_,?_,fun n o e=>by simpa using h.rwl n o e⟩
 · intro b o v e
   have hne:b≠B:=by
    rintro rfl
    obtain⟨B',h1,_,_,_,h5⟩:=h.blk i σ.H[i] (by simp [hi])
    rw [hm] at h1;cases h1
    rw [h5 o] at e;cases e
   rw [World.cell?_of_block (w:=w) (hother b hne)]
   exact h.ro b o v e
 · intro j b e
   by_cases hj:j=i
   · subst hj
     simp [hi] at e
     subst e
     obtain⟨B',h1,h2,h3,_,h5⟩:=h.blk j σ.H[j] (by simp [hi])
     rw [hm] at h1;cases h1
     exact⟨B,hm,h2,by omega,hb,h5⟩
   · simp [List.getElem?_set_ne (Ne.symm hj)] at e
     obtain⟨B',h1,h2,h3,h4,h5⟩:=h.blk j b e
     refine⟨B',h1,h2,by omega,?_,h5⟩
     by_cases hBB:B'=B
     · subst hBB
       rcases h.inj _ _ _ h1 hm with h6|h6|h6
       · exact absurd h6 hj
       · rw [e] at h6;cases h6;simp [BlkRel]
       · exact absurd h6 hal
     · rw [hother B' hBB]
       exact h4
 · intro t k e
   obtain⟨C,h1,h2,h3,h4,⟨cs,el,h5,h6⟩,h7,h8⟩:=h.ch t k e
   exact⟨C,h1,h2,h3,h4,⟨cs,el,by rw [hother C.B (fun e=>h8 i (by rw [hm,e]))];exact h5,h6⟩,h7,h8⟩
 · intro j B' cs el fr e1 e2
   by_cases hBB:B'=B
   · subst hBB
     obtain⟨B0,g1,g2,g3,g4,g5⟩:=h.blk i σ.H[i] (by simp [hi])
     rw [hm] at g1;cases g1
     by_cases hij:j=i
     · subst hij;exact hbs cs el fr e2
     · have hb1:=hbs cs el fr e2
       have hlt:B' < w.heap.size:=g3
       have hsame:∃ cs0 el0 fr0,w.heap[B']?=some (.cells cs0 el0 fr0):=hwas cs el fr e2
       obtain⟨cs0,el0,fr0,hw⟩:=hsame
       rw [hb1,← h.bsz i B' cs0 el0 fr0 hm hw,h.bsz j B' cs0 el0 fr0 e1 hw]
   · rw [hother B' hBB] at e2
     exact h.bsz j B' cs el fr e1 e2
 · intro B' x e
   obtain⟨g1,g2,g3,g4⟩:=h.fx B' x e
   have hBB:B'≠B:=fun e2=>g3 i (by rw [e2];exact hm)
   exact⟨by rw [hother B' hBB];exact g1,g2,g3,g4⟩
theorem Kn.le_chain {t n:Nat} {C':Chn} {B lo:Nat} {vs:List Value} (hn:∀ o,lo≤o→o<lo+vs.length→K.ro B o=none)
 (hnch:K.nch≤n) (hk:t<K.nch→∃ C,K.ch t=some C∧C.k<C'.k):K.le ((K.addRo B lo vs).setCh t C' n):=by
 have h1:=Kn.le_addRo B lo vs hn
 refine⟨h1.ro,h1.m,hnch,fun u C1 hu e=>?_,fun _ _ _=>rfl,fun _ _ e=>e,fun _ _ e=>e⟩
 simp only [Kn.setCh] at e
 split at e
 · rename_i hut
   subst hut
   cases e
   obtain⟨C,e1,e2⟩:=hk hu
   exact⟨C,e1,.inr e2⟩
 · exact⟨C1,e,.inl rfl⟩
theorem WRel.chainNew (h:WRel G w0 ro0 K σ w) (vs:List Value) (cs:Array Value) (el:TypeId) (hp:∀ (j:Nat) (v:Value),vs[j]?=some v→cs[j]?=some v)
 (t k n:Nat) (T':List (Option Nat)) (hT:∀ u k',T'[u]?=some (some k')→(u=t∧k'=k)∨(u≠t∧σ.T[u]?=some (some k'))) (hTt:T'[t]?=some (some k))
 (hTk:∀ u C,u≠t→K.ch u=some C→∃ k',T'[u]?=some (some k')) (hn:n=T'.length) (hnch:K.nch≤n) (hk:t<K.nch→∃ C,K.ch t=some C∧C.k<k) (sz:Nat) (hcs:vs.length≤cs.size) :
 WRel G w0 ro0 ((K.addRo w.heap.size 0 vs).setCh t ⟨k,w.heap.size,vs.length,cs.size,sz⟩ n) { σ with T:=T' } (w.alloc (.cells cs el)) ∧
  K.le ((K.addRo w.heap.size 0 vs).setCh t ⟨k,w.heap.size,vs.length,cs.size,sz⟩ n):=by
 have hle:K.le ((K.addRo w.heap.size 0 vs).setCh t ⟨k,w.heap.size,vs.length,cs.size,sz⟩ n):=Kn.le_chain (fun o _ _=>h.ro_new o) hnch hk
 obtain⟨h1,_⟩:=h.newRo vs cs el hp
 refine⟨⟨h1.below,fun g=>(h.glob g).mono (K0_mono hle),h1.ro,h1.new,?_,h1.inj,h1.mlt,?_,?_,?_,?_,h1.bsz,?_,h1.rwl⟩,hle⟩
 · intro i b e
   obtain⟨B,a1,a2,a3,a4,a5⟩:=h.blk i b e
   refine⟨B,a1,a2,by simp;omega,by rw [Below.heap_alloc w _ B a3];exact a4.mono hle,fun o=>?_⟩
   simp only [Kn.setCh,Kn.addRo]
   rw [if_neg (by omega)]
   exact a5 o
 · intro u k' e
   rcases hT u k' e with ⟨rfl,rfl⟩|⟨hne,e'⟩
   · refine⟨⟨k',w.heap.size,vs.length,cs.size,sz⟩,by simp [Kn.setCh],rfl,h.size_le,hcs,⟨cs,el,heap_alloc_new w _,rfl⟩,fun o ho=>?_,fun i e2=>?_⟩
     · simp only [Kn.setCh,Kn.addRo]
       rw [if_neg (by simp only at ho;omega)]
       exact h.ro_new o
     · have:=(h.m_lt (show K.m i=some _ from e2)).1;simp only at this;omega
   · obtain⟨C,a1,a2,a3,a4,⟨cs',el',a5,a6⟩,a7,a8⟩:=h.ch u k' e'
     refine⟨C,by simp [Kn.setCh,hne,Kn.addRo,a1],a2,a3,a4,⟨cs',el',?_,a6⟩,fun o ho=>?_,a8⟩
     · rw [Below.heap_alloc w _ C.B (h.ch_lt a1).1];exact a5
     · simp only [Kn.setCh,Kn.addRo]
       have:=(h.ch_lt a1).1
       rw [if_neg (by omega)]
       exact a7 o ho
 · intro u C e
   simp only [Kn.setCh] at e
   split at e
   · rename_i hu;subst hu;exact⟨k,hTt⟩
   · rename_i hu;exact hTk u C hu e
 · intro u u' C C' e e' hB
   simp only [Kn.setCh] at e e'
   split at e<;>split at e'
   · omega
   · cases e;have:=(h.ch_lt (show K.ch u'=some C' from e')).1;simp only at hB;omega
   · cases e';have:=(h.ch_lt (show K.ch u=some C from e)).1;simp only at hB;omega
   · exact h.chinj u u' C C' e e' hB
 · simp [Kn.setCh,hn]
 · intro B x e
   obtain⟨g1,g2,g3,g4⟩:=h.fx B x e
   have hlt:=(Array.getElem?_eq_some_iff.1 g1).1
   refine⟨by rw [Below.heap_alloc w _ B hlt];exact g1,g2,g3,fun u C e2=>?_⟩
   simp only [Kn.setCh] at e2
   split at e2
   · cases e2;simp only;omega
   · exact g4 u C e2
theorem WRel.chainIn (h:WRel G w0 ro0 K σ w) {t k:Nat} {C:Chn} (hC:K.ch t=some C) (hk:σ.T[t]?=some (some k)) (vs:List Value) (cs':Array Value) (el:TypeId) (k':Nat) (hkk:k<k')
 (hos:w'.os=w.os) (htape:w'.tape=w.tape) (hout:w'.output=w.output) (hsz:w'.heap.size=w.heap.size) (hother:∀ j,j≠C.B→w'.heap[j]?=w.heap[j]?)
 (hnew:w'.heap[C.B]?=some (.cells cs' el (0,0))) (hcs:cs'.size=C.cap) (hfit:C.fin+vs.length≤C.cap)
 (hvs:∀ (j:Nat) (v:Value),vs[j]?=some v→cs'[C.fin+j]?=some v) (hold:∀ (cs:Array Value) (el:TypeId),w.heap[C.B]?=some (.cells cs el (0,0))→∀ j,j<C.fin→cs'[j]?=cs[j]?) :
 WRel G w0 ro0 ((K.addRo C.B C.fin vs).setCh t ⟨k',C.B,C.fin+vs.length,C.cap,C.sz⟩ K.nch) { σ with T:=σ.T.set t (some k') } w' ∧
  K.le ((K.addRo C.B C.fin vs).setCh t ⟨k',C.B,C.fin+vs.length,C.cap,C.sz⟩ K.nch):=by
 have hlt:=h.ch_lt hC
 obtain⟨C1,c1,c2,c3,c4,⟨cs,el0,c5,c6⟩,c7,c8⟩:=h.ch t k hk
 rw [hC] at c1
 cases c1
 have hle:K.le ((K.addRo C.B C.fin vs).setCh t ⟨k',C.B,C.fin+vs.length,C.cap,C.sz⟩ K.nch):=Kn.le_chain (fun o ho _=>c7 o ho) (Nat.le_refl _) (fun _=>⟨C,hC,by simp only;omega⟩)
 have htT:t<σ.T.length:=(List.getElem?_eq_some_iff.1 hk).1
 refine⟨⟨h.below.trans ⟨hos,htape,hout,by omega,fun j hj=>hother j (by omega)⟩,fun g=>(h.glob g).mono (K0_mono hle),?_,?_,?_,h.inj,h.mlt,?_,?_,?_,?_,?_,?_,h.rwl⟩,hle⟩
 · intro b o v e
   simp only [Kn.setCh,Kn.addRo] at e
   split at e
   · rename_i hc
     obtain⟨rfl,e1,e2⟩:=hc
     have:=hvs _ _ e
     simp only [World.cell?,hnew]
     rw [show C.fin+(o-C.fin)=o by omega] at this
     simpa using this
   · have hro:=h.ro b o v e
     by_cases hb:b=C.B
     · subst hb
       have ho:o<C.fin:=by
        rcases Nat.lt_or_ge o C.fin with h1|h1
        · exact h1
        · rw [c7 o h1] at e;cases e
       simp only [World.cell?,hnew]
       simp only [World.cell?,c5] at hro
       simp at hro ⊢
       rw [hold cs el0 c5 o ho];exact hro
     · rw [World.cell?_of_block (w:=w) (hother b hb)]
       exact hro
 · intro b o v e hb
   simp only [Kn.setCh,Kn.addRo] at e
   split at e
   · rename_i hc
     obtain⟨rfl,_⟩:=hc
     omega
   · exact h.new b o v e hb
 · intro i b e
   obtain⟨B,a1,a2,a3,a4,a5⟩:=h.blk i b e
   have hne:B≠C.B:=fun e=>c8 i (by rw [a1,e])
   refine⟨B,a1,a2,by omega,by rw [hother B hne];exact a4.mono hle,fun o=>?_⟩
   simp only [Kn.setCh,Kn.addRo]
   rw [if_neg (by simp [hne])]
   exact a5 o
 · intro u k1 e
   by_cases hu:u=t
   · subst hu
     simp [htT] at e
     subst e
     refine⟨⟨k',C.B,C.fin+vs.length,C.cap,C.sz⟩,by simp [Kn.setCh],rfl,c3,hfit,⟨cs',el,hnew,hcs⟩,fun o ho=>?_,c8⟩
     simp only [Kn.setCh,Kn.addRo]
     simp only at ho
     rw [if_neg (by omega)]
     exact c7 o (by omega)
   · rw [List.getElem?_set_ne (Ne.symm hu)] at e
     obtain⟨C2,a1,a2,a3,a4,⟨cs2,el2,a5,a6⟩,a7,a8⟩:=h.ch u k1 e
     have hne:C2.B≠C.B:=fun e=>hu (h.chinj u t C2 C a1 hC e)
     refine⟨C2,by simp [Kn.setCh,hu,Kn.addRo,a1],a2,a3,a4,⟨cs2,el2,by rw [hother _ hne];exact a5,a6⟩,fun o ho=>?_,a8⟩
     simp only [Kn.setCh,Kn.addRo]
     rw [if_neg (by simp [hne])]
     exact a7 o ho
 · intro u C1 e
   simp only [Kn.setCh] at e
   split at e
   · rename_i hu;subst hu;exact⟨k',by simp [htT]⟩
   · rename_i hu
     obtain⟨k1,e1⟩:=h.chd u C1 e
     exact⟨k1,by rw [List.getElem?_set_ne (Ne.symm hu)];exact e1⟩
 · intro u u' C1 C2 e e' hB
   simp only [Kn.setCh] at e e'
   split at e<;>split at e'
   · omega
   · rename_i hu hu';cases e;exact absurd (h.chinj t u' C C2 hC e' hB).symm hu'
   · rename_i hu hu';cases e';exact absurd (h.chinj u t C1 C e hC hB) hu
   · exact h.chinj u u' C1 C2 e e' hB
 · simp [Kn.setCh,h.nch]
 · intro i B cs el fr e1 e2
   have hne:B≠C.B:=fun e=>c8 i (by rw [show K.m i=some B from e1,e])
   rw [hother B hne] at e2
   exact h.bsz i B cs el fr e1 e2
 · intro B x e
   obtain⟨g1,g2,g3,g4⟩:=h.fx B x e
   have hBB:B≠C.B:=fun e2=>g4 t C hC e2.symm
   refine⟨by rw [hother B hBB];exact g1,g2,g3,fun u C2 e2=>?_⟩
   simp only [Kn.setCh] at e2
   split at e2
   · cases e2;exact fun e3=>hBB e3.symm
   · exact g4 u C2 e2
end
end
end Go.Abs
end
