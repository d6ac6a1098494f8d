import Derived.Test.YtkodonalmdmgpaaGreatDoorSv01
import Derived.Great.BuildSlice
import Derived.Laws.StructEq
set_option linter.all false
set_option linter.defProp false
section
namespace Go.Abs
open Go Go.RowKit
section
theorem putAt_length:∀ (new c:List AV) (off:Nat),(putAt c off new).length=c.length
 | [],c,off=>by simp [putAt]
 | v::r,c,off=>by simp [putAt,putAt_length r]
theorem putAt_get:∀ (new c:List AV) (off i:Nat),off+new.length≤c.length→(putAt c off new)[i]?=if off≤i∧i<off+new.length then new[i-off]? else c[i]?
 | [],c,off,i,_=>by simp [putAt];intro h1 h2;omega
 | v::r,c,off,i,h=>by
  simp only [List.length_cons] at h
  simp only [putAt]
  rw [putAt_get r _ _ _ (by simp;omega)]
  by_cases h1:i=off
  · subst h1
    have:i<c.length:=by omega
    rw [if_neg (by omega),if_pos ⟨Nat.le_refl _,by simp⟩]
    simp [this]
  · by_cases h2:off+1≤i∧i<off+1+r.length
    · rw [if_pos h2,if_pos ⟨by omega,by simp;omega⟩]
      have:i-off=(i-(off+1))+1:=by omega
      rw [this];simp
    · rw [if_neg h2,if_neg (by simp;omega)]
      rw [List.getElem?_set_ne (by omega)]
theorem putAt_all:∀ (new c:List AV) (off:Nat),c.all AV.atom=true→new.all AV.atom=true→(putAt c off new).all AV.atom=true
 | [],c,off,h,_=>by simpa [putAt] using h
 | v::r,c,off,h,k=>by
  simp only [List.all_cons,Bool.and_eq_true] at k
  refine putAt_all r _ _ ?_ k.2
  rw [List.all_eq_true] at h ⊢
  intro x hx
  rcases List.mem_or_eq_of_mem_set hx with h1|h1
  · exact h x h1
  · rw [h1];exact k.1
section
variable {P:Program} {G:Nat→AV} {w0:World} {ro0:Nat→Nat→Option Value} {K:Kn} {σ:St} {w w':World}
/-- A block of the state's own has turned; nothing else. -/
theorem WRel.setBlk (h:WRel G w0 ro0 K σ w) {i B:Nat} {b':Blk} (hi:i<σ.H.length) (hm:K.m i=some B) (hos:w'.os=w.os) (htape:w'.tape=w.tape) (hout:w'.output=w.output)
 (hsz:w'.heap.size=w.heap.size) (hother:∀ k,k≠B→w'.heap[k]?=w.heap[k]?) (hb:BlkRel K b' w'.heap[B]?)
 (hal:σ.H[i]?≠some .dead) (hbs:∀ cs el fr,w'.heap[B]?=some (.cells cs el fr)→cs.size=K.bs i)
 (hwas:∀ cs el fr,w'.heap[B]?=some (.cells cs el fr)→∃ cs0 el0 fr0,w.heap[B]?=some (.cells cs0 el0 fr0)):WRel G w0 ro0 K { σ with H:=σ.H.set i b' } w':=by
 have hB:=h.m_lt hm
 have keep:∀ j,σ.H[j]?=some Blk.dead→(σ.H.set i b')[j]?=some Blk.dead:=fun j hj=>by
  have hne:i≠j:=by rintro rfl;exact hal hj
  rw [List.getElem?_set_ne hne];exact hj
 refine⟨h.below.trans ⟨hos,htape,hout,by omega,fun k hk=>hother k (by omega)⟩,h.glob,?_,h.new,?_,fun i' j B' e1 e2=>(h.inj i' j B' e1 e2).imp_right (Or.imp (keep _) (keep _)),fun i' B' e=>by simpa using h.mlt i' B' e,?_,h.chd,h.chinj,h.nch,?_,?_,fun n o e=>by simpa using h.rwl n o e⟩
 · intro b o v e
   have hne:b≠B:=by
    rintro rfl
    obtain⟨B',h1,_,_,_,h5⟩:=h.blk i σ.H[i] (by simp [hi])
    rw [hm] at h1;cases h1
    rw [h5 o] at e;cases e
   rw [World.cell?_of_block (w:=w) (hother b hne)]
   exact h.ro b o v e
 · intro j b e
   by_cases hj:j=i
   · subst hj
     simp [hi] at e
     subst e
     obtain⟨B',h1,h2,h3,_,h5⟩:=h.blk j σ.H[j] (by simp [hi])
     rw [hm] at h1;cases h1
     exact⟨B,hm,h2,by omega,hb,h5⟩
   · simp [List.getElem?_set_ne (Ne.symm hj)] at e
     obtain⟨B',h1,h2,h3,h4,h5⟩:=h.blk j b e
     refine⟨B',h1,h2,by omega,?_,h5⟩
     by_cases hBB:B'=B
     · subst hBB
       rcases h.inj _ _ _ h1 hm with h6|h6|h6
       · exact absurd h6 hj
       · rw [e] at h6;cases h6;simp [BlkRel]
       · exact absurd h6 hal
     · rw [hother B' hBB]
       exact h4
 · intro t k e
   obtain⟨C,h1,h2,h3,h4,⟨cs,el,h5,h6⟩,h7,h8⟩:=h.ch t k e
   exact⟨C,h1,h2,h3,h4,⟨cs,el,by rw [hother C.B (fun e=>h8 i (by rw [hm,e]))];exact h5,h6⟩,h7,h8⟩
 · intro j B' cs el fr e1 e2
   by_cases hBB:B'=B
   · subst hBB
     obtain⟨B0,g1,g2,g3,g4,g5⟩:=h.blk i σ.H[i] (by simp [hi])
     rw [hm] at g1;cases g1
     by_cases hij:j=i
     · subst hij;exact hbs cs el fr e2
     · have hb1:=hbs cs el fr e2
       have hlt:B' < w.heap.size:=g3
       have hsame:∃ cs0 el0 fr0,w.heap[B']?=some (.cells cs0 el0 fr0):=hwas cs el fr e2
       obtain⟨cs0,el0,fr0,hw⟩:=hsame
       rw [hb1,← h.bsz i B' cs0 el0 fr0 hm hw,h.bsz j B' cs0 el0 fr0 e1 hw]
   · rw [hother B' hBB] at e2
     exact h.bsz j B' cs el fr e1 e2
 · intro B' x e
   obtain⟨g1,g2,g3,g4⟩:=h.fx B' x e
   have hBB:B'≠B:=fun e2=>g3 i (by rw [e2];exact hm)
   exact⟨by rw [hother B' hBB];exact g1,g2,g3,g4⟩
theorem Kn.le_chain {t n:Nat} {C':Chn} {B lo:Nat} {vs:List Value} (hn:∀ o,lo≤o→o<lo+vs.length→K.ro B o=none)
 (hnch:K.nch≤n) (hk:t<K.nch→∃ C,K.ch t=some C∧C.k<C'.k):K.le ((K.addRo B lo vs).setCh t C' n):=by
 have h1:=Kn.le_addRo B lo vs hn
 refine⟨h1.ro,h1.m,hnch,fun u C1 hu e=>?_,fun _ _ _=>rfl,fun _ _ e=>e,fun _ _ e=>e⟩
 simp only [Kn.setCh] at e
 split at e
 · rename_i hut
   subst hut
   cases e
   obtain⟨C,e1,e2⟩:=hk hu
   exact⟨C,e1,.inr e2⟩
 · exact⟨C1,e,.inl rfl⟩
/-- A row that is now in a new block. -/
theorem WRel.chainNew (h:WRel G w0 ro0 K σ w) (vs:List Value) (cs:Array Value) (el:TypeId) (hp:∀ (j:Nat) (v:Value),vs[j]?=some v→cs[j]?=some v)
 (t k n:Nat) (T':List (Option Nat)) (hT:∀ u k',T'[u]?=some (some k')→(u=t∧k'=k)∨(u≠t∧σ.T[u]?=some (some k'))) (hTt:T'[t]?=some (some k))
 (hTk:∀ u C,u≠t→K.ch u=some C→∃ k',T'[u]?=some (some k')) (hn:n=T'.length) (hnch:K.nch≤n) (hk:t<K.nch→∃ C,K.ch t=some C∧C.k<k) (sz:Nat) (hcs:vs.length≤cs.size) :
 WRel G w0 ro0 ((K.addRo w.heap.size 0 vs).setCh t ⟨k,w.heap.size,vs.length,cs.size,sz⟩ n) { σ with T:=T' } (w.alloc (.cells cs el)) ∧
  K.le ((K.addRo w.heap.size 0 vs).setCh t ⟨k,w.heap.size,vs.length,cs.size,sz⟩ n):=by
 have hle:K.le ((K.addRo w.heap.size 0 vs).setCh t ⟨k,w.heap.size,vs.length,cs.size,sz⟩ n):=Kn.le_chain (fun o _ _=>h.ro_new o) hnch hk
 obtain⟨h1,_⟩:=h.newRo vs cs el hp
 refine⟨⟨h1.below,fun g=>(h.glob g).mono (K0_mono hle),h1.ro,h1.new,?_,h1.inj,h1.mlt,?_,?_,?_,?_,h1.bsz,?_,h1.rwl⟩,hle⟩
 · intro i b e
   obtain⟨B,a1,a2,a3,a4,a5⟩:=h.blk i b e
   refine⟨B,a1,a2,by simp;omega,by rw [Below.heap_alloc w _ B a3];exact a4.mono hle,fun o=>?_⟩
   simp only [Kn.setCh,Kn.addRo]
   rw [if_neg (by omega)]
   exact a5 o
 · intro u k' e
   rcases hT u k' e with ⟨rfl,rfl⟩|⟨hne,e'⟩
   · refine⟨⟨k',w.heap.size,vs.length,cs.size,sz⟩,by simp [Kn.setCh],rfl,h.size_le,hcs,⟨cs,el,heap_alloc_new w _,rfl⟩,fun o ho=>?_,fun i e2=>?_⟩
     · simp only [Kn.setCh,Kn.addRo]
       rw [if_neg (by simp only at ho;omega)]
       exact h.ro_new o
     · have:=(h.m_lt (show K.m i=some _ from e2)).1;simp only at this;omega
   · obtain⟨C,a1,a2,a3,a4,⟨cs',el',a5,a6⟩,a7,a8⟩:=h.ch u k' e'
     refine⟨C,by simp [Kn.setCh,hne,Kn.addRo,a1],a2,a3,a4,⟨cs',el',?_,a6⟩,fun o ho=>?_,a8⟩
     · rw [Below.heap_alloc w _ C.B (h.ch_lt a1).1];exact a5
     · simp only [Kn.setCh,Kn.addRo]
       have:=(h.ch_lt a1).1
       rw [if_neg (by omega)]
       exact a7 o ho
 · intro u C e
   simp only [Kn.setCh] at e
   split at e
   · rename_i hu;subst hu;exact⟨k,hTt⟩
   · rename_i hu;exact hTk u C hu e
 · intro u u' C C' e e' hB
   simp only [Kn.setCh] at e e'
   split at e<;>split at e'
   · omega
   · cases e;have:=(h.ch_lt (show K.ch u'=some C' from e')).1;simp only at hB;omega
   · cases e';have:=(h.ch_lt (show K.ch u=some C from e)).1;simp only at hB;omega
   · exact h.chinj u u' C C' e e' hB
 · simp [Kn.setCh,hn]
 · intro B x e
   obtain⟨g1,g2,g3,g4⟩:=h.fx B x e
   have hlt:=(Array.getElem?_eq_some_iff.1 g1).1
   refine⟨by rw [Below.heap_alloc w _ B hlt];exact g1,g2,g3,fun u C e2=>?_⟩
   simp only [Kn.setCh] at e2
   split at e2
   · cases e2;simp only;omega
   · exact g4 u C e2
/-- A row that has grown in place. -/
theorem WRel.chainIn (h:WRel G w0 ro0 K σ w) {t k:Nat} {C:Chn} (hC:K.ch t=some C) (hk:σ.T[t]?=some (some k)) (vs:List Value) (cs':Array Value) (el:TypeId) (k':Nat) (hkk:k<k')
 (hos:w'.os=w.os) (htape:w'.tape=w.tape) (hout:w'.output=w.output) (hsz:w'.heap.size=w.heap.size) (hother:∀ j,j≠C.B→w'.heap[j]?=w.heap[j]?)
 (hnew:w'.heap[C.B]?=some (.cells cs' el (0,0))) (hcs:cs'.size=C.cap) (hfit:C.fin+vs.length≤C.cap)
 (hvs:∀ (j:Nat) (v:Value),vs[j]?=some v→cs'[C.fin+j]?=some v) (hold:∀ (cs:Array Value) (el:TypeId),w.heap[C.B]?=some (.cells cs el (0,0))→∀ j,j<C.fin→cs'[j]?=cs[j]?) :
 WRel G w0 ro0 ((K.addRo C.B C.fin vs).setCh t ⟨k',C.B,C.fin+vs.length,C.cap,C.sz⟩ K.nch) { σ with T:=σ.T.set t (some k') } w' ∧
  K.le ((K.addRo C.B C.fin vs).setCh t ⟨k',C.B,C.fin+vs.length,C.cap,C.sz⟩ K.nch):=by
 have hlt:=h.ch_lt hC
 obtain⟨C1,c1,c2,c3,c4,⟨cs,el0,c5,c6⟩,c7,c8⟩:=h.ch t k hk
 rw [hC] at c1
 cases c1
 have hle:K.le ((K.addRo C.B C.fin vs).setCh t ⟨k',C.B,C.fin+vs.length,C.cap,C.sz⟩ K.nch):=Kn.le_chain (fun o ho _=>c7 o ho) (Nat.le_refl _) (fun _=>⟨C,hC,by simp only;omega⟩)
 have htT:t<σ.T.length:=(List.getElem?_eq_some_iff.1 hk).1
 refine⟨⟨h.below.trans ⟨hos,htape,hout,by omega,fun j hj=>hother j (by omega)⟩,fun g=>(h.glob g).mono (K0_mono hle),?_,?_,?_,h.inj,h.mlt,?_,?_,?_,?_,?_,?_,h.rwl⟩,hle⟩
 · intro b o v e
   simp only [Kn.setCh,Kn.addRo] at e
   split at e
   · rename_i hc
     obtain⟨rfl,e1,e2⟩:=hc
     have:=hvs _ _ e
     simp only [World.cell?,hnew]
     rw [show C.fin+(o-C.fin)=o by omega] at this
     simpa using this
   · have hro:=h.ro b o v e
     by_cases hb:b=C.B
     · subst hb
       have ho:o<C.fin:=by
        rcases Nat.lt_or_ge o C.fin with h1|h1
        · exact h1
        · rw [c7 o h1] at e;cases e
       simp only [World.cell?,hnew]
       simp only [World.cell?,c5] at hro
       simp at hro ⊢
       rw [hold cs el0 c5 o ho];exact hro
     · rw [World.cell?_of_block (w:=w) (hother b hb)]
       exact hro
 · intro b o v e hb
   simp only [Kn.setCh,Kn.addRo] at e
   split at e
   · rename_i hc
     obtain⟨rfl,_⟩:=hc
     omega
   · exact h.new b o v e hb
 · intro i b e
   obtain⟨B,a1,a2,a3,a4,a5⟩:=h.blk i b e
   have hne:B≠C.B:=fun e=>c8 i (by rw [a1,e])
   refine⟨B,a1,a2,by omega,by rw [hother B hne];exact a4.mono hle,fun o=>?_⟩
   simp only [Kn.setCh,Kn.addRo]
   rw [if_neg (by simp [hne])]
   exact a5 o
 · intro u k1 e
   by_cases hu:u=t
   · subst hu
     simp [htT] at e
     subst e
     refine⟨⟨k',C.B,C.fin+vs.length,C.cap,C.sz⟩,by simp [Kn.setCh],rfl,c3,hfit,⟨cs',el,hnew,hcs⟩,fun o ho=>?_,c8⟩
     simp only [Kn.setCh,Kn.addRo]
     simp only at ho
     rw [if_neg (by omega)]
     exact c7 o (by omega)
   · rw [List.getElem?_set_ne (Ne.symm hu)] at e
     obtain⟨C2,a1,a2,a3,a4,⟨cs2,el2,a5,a6⟩,a7,a8⟩:=h.ch u k1 e
     have hne:C2.B≠C.B:=fun e=>hu (h.chinj u t C2 C a1 hC e)
     refine⟨C2,by simp [Kn.setCh,hu,Kn.addRo,a1],a2,a3,a4,⟨cs2,el2,by rw [hother _ hne];exact a5,a6⟩,fun o ho=>?_,a8⟩
     simp only [Kn.setCh,Kn.addRo]
     rw [if_neg (by simp [hne])]
     exact a7 o ho
 · intro u C1 e
   simp only [Kn.setCh] at e
   split at e
   · rename_i hu;subst hu;exact⟨k',by simp [htT]⟩
   · rename_i hu
     obtain⟨k1,e1⟩:=h.chd u C1 e
     exact⟨k1,by rw [List.getElem?_set_ne (Ne.symm hu)];exact e1⟩
 · intro u u' C1 C2 e e' hB
   simp only [Kn.setCh] at e e'
   split at e<;>split at e'
   · omega
   · rename_i hu hu';cases e;exact absurd (h.chinj t u' C C2 hC e' hB).symm hu'
   · rename_i hu hu';cases e';exact absurd (h.chinj u t C1 C e hC hB) hu
   · exact h.chinj u u' C1 C2 e e' hB
 · simp [Kn.setCh,h.nch]
 · intro i B cs el fr e1 e2
   have hne:B≠C.B:=fun e=>c8 i (by rw [show K.m i=some B from e1,e])
   rw [hother B hne] at e2
   exact h.bsz i B cs el fr e1 e2
 · intro B x e
   obtain⟨g1,g2,g3,g4⟩:=h.fx B x e
   have hBB:B≠C.B:=fun e2=>g4 t C hC e2.symm
   refine⟨by rw [hother B hBB];exact g1,g2,g3,fun u C2 e2=>?_⟩
   simp only [Kn.setCh] at e2
   split at e2
   · cases e2;exact fun e3=>hBB e3.symm
   · exact g4 u C2 e2
end
end
section
theorem Dof_spec {P:Program} {t:Nat} {i:TI} (h:Dof P t=some i) :
 ∃ inf d z,P.info? t=some inf∧P.underlying t=some d∧inf.zero=some z∧i=⟨inf.size,inf.bytes,z.cells.toList.map ofAtom,ofV z,tdOf P d,!P.stoodInHeld t⟩:=by
 unfold Dof at h
 split at h
 · rename_i inf d h1 h2
   split at h
   · rename_i z h3
     simp at h
     exact⟨inf,d,z,h1,h2,h3,h.symm⟩
   · cases h
 · cases h
theorem td_sl {P:Program} {d:TypeDesc} {e:Nat} (h:tdOf P d=.sl e):d=.slice e:=by
 cases d<;>simp [tdOf] at h
 · simp [h]
 · split at h<;>cases h
theorem td_arr {P:Program} {d:TypeDesc} {n e:Nat} (h:tdOf P d=.arr n e):d=.array n e:=by
 cases d<;>simp [tdOf] at h
 · simp [h]
 · split at h<;>cases h
theorem td_str {P:Program} {d:TypeDesc} (h:tdOf P d=.str):d=.string:=by
 cases d<;>simp [tdOf] at h
 · rfl
 · split at h<;>cases h
theorem td_bool {P:Program} {d:TypeDesc} (h:tdOf P d=.bool):d=.bool:=by
 cases d<;>simp [tdOf] at h
 · rfl
 · split at h<;>cases h
theorem td_int {P:Program} {d:TypeDesc} {k:IntKind} (h:tdOf P d=.int k):d=.int k:=by
 cases d<;>simp [tdOf] at h
 · simp [h]
 · split at h<;>cases h
theorem td_map {P:Program} {d:TypeDesc} {k e:Nat} (h:tdOf P d=.map k e):d=.map k e:=by
 cases d<;>simp [tdOf] at h
 · simp [h]
 · split at h<;>cases h
theorem td_st {P:Program} {d:TypeDesc} {fs:List (Nat×Nat)} (h:tdOf P d=.st fs) :
 ∃ fields : Array Field, d = .struct fields ∧ fs = fields.toList.map (fun f => (f.offset, f.type)) ∧ (∀ f ∈ fields.toList, P.cellsOf f.type ≠ 0) ∧ ∀ f ∈ fields.toList, f.name ≠ "_" := by
 cases d with
 | struct fields=>
  simp only [tdOf] at h
  split at h
  · rename_i h1
    simp only [TD.st.injEq] at h
    rw [List.all_eq_true] at h1
    exact⟨fields,rfl,h.symm,fun f hf=>by have:=h1 f hf;simp at this;exact this.1,fun f hf=>by have:=h1 f hf;simp at this;exact this.2⟩
  · cases h
 | _=>simp [tdOf] at h
section
variable {P:Program} {G:Nat→AV} {w0:World} {ro0:Nat→Nat→Option Value} {K:Kn} {σ:St} {w w':World}
/-- What an operation that yields a value comes to. -/
def Ran (P:Program) (G:Nat→AV) (w0:World) (ro0:Nat→Nat→Option Value) (K:Kn) (w:World) (s:Sem Value) (v:AV) (σ':St):Prop :=
 ∃ v' w' K',s.run P w=.ok v' w'∧K.le K'∧WRel G w0 ro0 K' σ' w'∧VRel K' v v'
theorem Ran.same (h:WRel G w0 ro0 K σ w) {s:Sem Value} {v:AV} {v':Value} (hr:s.run P w=.ok v' w) (hv:VRel K v v'):Ran P G w0 ro0 K w s v σ :=
 ⟨v',w,K,hr,Kn.le_refl K,h,hv⟩
theorem run_isAgg {t:Nat} {d:TypeDesc} (hu:P.underlying t=some d) (hd:tdOf P d≠.other):(isAgg t).run P w=.ok ((tdOf P d).agg==some true) w:=by
 simp only [isAgg,Sem.run_bind,run_underlying hu,Result.andThen_ok]
 cases d with
 | struct fields=>
  simp only [tdOf] at hd ⊢
  split at hd
  · rename_i h1;rw [if_pos h1];rfl
  · exact absurd rfl hd
 | _=>first | rfl | exact absurd rfl hd
theorem cut_spec {c c':List AV} {off n:Nat} (h:cut c off n=some c'):off+n≤c.length∧c'=(c.drop off).take n∧c'.length=n:=by
 unfold cut at h
 split at h
 · rename_i hl
   simp at h
   subst h
   refine⟨hl,rfl,?_⟩
   simp;omega
 · cases h
theorem Lies.of_blk (h:WRel G w0 ro0 K σ w) {b B:Nat} {c:List AV} (hb:σ.H[b]?=some (.cells c)) (hm:K.m b=some B) (off n:Nat) (hl:off+n≤c.length) :
 Lies K w B off ((c.drop off).take n):=by
 obtain⟨B',h1,h2,h3,h4,h5⟩:=h.blk b _ hb
 rw [hm] at h1
 cases h1
 obtain⟨cs,el,h6,h0,h7,h8⟩:=h4
 refine⟨(cs.toList.drop off).take n,VRels.intro (by simp;omega) fun i a e=>?_,fun j v e=>?_⟩
 · rw [List.getElem?_take,List.getElem?_drop] at e
   split at e
   · rename_i hi
     obtain⟨v,e1,e2⟩:=h8 (off+i) a e
     refine⟨v,?_,e2⟩
     rw [List.getElem?_take,if_pos hi,List.getElem?_drop]
     simpa using e1
   · cases e
 · rw [List.getElem?_take,List.getElem?_drop] at e
   split at e
   · simp only [World.cell?,h6]
     simpa using e
   · cases e
/-- A variable is read. -/
theorem run_loadVar {t B off:Nat} {inf:TypeInfo} {d:TypeDesc} (hi:P.info? t=some inf) (hu:P.underlying t=some d) {c:List AV} (hc:Lies K w B off c) (hl:c.length=inf.size)
 {v:AV} (hv:asVal (tdOf P d).agg c=some v):∃ v',(loadVar t ⟨B,off,none⟩).run P w=.ok v' w∧VRel K v v':=by
 obtain⟨vs,h1,h2⟩:=hc
 have hd:tdOf P d≠.other:=by intro e;rw [e] at hv;simp [TD.agg,asVal] at hv
 have ha:=run_isAgg (w:=w) hu hd
 cases hg:(tdOf P d).agg with
 | none=>rw [hg] at hv;simp [asVal] at hv
 | some g=>
  rw [hg] at hv ha
  cases g with
  | true=>
   simp [asVal] at hv
   subst hv
   have hcl:=run_loadCells_list (P:=P) w ⟨B,off,none⟩ vs (fun j v e=>by rw [addr_add];exact h2 j v e)
   rw [h1.length,hl] at hcl
   refine⟨.agg vs.toArray,?_,by simp only [VRel];exact⟨_,rfl,by simpa using h1⟩⟩
   simp only [loadVar,Sem.run_bind,ha,Result.andThen_ok]
   simp [sizeOf,typeInfo,hi,hcl]
  | false=>
   simp only [asVal] at hv
   cases c with
   | nil=>simp at hv
   | cons a r=>
    simp at hv
    subst hv
    simp only [VRels] at h1
    obtain⟨v',vr,rfl,h3,_⟩:=h1
    have h4:=h2 0 v' (by simp)
    refine⟨v',?_,h3⟩
    simp only [loadVar,Sem.run_bind,ha,Result.andThen_ok]
    simp at h4
    simp [run_load,h4]
theorem load_same (h:WRel G w0 ro0 K σ w) {t:Nat} {a v:AV} {a':Value} (ha:VRel K a a') (hl:loadA (Dof P) σ t a=some v) :
 ∃ v',(Instr.loadAt t a').run P w=.ok v' w∧VRel K v v':=by
 unfold loadA at hl
 split at hl
 · rename_i i b off hD
   obtain⟨inf,d,z,hi,hu,hz,rfl⟩:=Dof_spec hD
   split at hl
   · rename_i c hb
     obtain⟨c',hc',hv⟩:=Option.bind_eq_some_iff.1 hl
     obtain⟨h1,rfl,h3⟩:=cut_spec hc'
     simp only [VRel] at ha
     obtain⟨B,hm,rfl⟩:=ha
     obtain⟨v',hr,hv'⟩:=run_loadVar hi hu (Lies.of_blk h hb hm off _ h1) h3 hv
     exact⟨v',by simpa [Instr.loadAt,Instr.sureAddr] using hr,hv'⟩
   · cases hl
 · rename_i i c hD
   obtain⟨inf,d,z,hi,hu,hz,rfl⟩:=Dof_spec hD
   obtain⟨c',hc',hv⟩:=Option.bind_eq_some_iff.1 hl
   obtain⟨h1,rfl,h3⟩:=cut_spec hc'
   simp only [VRel] at ha
   obtain⟨B,off,rfl,hc⟩:=ha
   obtain⟨v',hr,hv'⟩:=run_loadVar hi hu (Lies.of_cellsAt h.ro B _ off (CellsAt.take B _ off _ (by simpa using hc))) (by simpa using h3) hv
   exact⟨v',by simpa [Instr.loadAt,Instr.sureAddr] using hr,hv'⟩
 · cases hl
theorem load_sound (h:WRel G w0 ro0 K σ w) {t:Nat} {a v:AV} {a':Value} (ha:VRel K a a') (hl:loadA (Dof P) σ t a=some v) :
 Ran P G w0 ro0 K w (Instr.loadAt t a') v σ:=by
 obtain⟨v',h1,h2⟩:=load_same h ha hl
 exact Ran.same h h1 h2
theorem run_storeVar {t:Nat} {inf:TypeInfo} (hi:P.info? t=some inf) (ad:Addr) (v:Value) (hv:v.cells.size=inf.size) (w:World) :
 (storeVar t ad v).run P w=(storeCells ad v.cells.toList).run P w:=by
 simp [storeVar,sizeOf,typeInfo,hi,hv]
theorem store_sound (h:WRel G w0 ro0 K σ w) {t:Nat} {a x:AV} {a' x':Value} (ha:VRel K a a') (hx:VRel K x x') {σ':St} (hs:storeA (Dof P) σ t a x=some σ') :
 ∃ w',(Instr.storeAt t a' x').run P w=.ok () w'∧WRel G w0 ro0 K σ' w':=by
 unfold storeA at hs
 split at hs
 · rename_i i b off new hD hc
   obtain⟨inf,d,z,hi,hu,hz,rfl⟩:=Dof_spec hD
   split at hs
   · rename_i c hb
     split at hs
     · rename_i hl
       simp at hs
       subst hs
       obtain⟨hl1,hl2⟩:=hl
       simp only at hl1 hl2
       simp only [VRel] at ha
       obtain⟨B,hm,rfl⟩:=ha
       obtain⟨hc1,hc2⟩:=acells_rel hx hc
       obtain⟨B',h1,h2,h3,h4,h5⟩:=h.blk b _ hb
       rw [hm] at h1
       cases h1
       obtain⟨cs,el,h6,h0,h7,h8⟩:=h4
       have hlen:=hc1.length
       have hst:=run_storeCells_at P B off el x'.cells.toList 0 cs w h6 (by simp only [Nat.add_zero];omega) (hc1.oneCells hc2)
       simp only [Nat.add_zero] at hst
       have hbl:b<σ.H.length:=(List.getElem?_eq_some_iff.1 hb).1
       have hlen':x'.cells.size=new.length:=by simpa using hlen
       refine⟨w.setRow B (cs.toList.take off++x'.cells.toList++cs.toList.drop (off+x'.cells.toList.length)).toArray,?_,h.setBlk (B:=B) (b':=.cells (putAt c off new)) (w':=w.setRow B (cs.toList.take off++x'.cells.toList++cs.toList.drop (off+x'.cells.toList.length)).toArray) hbl hm rfl rfl rfl (by simp [World.setRow]) (fun k hk=>setRow_other w B k _ hk) ?_ (by rw [hb];simp)
        (fun cs2 el2 fr2 e2=>by
          rw [setRow_heap w B cs _ el _ h6] at e2
          cases e2
          rw [← h.bsz b B cs el _ hm h6]
          simp;omega) (fun _ _ _ _=>⟨cs,el,_,h6⟩)⟩
       · have hsz:x'.cells.size=inf.size:=by have:=hc1.length;simp at this;omega
         have hr:=run_storeVar (P:=P) hi ⟨B,off,none⟩ x' hsz w
         rw [hst] at hr
         simpa only [Instr.storeAt,Instr.sureAddr,Sem.run_bind,pure,Sem.run,Result.andThen_ok] using hr
       · refine⟨(cs.toList.take off++x'.cells.toList++cs.toList.drop (off+x'.cells.toList.length)).toArray,el,setRow_heap w B cs _ el _ h6,putAt_all _ _ _ h0 hc2,by simp [putAt_length];omega,fun i a e=>?_⟩
         rw [putAt_get _ _ _ _ (by omega)] at e
         simp only [List.getElem?_toArray]
         split at e
         · rename_i hin
           obtain⟨v,e1,e2⟩:=hc1.get _ _ e
           refine⟨v,?_,e2⟩
           rw [List.append_assoc,List.getElem?_append_right (by simp;omega),List.getElem?_append_left (by simp;simp at hlen;omega)]
           simp only [List.length_take,Array.length_toList]
           rw [show min off cs.size=off by omega]
           exact e1
         · rename_i hin
           obtain⟨v,e1,e2⟩:=h8 i a e
           refine⟨v,?_,e2⟩
           by_cases hlo:i<off
           · rw [List.append_assoc,List.getElem?_append_left (by simp;omega),List.getElem?_take,if_pos hlo]
             simpa using e1
           · have:off+new.length≤i:=by omega
             rw [List.getElem?_append_right (by simp at hlen ⊢;omega),List.getElem?_drop]
             simp only [List.length_append,List.length_take,Array.length_toList]
             simp at hlen
             rw [show off+x'.cells.size+(i-(min off cs.size+x'.cells.size))=i by omega]
             simpa using e1
     · cases hs
   · cases hs
 · cases hs
end
end
section
/-- 'putAt' on values. -/
def putV:List Value→Nat→List Value→List Value
 | c,_,[]=>c
 | c,off,v::r=>putV (c.set off v) (off+1) r
theorem putV_rel {K:Kn}:∀ (new:List AV) (news:List Value) (c:List AV) (cs:List Value) (off:Nat),VRels K new news→VRels K c cs→VRels K (putAt c off new) (putV cs off news)
 | [],_,c,cs,off,h,k=>by simp only [VRels] at h;subst h;simpa [putAt,putV] using k
 | a::r,_,c,cs,off,h,k=>by
  simp only [VRels] at h
  obtain⟨v,vr,rfl,h1,h2⟩:=h
  simp only [putAt,putV]
  refine putV_rel r vr _ _ _ h2 (VRels.intro (by simp [k.length]) fun i b e=>?_)
  have hl:=k.length
  by_cases hi:i=off
  · subst hi
    have hlt:i<c.length:=by have:=(List.getElem?_eq_some_iff.1 e).1;simpa using this
    simp [hlt] at e
    subst e
    exact⟨v,by simp [hl,hlt],h1⟩
  · rw [List.getElem?_set_ne (Ne.symm hi)] at e
    obtain⟨u,e1,e2⟩:=k.get i b e
    exact⟨u,by rw [List.getElem?_set_ne (Ne.symm hi)];exact e1,e2⟩
theorem fold_putV (off:Nat):∀ (l:List Value) (k:Nat) (cells:Array Value),((l.zipIdx k).foldl (fun cs x=>cs.setIfInBounds (off+x.2) x.1) cells).toList=putV cells.toList (off+k) l
 | [],k,cells=>by simp [putV]
 | v::r,k,cells=>by
  simp only [List.zipIdx_cons,List.foldl_cons,putV]
  rw [fold_putV off r (k+1)]
  simp [Nat.add_assoc]
theorem fill_rel {K:Kn} {place:Nat→Option (Nat×Nat)} {placeC:Nat→Option (Nat×Nat)} (hp:∀ i p,place i=some p→placeC i=some p) :
 ∀ (parts:List (Nat×AV)) (partsC:List (Nat×Value)) (c c':List AV) (cells:Array Value),VRels K c cells.toList→partsC.map (·.1)=parts.map (·.1)→VRels K (parts.map (·.2)) (partsC.map (·.2)) →
  fillA place c parts=some c'→∃ cells',Instr.fill placeC cells partsC=some cells'∧VRels K c' cells'.toList∧(c.all AV.atom=true→c'.all AV.atom=true)
 | [],partsC,c,c',cells,h,h1,h2,hf=>by
  have:partsC=[]:=by simpa using h1
  subst this
  simp [fillA] at hf
  subst hf
  exact⟨cells,rfl,h,id⟩
 | (i,x)::r,[],c,c',cells,h,h1,h2,hf=>by simp at h1
 | (i,x)::r,(j,y)::rc,c,c',cells,h,h1,h2,hf=>by
  simp only [List.map_cons,List.cons.injEq] at h1
  obtain⟨rfl,h1⟩:=h1
  simp only [List.map_cons,VRels] at h2
  obtain⟨v,vr,he,h3,h4⟩:=h2
  simp only [List.cons.injEq] at he
  obtain⟨rfl,rfl⟩:=he
  simp only [fillA] at hf
  split at hf
  · rename_i off n new hpl hc
    split at hf
    · rename_i hl
      obtain⟨hl1,hl2⟩:=hl
      obtain⟨hc1,hc2⟩:=acells_rel h3 hc
      have e1:=hc1.length
      have e2:=h.length
      simp only [Array.length_toList] at e1 e2
      have hfold:=fold_putV off y.cells.toList 0 cells
      have hput:=putV_rel new y.cells.toList c cells.toList off hc1 h
      obtain⟨cells',g1,g2,g3⟩:=fill_rel hp r rc _ c' (y.cells.zipIdx.foldl (fun cs (c,j)=>cs.setIfInBounds (off+j) c) cells) (by
       rw [← Array.foldl_toList,Array.toList_zipIdx]
       rw [hfold];simpa using hput) h1 h4 hf
      refine⟨cells',?_,g2,fun hh=>g3 (putAt_all _ _ _ hh hc2)⟩
      simp only [Instr.fill,hp _ _ hpl]
      rw [if_neg (by simp only [ne_eq,Bool.or_eq_true,decide_eq_true_eq];omega)]
      exact g1
    · cases hf
  · cases hf
section
variable {P:Program} {G:Nat→AV} {w0:World} {ro0:Nat→Nat→Option Value} {K:Kn} {σ:St} {w w':World}
theorem alloc_sound (h:WRel G w0 ro0 K σ w) {e:Nat} {i:TI} (hD:Dof P e=some i) (hz:i.zero.all AV.atom=true) :
 Ran P G w0 ro0 K w (Instr.alloc e true (.tuple #[])) (.ptr σ.H.length 0) (σ.push (.cells i.zero)):=by
 obtain⟨inf,d,z,hi,hu,hzero,rfl⟩:=Dof_spec hD
 refine⟨.pointer (some ⟨w.heap.size,0,none⟩),w.alloc (.cells z.cells e),K.addM σ.H.length w.heap.size (objSize _),?_,Kn.le_addM h _ _,h.push ?_,?_⟩
 · simp [Instr.alloc,zeroValue,typeInfo,hi,hzero,newVar,newRow]
 · refine⟨z.cells,e,rfl,hz,by simp,fun j a e1=>?_⟩
   have:=(VRels.ofAtoms K z.cells.toList).get j a e1
   simpa using this
 · exact⟨w.heap.size,by simp [Kn.addM],rfl⟩
theorem box_sound (h:WRel G w0 ro0 K σ w) {e:Nat} {x:AV} {x':Value} (hx:VRel K x x') {c:List AV} (hc:acells x=some c) :
 Ran P G w0 ro0 K w (Instr.box e x') (.ptr σ.H.length 0) (σ.push (.cells c)):=by
 obtain⟨h1,h2⟩:=acells_rel hx hc
 refine⟨.pointer (some ⟨w.heap.size,0,none⟩),w.alloc (.cells x'.cells e),K.addM σ.H.length w.heap.size (objSize _),?_,Kn.le_addM h _ _,h.push ?_,?_⟩
 · simp [Instr.box,newVar,newRow]
 · refine⟨x'.cells,e,rfl,h2,by have:=h1.length;simp at this;omega,fun j a e1=>?_⟩
   have:=h1.get j a e1
   simpa using this
 · exact⟨w.heap.size,by simp [Kn.addM],rfl⟩
theorem places_of (fs:List Field) (h:∀ f∈fs,P.cellsOf f.type≠0) :
 fs.mapM (fun f=>(P.info? f.type).map fun i=>(f.offset,i.size))=some (fs.map fun f=>(f.offset,P.cellsOf f.type)):=by
 induction fs with
 | nil=>rfl
 | cons f r ih=>
  have h1:=h f (by simp)
  simp only [Program.cellsOf] at h1
  cases hi:P.info? f.type with
  | none=>simp [hi] at h1
  | some i=>
   simp [List.mapM_cons,hi,ih (fun g hg=>h g (by simp [hg])),Program.cellsOf]
theorem build_sound (h:WRel G w0 ro0 K σ w) {t:Nat} {parts:List (Nat×AV)} {partsC:Array (Nat×Value)} (hp1:partsC.toList.map (·.1)=parts.map (·.1)) (hp2:VRels K (parts.map (·.2)) (partsC.toList.map (·.2)))
 {v:AV} (hb:buildA (Dof P) t parts=some v):Ran P G w0 ro0 K w (Instr.build t partsC) v σ:=by
 unfold buildA at hb
 split at hb
 · rename_i i hD
   obtain⟨inf,d,z,hi,hu,hzero,rfl⟩:=Dof_spec hD
   simp only at hb
   split at hb
   · rename_i fs hd
     obtain⟨fields,rfl,rfl,hnz,_⟩:=td_st hd
     obtain⟨c',hc',rfl⟩:=Option.map_eq_some_iff.1 hb
     have hpl:=places_of (P:=P) fields.toList hnz
     obtain⟨cells',g1,g2,_⟩:=fill_rel (K:=K) (place:=stPlace (Dof P) (fields.toList.map fun f=>(f.offset,f.type))) (placeC:=((fields.toList.map fun f=>(f.offset,P.cellsOf f.type)).toArray[·]?)) (fun i p e=>by
      simp only [stPlace,List.getElem?_map] at e
      cases hf:fields.toList[i]? with
      | none=>simp [hf] at e
      | some f=>
       simp only [hf,Option.map_some] at e
       obtain⟨j,hj,rfl⟩:=Option.map_eq_some_iff.1 e
       obtain⟨inf',d',z',hi',_,_,rfl⟩:=Dof_spec hj
       have hf':fields[i]?=some f:=by simpa using hf
       simp [hf',Program.cellsOf,hi']) parts partsC.toList _ c' z.cells (VRels.ofAtoms K _) hp1 hp2 hc'
     refine Ran.same h (run_build w t partsC cells' ?_) (by simp only [VRel];exact⟨cells',rfl,g2⟩)
     simp only [Program.built,hi,hu,hzero,hpl]
     exact g1
   · rename_i n e hd
     have hd':=td_arr hd
     subst hd'
     split at hb
     · rename_i j hj
       obtain⟨inf',d',z',hi',_,_,rfl⟩:=Dof_spec hj
       obtain⟨c',hc',rfl⟩:=Option.map_eq_some_iff.1 hb
       obtain⟨cells',g1,g2,_⟩:=fill_rel (K:=K) (place:=fun i=>some (i*inf'.size,inf'.size)) (placeC:=fun i=>some (i*inf'.size,inf'.size)) (fun i p e=>e) parts partsC.toList _ c' z.cells (VRels.ofAtoms K _) hp1 hp2 hc'
       refine Ran.same h (run_build w t partsC cells' ?_) (by simp only [VRel];exact⟨cells',rfl,g2⟩)
       simp only [Program.built,hi,hu,hzero,hi']
       exact g1
     · cases hb
   · cases hb
 · cases hb
theorem flatten_set (sz:Nat) (new:List AV) (hn:new.length=sz):∀ (rows:List (List AV)) (i:Nat),(∀ r∈rows,r.length=sz)→i<rows.length→putAt rows.flatten (i*sz) new=(rows.set i new).flatten
 | [],i,_,hi=>by simp at hi
 | r::rs,0,h,_=>by
  have hr:=h r (by simp)
  apply List.ext_getElem?
  intro j
  rw [putAt_get _ _ _ _ (by simp [hr,hn])]
  simp only [List.set_cons_zero,List.flatten_cons,List.getElem?_append,Nat.zero_mul,Nat.zero_add,Nat.zero_le,true_and,Nat.sub_zero]
  by_cases hj:j<new.length
  · simp [hj]
  · rw [if_neg hj,if_neg (by omega),if_neg hj,hr,hn]
 | r::rs,i+1,h,hi=>by
  have hr:=h r (by simp)
  have ih:=flatten_set sz new hn rs i (fun x hx=>h x (by simp [hx])) (by simpa using hi)
  have hlen:∀ l:List (List AV),(∀ r∈l,r.length=sz)→l.flatten.length=l.length*sz:=by
   intro l
   induction l with
   | nil=>intro _;simp
   | cons a l ih=>intro h';simp only [List.flatten_cons,List.length_append,List.length_cons,h' a (by simp),ih (fun x hx=>h' x (by simp [hx]))];rw [Nat.add_mul];omega
  have hfit:(i+1)*sz≤rs.length*sz:=Nat.mul_le_mul_right _ (by have:=hi;simp at this;omega)
  have hl2:=hlen rs (fun x hx=>h x (by simp [hx]))
  have hmul:(i+1)*sz=i*sz+sz:=by rw [Nat.add_mul];omega
  simp only [List.set_cons_succ,List.flatten_cons]
  rw [← ih]
  apply List.ext_getElem?
  intro j
  rw [putAt_get _ _ _ _ (by simp only [List.length_append,hl2,hr,hn];omega)]
  simp only [List.getElem?_append,hr]
  by_cases hj:j<sz
  · rw [if_neg (by omega),if_pos hj,if_pos hj]
  · rw [if_neg hj,if_neg hj,putAt_get _ _ _ _ (by rw [hl2,hn];omega)]
    by_cases hk:(i+1)*sz≤j∧j<(i+1)*sz+new.length
    · rw [if_pos hk,if_pos (by omega)]
      congr 1;omega
    · rw [if_neg hk,if_neg (by omega)]
theorem rowsFill_flat (sz:Nat):∀ (parts:List (Nat×AV)) (rows rows':List (List AV)),(∀ r∈rows,r.length=sz)→rowsFill sz rows parts=some rows' →
 fillA (fun i=>some (i*sz,sz)) rows.flatten parts=some rows'.flatten∧rows'.length=rows.length∧(∀ r∈rows',r.length=sz)
 | [],rows,rows',h,hf=>by simp [rowsFill] at hf;subst hf;exact⟨rfl,rfl,h⟩
 | (i,x)::r,rows,rows',h,hf=>by
  simp only [rowsFill] at hf
  split at hf
  · rename_i new hc
    split at hf
    · rename_i hl
      have hset:∀ r∈rows.set i new,r.length=sz:=fun y hy=>by
       rcases List.mem_or_eq_of_mem_set hy with h1|h1
       · exact h y h1
       · rw [h1];exact hl.1
      obtain⟨g1,g2,g3⟩:=rowsFill_flat sz r _ rows' hset hf
      refine⟨?_,by simpa using g2,g3⟩
      have hlen:rows.flatten.length=rows.length*sz:=by
       clear hf g1 g2 g3 hset hl
       induction rows with
       | nil=>simp
       | cons a l ih=>simp only [List.flatten_cons,List.length_append,List.length_cons,h a (by simp),ih (fun x hx=>h x (by simp [hx]))];rw [Nat.add_mul];omega
      have hfit:(i+1)*sz≤rows.length*sz:=Nat.mul_le_mul_right _ hl.2
      have hmul:(i+1)*sz=i*sz+sz:=by rw [Nat.add_mul];omega
      simp only [fillA,hc]
      rw [if_pos ⟨hl.1,by rw [hlen];omega⟩,flatten_set sz new hl.1 rows i h hl.2]
      exact g1
    · cases hf
  · cases hf
theorem replicate_flat_get (z:List AV):∀ (n i:Nat),i<n*z.length→(List.replicate n z).flatten[i]?=z[i % z.length]?
 | 0,i,h=>by simp at h
 | n+1,i,h=>by
  simp only [List.replicate_succ,List.flatten_cons,List.getElem?_append]
  split
  · rename_i h1;rw [Nat.mod_eq_of_lt h1]
  · rename_i h1
    have h2:z.length≤i:=by omega
    rw [replicate_flat_get z n (i-z.length) (by rw [Nat.add_mul] at h;omega),Nat.mod_eq_sub_mod h2]
theorem zeros_rel {z:Value} {n:Nat} (hz:0<z.cells.size):VRels K ((List.replicate n (z.cells.toList.map ofAtom)).flatten) ((Array.range (n*z.cells.size)).map (z.cells[· % z.cells.size]!)).toList:=by
 have hl:(z.cells.toList.map ofAtom).length=z.cells.size:=by simp
 refine VRels.intro (by simp) fun i a e=>?_
 have hlt:i<n*z.cells.size:=by
  have:=(List.getElem?_eq_some_iff.1 e).1
  simpa using this
 rw [replicate_flat_get _ n i (by rw [hl];exact hlt),hl] at e
 obtain⟨v,e1,e2⟩:=(VRels.ofAtoms K z.cells.toList).get _ _ e
 refine⟨v,?_,e2⟩
 simp only [Array.toList_map,Array.toList_range,List.getElem?_map,List.getElem?_range hlt,Option.map_some,Option.some.injEq]
 have hm:i % z.cells.size<z.cells.size:=Nat.mod_lt _ hz
 simp [hm] at e1
 simp [hm,e1]
theorem rows_of_flat {K':Kn} {B sz:Nat}:∀ (rows:List (List AV)) (off:Nat),(∀ r∈rows,r.length=sz)→rows.flatten.all AV.atom=true→CellsAt K' B off rows.flatten→RowsAt K' B off sz rows
 | [],off,_,_,_=>by simp [RowsAt]
 | r::rs,off,h,ha,hc=>by
  have hr:=h r (by simp)
  simp only [List.flatten_cons,List.all_append,Bool.and_eq_true] at ha hc
  simp only [RowsAt]
  refine⟨⟨hr,ha.1,?_⟩,rows_of_flat rs _ (fun x hx=>h x (by simp [hx])) ha.2 ?_⟩
  · have:=CellsAt.take B _ off r.length hc
    simpa using this
  · have:=CellsAt.drop B _ off r.length hc
    rw [hr] at this
    simpa [hr.symm] using this
theorem buildSlice_sound (h:WRel G w0 ro0 K σ w) {t n:Nat} {parts:List (Nat×AV)} {partsC:Array (Nat×Value)} (hp1:partsC.toList.map (·.1)=parts.map (·.1)) (hp2:VRels K (parts.map (·.2)) (partsC.toList.map (·.2)))
 {v:AV} (hb:buildSliceA (Dof P) t n parts=some v):Ran P G w0 ro0 K w (Instr.buildSlice t n partsC) v σ:=by
 unfold buildSliceA at hb
 split at hb
 · rename_i i hD
   obtain⟨inf,d,z,hi,hu,hzero,rfl⟩:=Dof_spec hD
   simp only at hb
   split at hb
   · rename_i e hd
     have hd':=td_sl hd
     subst hd'
     split at hb
     · rename_i j hj
       obtain⟨inf',d',z',hi',_,hz',rfl⟩:=Dof_spec hj
       simp only at hb
       split at hb
       · rename_i hc
         obtain⟨hc1,hc2,hc3,hc4⟩:=hc
         obtain⟨rows,hrows,rfl⟩:=Option.map_eq_some_iff.1 hb
         have hzl:z'.cells.size=inf'.size:=by simpa using hc1
         have huni:∀ r∈List.replicate n (z'.cells.toList.map ofAtom),r.length=inf'.size:=fun r hr=>by rw [(List.mem_replicate.1 hr).2];exact hc1
         obtain⟨f1,f2,f3⟩:=rowsFill_flat inf'.size parts _ rows huni hrows
         have hz0:=zeros_rel (K:=K) (z:=z') (n:=n) (by omega)
         rw [hzl] at hz0
         obtain⟨cells',g1,g2,g3⟩:=fill_rel (K:=K) (place:=fun i=>some (i*inf'.size,inf'.size)) (placeC:=fun i=>some (i*inf'.size,inf'.size)) (fun i p e=>e) parts partsC.toList _ _ ((Array.range (n*inf'.size)).map (z'.cells[· % inf'.size]!)) hz0 hp1 hp2 f1
         have hat:=g3 (by
          rw [List.all_eq_true]
          intro x hx
          obtain⟨l,hl1,hl2⟩:=List.mem_flatten.1 hx
          rw [(List.mem_replicate.1 hl1).2] at hl2
          rw [List.all_eq_true] at hc2
          exact hc2 x hl2)
         by_cases hn:n=0
         · subst hn
           have hrn:rows=[]:=List.eq_nil_of_length_eq_zero (by simpa using f2)
           subst hrn
           obtain⟨k1,k2⟩:=h.newRo [] cells' e (by simp)
           have hpn:partsC.toList=[]:=by
            cases parts with
            | nil=>simpa using hp1
            | cons p r=>
             simp only [rowsFill] at hrows
             split at hrows
             · split at hrows
               · rename_i hx;simp at hx
               · cases hrows
             · cases hrows
           have hce:cells' = #[]:=by
            have hl:=g2.length
            simp at hl
            exact hl
           subst hce
           refine⟨.slice (some ⟨w.heap.size,0,none⟩) 0 0,_,_,?_,k2,k1,?_⟩
           · have hpe:partsC = #[]:=by simpa using hpn
             subst hpe
             simp [Instr.buildSlice,run_underlying hu,sizeOf,typeInfo,hi',Instr.fill,newRow]
             rw [show Array.range 0 = #[] from by apply Array.ext';simp]
             simp
           · simp only [VRel]
             exact .inr ⟨w.heap.size,0,0,by simp,by simp,by simp [RowsAt],by simp [TokOk]⟩
         · have hpos:¬ n*inf'.size=0:=by
            intro e0
            rcases Nat.mul_eq_zero.1 e0 with e0|e0<;>omega
           obtain⟨k1,k2⟩:=h.newRo cells'.toList cells' e (fun j v e=>by simpa using e)
           refine⟨_,_,_,run_buildSlice w t e n partsC cells' inf' z' hu hi' hz' (by omega) hpos (by rw [hzl];exact g1),k2,k1,?_⟩
           simp only [VRel]
           have hrl:rows.length=n:=by simpa using f2
           refine .inr ⟨w.heap.size,0,n,by rw [hrl],by omega,rows_of_flat rows 0 f3 hat (CellsAt.addRo g2 k2),?_⟩
           simp [TokOk,hrl]
       · cases hb
     · cases hb
   · cases hb
 · cases hb
end
end
section
theorem str_toList (a:List UInt8):(⟨a.toArray⟩:ByteArray).toList=a:=by rw [ByteArray.toList_eq]
theorem str_size (a:List UInt8):(⟨a.toArray⟩:ByteArray).size=a.length:=by simp [ByteArray.size]
theorem str_append (a b:List UInt8):(⟨a.toArray⟩:ByteArray)++⟨b.toArray⟩=⟨(a++b).toArray⟩:=by
 apply ByteArray.ext;simp
theorem str_extract (a:List UInt8) (l h:Nat):(⟨a.toArray⟩:ByteArray).extract l h=⟨((a.take h).drop l).toArray⟩:=by
 apply ByteArray.ext
 rw [ByteArray.data_extract]
 simp [List.extract_eq_take_drop,List.drop_take]
section
variable {P:Program} {G:Nat→AV} {w0:World} {ro0:Nat→Nat→Option Value} {K:Kn} {σ:St} {w w':World}
theorem cellsOf_info {t:Nat} (h:P.cellsOf t≠0):∃ inf,P.info? t=some inf∧inf.size≠0:=by
 simp only [Program.cellsOf] at h
 cases hi:P.info? t with
 | none=>simp [hi] at h
 | some inf=>exact⟨inf,rfl,by simpa [hi] using h⟩
theorem fieldAddr_sound (h:WRel G w0 ro0 K σ w) {s f:Nat} {x v:AV} {x':Value} (hx:VRel K x x') (hf:fieldAddrA (Dof P) s x f=some v) :
 ∃ v',(Instr.fieldAt s x' f).run P w=.ok v' w∧VRel K v v':=by
 unfold fieldAddrA at hf
 split at hf
 · rename_i i hD
   obtain⟨inf,d,z,hi,hu,hzero,rfl⟩:=Dof_spec hD
   simp only at hf
   split at hf
   · rename_i fs hd
     obtain⟨fields,rfl,rfl,hnz,_⟩:=td_st hd
     split at hf
     · rename_i off ty hfo
       simp only [List.getElem?_map,Option.map_eq_some_iff] at hfo
       obtain⟨fl,hfl,he⟩:=hfo
       simp only [Prod.mk.injEq] at he
       obtain⟨rfl,rfl⟩:=he
       have hfl':fields[f]?=some fl:=by simpa using hfl
       obtain⟨inf2,hi2,hsz2⟩:=cellsOf_info (hnz fl (List.mem_of_getElem? hfl))
       have hrun:∀ ad:Addr,(Instr.fieldAt s (.pointer (some ad)) f).run P w=.ok (.pointer (some (ad.add fl.offset))) w:=by
        intro ad
        simp [Instr.fieldAt,run_underlying hu,hfl',Instr.sureAddr,fieldPlace,sizeOf,typeInfo,hi2,hsz2]
       split at hf
       · simp at hf;subst hf
         simp only [VRel] at hx
         obtain⟨B,hm,rfl⟩:=hx
         exact⟨_,hrun _,by rw [addr_add];exact⟨B,hm,rfl⟩⟩
       · simp at hf;subst hf
         simp only [VRel] at hx
         obtain⟨B,o,rfl,hc⟩:=hx
         exact⟨_,hrun _,by rw [addr_add];simp only [VRel];exact⟨B,_,rfl,CellsAt.drop B _ _ _ hc⟩⟩
       · cases hf
     · cases hf
   · cases hf
 · cases hf
theorem VRels.sub {c:List AV} {vs:List Value} (h:VRels K c vs) (off n:Nat):VRels K ((c.drop off).take n) ((vs.drop off).take n):=by
 refine VRels.intro (by simp [h.length]) fun i a e=>?_
 rw [List.getElem?_take,List.getElem?_drop] at e
 split at e
 · rename_i hi
   obtain⟨v,e1,e2⟩:=h.get _ _ e
   exact⟨v,by rw [List.getElem?_take,if_pos hi,List.getElem?_drop];exact e1,e2⟩
 · cases e
/-- A part of a composite value. -/
theorem part_sound {t:Nat} {inf:TypeInfo} {d:TypeDesc} (hi:P.info? t=some inf) (hu:P.underlying t=some d) {c c':List AV} {vs:Array Value} (hc:VRels K c vs.toList) {off:Nat}
 (h1:cut c off (if (tdOf P d).agg=some true then inf.size else 1)=some c') {v:AV} (h2:asVal (tdOf P d).agg c'=some v):∃ v',(part t vs off).run P w=.ok v' w∧VRel K v v':=by
 obtain⟨g1,g2,g3⟩:=cut_spec h1
 have hd:tdOf P d≠.other:=by intro e;rw [e] at h2;simp [TD.agg,asVal] at h2
 have ha:=run_isAgg (w:=w) hu hd
 cases hg:(tdOf P d).agg with
 | none=>rw [hg] at h2;simp [asVal] at h2
 | some g=>
  rw [hg] at h2 ha
  cases g with
  | true=>
   simp [asVal] at h2
   subst h2
   rw [hg] at g2
   simp only [if_true] at g2
   refine⟨.agg (vs.extract off (off+inf.size)),?_,?_⟩
   · simp only [part,Sem.run_bind,ha,Result.andThen_ok]
     simp [sizeOf,typeInfo,hi]
   · simp only [VRel]
     refine⟨_,rfl,?_⟩
     rw [g2]
     have:=hc.sub off inf.size
     simpa [List.extract_eq_take_drop] using this
  | false=>
   simp only [asVal] at h2
   rw [hg] at g2 g1
   simp only [Option.some.injEq,Bool.false_eq_true,if_false] at g2 g1
   have hget:c[off]?=some v:=by
    rw [g2,List.head?_take] at h2
    simp [List.head?_drop] at h2
    exact h2
   obtain⟨v',e1,e2⟩:=hc.get off v hget
   refine⟨v',?_,e2⟩
   simp only [part,Sem.run_bind,ha,Result.andThen_ok]
   have:vs[off]?=some v':=by simpa using e1
   simp [this]
theorem field_sound {s f:Nat} {x v:AV} {x':Value} (hx:VRel K x x') (hf:fieldA (Dof P) s x f=some v) :
 ∃ v',(Instr.field s x' f).run P w=.ok v' w∧VRel K v v':=by
 unfold fieldA at hf
 split at hf
 · rename_i i c hD
   obtain⟨inf,d,z,hi,hu,hzero,rfl⟩:=Dof_spec hD
   simp only at hf
   split at hf
   · rename_i fs hd
     obtain⟨fields,rfl,rfl,hnz,_⟩:=td_st hd
     split at hf
     · rename_i off ty hfo
       simp only [List.getElem?_map,Option.map_eq_some_iff] at hfo
       obtain⟨fl,hfl,he⟩:=hfo
       simp only [Prod.mk.injEq] at he
       obtain⟨rfl,rfl⟩:=he
       have hfl':fields[f]?=some fl:=by simpa using hfl
       split at hf
       · rename_i j hj
         obtain⟨inf2,d2,z2,hi2,hu2,_,rfl⟩:=Dof_spec hj
         obtain⟨c',hc',hv⟩:=Option.bind_eq_some_iff.1 hf
         simp only [VRel] at hx
         obtain⟨vs,rfl,hvs⟩:=hx
         obtain⟨v',e1,e2⟩:=part_sound (w:=w) hi2 hu2 hvs hc' hv
         refine⟨v',?_,e2⟩
         simp [Instr.field,run_underlying hu,hfl',asAgg,e1]
       · cases hf
     · cases hf
   · cases hf
 · cases hf
theorem asInt_spec {i:AV} {n:Int} (h:asIntA i=some n) {i':Value} (hi:VRel K i i'):∃ k,i'=.int k n:=by
 cases i<;>simp [asIntA] at h
 subst h
 exact⟨_,by simpa only [VRel] using hi⟩
theorem indexAddr_sound (h:WRel G w0 ro0 K σ w) {t:Nat} {x i v:AV} {x' i':Value} (hx:VRel K x x') (hi':VRel K i i') (hf:indexAddrA (Dof P) t x i=some v) :
 ∃ v',(Instr.indexAt t x' i').run P w=.ok v' w∧VRel K v v':=by
 unfold indexAddrA at hf
 split at hf
 · rename_i ti n hD hn
   obtain⟨inf,d,z,hi,hu,hzero,rfl⟩:=Dof_spec hD
   obtain⟨k,rfl⟩:=asInt_spec hn hi'
   simp only at hf
   split at hf
   · rename_i e hd
     have hd':=td_sl hd
     subst hd'
     split at hf
     · rename_i j hj
       obtain⟨inf2,d2,z2,hi2,hu2,_,rfl⟩:=Dof_spec hj
       split at hf
       · rename_i sz rows tok
         split at hf
         · rename_i hc
           obtain⟨h0,hsz⟩:=hc
           simp only at hsz
           obtain⟨r,hr,rfl⟩:=Option.map_eq_some_iff.1 hf
           have hlt:n.toNat<rows.length:=(List.getElem?_eq_some_iff.1 hr).1
           simp only [VRel] at hx
           rcases hx with ⟨_,rfl,_⟩|⟨B,off,cap,rfl,hcap,hrows,_⟩
           · simp at hlt
           · have hsz':sz=inf2.size:=by
              rcases hsz with hsz|rfl
              · exact hsz
              · simp at hlt
             subst hsz'
             obtain⟨_,_,hca⟩:=RowsAt.get B _ rows off hrows _ _ hr
             refine⟨.pointer (some ⟨B,off+n.toNat*inf2.size,none⟩),?_,by simp only [VRel];exact⟨B,_,rfl,hca⟩⟩
             have hn2:n<(rows.length:Int):=by omega
             simp [Instr.indexAt,asIntOf,run_underlying hu,h0,hn2,sizeOf,typeInfo,hi2,addr_add]
         · cases hf
       · rename_i b off len sz
         split at hf
         · rename_i hc
           obtain⟨h0,hlt,hsz⟩:=hc
           simp only at hsz
           subst hsz
           simp at hf
           subst hf
           simp only [VRel] at hx
           obtain⟨B,cap,hm,rfl,_⟩:=hx
           refine⟨.pointer (some ⟨B,off+n.toNat*inf2.size,none⟩),?_,by simp only [VRel];exact⟨B,hm,rfl⟩⟩
           simp [Instr.indexAt,asIntOf,run_underlying hu,h0,hlt,sizeOf,typeInfo,hi2,addr_add]
         · cases hf
       · cases hf
     · cases hf
   · rename_i m e hd
     have hd':=td_arr hd
     subst hd'
     split at hf
     · rename_i j hj
       obtain⟨inf2,d2,z2,hi2,hu2,_,rfl⟩:=Dof_spec hj
       split at hf
       · rename_i hc
         obtain⟨h0,hlt⟩:=hc
         have hrun:∀ ad:Addr,(Instr.indexAt t (.pointer (some ad)) (.int k n)).run P w=.ok (.pointer (some (ad.add (n.toNat*inf2.size)))) w:=by
          intro ad
          simp [Instr.indexAt,asIntOf,run_underlying hu,h0,hlt,sizeOf,typeInfo,hi2,Instr.sureAddr]
         split at hf
         · simp at hf;subst hf
           simp only [VRel] at hx
           obtain⟨B,hm,rfl⟩:=hx
           exact⟨_,hrun _,by rw [addr_add];exact⟨B,hm,rfl⟩⟩
         · simp at hf;subst hf
           simp only [VRel] at hx
           obtain⟨B,o,rfl,hc⟩:=hx
           exact⟨_,hrun _,by rw [addr_add];simp only [VRel];exact⟨B,_,rfl,CellsAt.drop B _ _ _ hc⟩⟩
         · cases hf
       · cases hf
     · cases hf
   · cases hf
 · cases hf
theorem index_sound {t:Nat} {x i v:AV} {x' i':Value} (hx:VRel K x x') (hi':VRel K i i') (hf:indexA (Dof P) t x i=some v) :
 ∃ v',(Instr.index t x' i').run P w=.ok v' w∧VRel K v v':=by
 unfold indexA at hf
 split at hf
 · rename_i ti n hD hn
   obtain⟨inf,d,z,hi,hu,hzero,rfl⟩:=Dof_spec hD
   obtain⟨k,rfl⟩:=asInt_spec hn hi'
   simp only at hf
   split at hf
   · rename_i s hd
     have hd':=td_str hd
     subst hd'
     split at hf
     · rename_i h0
       obtain⟨b,hb,rfl⟩:=Option.map_eq_some_iff.1 hf
       simp only [VRel] at hx
       subst hx
       refine⟨.int .u8 b.toNat,?_,by simp [VRel]⟩
       have:(⟨s.toArray⟩:ByteArray)[n.toNat]?=some b:=by
        have hlt:=(List.getElem?_eq_some_iff.1 hb)
        obtain⟨h1,h2⟩:=hlt
        rw [getElem?_pos _ _ (by rw [str_size];exact h1)]
        congr 1
       simp [Instr.index,asIntOf,run_underlying hu,h0,this]
     · cases hf
   · rename_i m e c hd
     have hd':=td_arr hd
     subst hd'
     split at hf
     · rename_i j hj
       obtain⟨inf2,d2,z2,hi2,hu2,_,rfl⟩:=Dof_spec hj
       split at hf
       · rename_i hc
         obtain⟨h0,hlt⟩:=hc
         obtain⟨c',hc',hv⟩:=Option.bind_eq_some_iff.1 hf
         simp only [VRel] at hx
         obtain⟨vs,rfl,hvs⟩:=hx
         obtain⟨v',e1,e2⟩:=part_sound (w:=w) hi2 hu2 hvs hc' hv
         refine⟨v',?_,e2⟩
         simp [Instr.index,asIntOf,run_underlying hu,h0,hlt,sizeOf,typeInfo,hi2,e1]
       · cases hf
     · cases hf
   · cases hf
 · cases hf
theorem extract_sound {x v:AV} {x':Value} (hx:VRel K x x') {i:Nat} (hf:extractA x i=some v):∃ v',(Instr.extract x' i).run P w=.ok v' w∧VRel K v v':=by
 cases x<;>simp [extractA] at hf
 simp only [VRel] at hx
 obtain⟨vs,rfl,hvs⟩:=hx
 obtain⟨v',e1,e2⟩:=hvs.get i v hf
 have:vs[i]?=some v':=by simpa using e1
 exact⟨v',by simp [Instr.extract,this],e2⟩
theorem un_sound {op:UnOp} {x v:AV} {x':Value} (hx:VRel K x x') (hf:unA op x=some v):∃ v',(Op.unary op x').run P w=.ok v' w∧VRel K v v':=by
 unfold unA at hf
 split at hf
 · simp only [VRel] at hx;subst hx;simp at hf;subst hf
   exact⟨_,by simp only [Op.unary,pure,Sem.run];rfl,by simp [VRel]⟩
 · simp only [VRel] at hx;subst hx;simp only [Option.some.injEq] at hf;subst hf
   exact⟨_,by simp only [Op.unary,Op.intArith,pure,Sem.run];rfl,by simp [VRel]⟩
 · simp only [VRel] at hx;subst hx;simp at hf;subst hf
   exact⟨_,by simp [Op.unary,Op.intBits];rfl,by simp [VRel]⟩
 · cases hf
theorem intOp_sound {op:BinOp} {k:IntKind} {a b:Int} {v:AV} (hf:intOp op k a b=some v) (t:Nat) (hs:op≠.shl∧op≠.shr) :
 ∃ v',(binOp op t (.int k a) (.int k b)).run P w=.ok v' w∧VRel K v v':=by
 obtain⟨hs1,hs2⟩:=hs
 cases op<;>simp only [intOp] at hf<;>first
  | exact absurd rfl hs1
  | exact absurd rfl hs2
  | skip
 all_goals first
  | (split at hf
     · cases hf
     · rename_i hb
       simp at hf;subst hf
       exact⟨_,by simp [binOp,Op.intDiv,hb];rfl,by simp [VRel]⟩)
  | (simp at hf;subst hf;exact⟨_,by simp [binOp,Op.intArith,Op.intBits,Op.intCmp];rfl,by simp [VRel]⟩)
  | (cases hf)
end
end
end Go.Abs
end
