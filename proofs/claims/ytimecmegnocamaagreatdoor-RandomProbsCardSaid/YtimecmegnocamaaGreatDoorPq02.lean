import Derived.Test.YtimecmegnocamaaGreatDoorPq01
import Derived.Great.BuildSlice
import Derived.Laws.StructEq
import Derived.ChangeKeysEq
set_option linter.all false
set_option linter.defProp false
namespace Go.Abs
open Go Go.RowKit
def Qa:∀(new c) (off),(zA c off new).length=c.length
 |[],c,off=>by simp[zA]
 |v::r,c,off=>by simp[zA,Qa r]
def wS:∀(new c) (off i),off+new.length<=c.length->(zA c off new)[i]?=if off<=i/\i<off+new.length then new[i-off]? else c[i]?
 |[],c,off,i,_=>by simp[zA];intro h1 h2;omega
 | v::r,c,off,i,h=>by
  simp only[qBc]at h;simp only[zA];rw[wS r _ _ _ (by simp;omega)];by_cases h1:i=off
  . subst h1;have:i<c.length:=by omega
    rw[if_neg (by omega),if_pos ⟨qA5 _,by simp⟩];simp[this]
  by_cases h2:off+1<=i/\i<off+1+r.length
  . rw[if_pos h2,if_pos ⟨by omega,by simp;omega⟩];have:i-off=(i-(off+1))+1:=by omega
    rw[this];simp
  rw[if_neg h2,if_neg (by simp;omega)];rw[qAX (by omega)]
def putAt_all:∀(new c) (off),c.all AV.atom=true->new.all AV.atom=true->(zA c off new).all AV.atom=true
 |[],c,off,h,_=>by simpa[zA] using h
 | v::r,c,off,h,k=>by
  simp only[qCm,qA1]at k;refine putAt_all r _ _ ?_ k.2;rw[qA3]at h⊢;intro x hx;rcases qCF hx with h1|h1
  . exact h x h1
  rw[h1];exact k.1
section
variable {P:Program}{G:Nat->AV}{w0:World}{ro0:Nat->Nat->Option Value}{K:Kn}{U:St}{w w':World}
def WRel.setBlk(h:WRel G w0 ro0 K U w){i B b'}(hi:i<U.H.length)(hm:K.m i=some B)(hos:w'.os=w.os)(htape:w'.tape=w.tape)(hout:w'.output=w.output)
 (hsz:w'.heap.size=w.heap.size) (hother:∀k,k≠B->w'.heap[k]?=w.heap[k]?) (hb:ym K b' w'.heap[B]?)
 (hal:U.H[i]?≠some .dead) (hbs:∀cs el fr,w'.heap[B]?=some (.cells cs el fr)->cs.size=K.bs i)
 (hwas:∀cs el fr,w'.heap[B]?=some (.cells cs el fr)->∃cs0 el0 fr0,w.heap[B]?=some (.cells cs0 el0 fr0)):WRel G w0 ro0 K {U with H:=U.H.set i b'} w':=by
 have hB:=h.m_lt hm;have keep:∀j,U.H[j]?=some Blk.dead->(U.H.set i b')[j]?=some Blk.dead:=fun j hj=>by
  have hne:i≠j:=by rintro rfl;exact hal hj
  rwa[qAX hne]
 refine⟨h.below.trans ⟨hos,htape,hout,by omega,fun k hk=>hother k (by omega)⟩,h.glob,?_,h.new,?_,fun i' j B' e1 e2=>(h.inj i' j B' e1 e2).imp_right (Or.imp (keep _) (keep _)),fun i' B' e=>by simpa using h.mlt i' B' e,?_,h.chd,h.chinj,h.nch,?_,?_,fun n o e=>by simpa using h.rwl n o e⟩
 . intro b o v e;have hne:b≠B:=by
    rintro rfl;obtain⟨B',h1,_,_,_,h5⟩:=h.blk i U.H[i] (by simp[hi]);rw[hm]at h1;cases h1;rw[h5 o]at e;cases e
   rw[World.cell?_of_block (w:=w) (hother b hne)];exact h.ro b o v e
 . intro j b e;by_cases hj:j=i
   . subst hj;simp[hi]at e;subst e;obtain⟨B',h1,h2,h3,_,h5⟩:=h.blk j U.H[j] (by simp[hi]);rw[hm]at h1;cases h1;exact⟨B,hm,h2,by omega,hb,h5⟩
   simp[qAX (Ne.symm hj)]at e;obtain⟨B',h1,h2,h3,h4,h5⟩:=h.blk j b e;refine⟨B',h1,h2,by omega,?_,h5⟩;by_cases hBB:B'=B
   . subst hBB;rcases h.inj _ _ _ h1 hm with h6|h6|h6
     . exact absurd h6 hj
     . rw[e]at h6;cases h6;simp[ym]
     exact absurd h6 hal
   rwa[hother B' hBB]
 . intro t k e;obtain⟨C,h1,h2,h3,h4,⟨cs,el,h5,h6⟩,h7,h8⟩:=h.ch t k e;exact⟨C,h1,h2,h3,h4,⟨cs,el,by rw[hother C.B (fun e=>h8 i (by rw[hm,e]))];exact h5,h6⟩,h7,h8⟩
 . intro j B' cs el fr e1 e2;by_cases hBB:B'=B
   . subst hBB;obtain⟨B0,g1,g2,g3,g4,g5⟩:=h.blk i U.H[i] (by simp[hi]);rw[hm]at g1;cases g1;by_cases hij:j=i
     . subst hij;exact hbs cs el fr e2
     have hb1:=hbs cs el fr e2;obtain⟨cs0,el0,fr0,hw⟩:=hwas cs el fr e2;rw[hb1,<- h.bsz i B' cs0 el0 fr0 hm hw,h.bsz j B' cs0 el0 fr0 e1 hw]
   rw[hother B' hBB]at e2;exact h.bsz j B' cs el fr e1 e2
 intro B' x e;obtain⟨g1,g2,g3,g4⟩:=h.fx B' x e;have hBB:B'≠B:=fun e2=>g3 i (by rwa[e2])
 exact⟨by rw[hother B' hBB];exact g1,g2,g3,g4⟩
def Kn.le_chain{t n C' B lo vs}(hn:∀o,lo<=o->o<lo+vs.length->K.ro B o=none)
 (hnch:K.nch<=n) (hk:t<K.nch->∃C,K.ch t=some C/\C.k<C'.k):K.le ((K.addRo B lo vs).setCh t C' n):=by
 have h1:=Kn.le_addRo B lo vs hn;refine⟨h1.ro,h1.m,hnch,fun u C1 hu e=>?_,fun _ _ _=>rfl,fun _ _ e=>e,fun _ _ e=>e⟩;simp only[Kn.setCh]at e;split at e
 . rename_i hut;subst hut;cases e;obtain⟨C,e1,e2⟩:=hk hu;exact⟨C,e1,.inr e2⟩
 exact⟨C1,e,.inl rfl⟩
def WRel.chainNew(h:WRel G w0 ro0 K U w)(vs:List Value)(cs)(el:TypeId)(hp:∀(j:Nat) (v:Value),vs[j]?=some v->cs[j]?=some v)
 (t k n:Nat) (T') (hT:∀u k',T'[u]?=some (some k')->(u=t/\k'=k)\/(u≠t/\U.T[u]?=some (some k'))) (hTt:T'[t]?=some (some k))
 (hTk:∀u C,u≠t->K.ch u=some C->∃k',T'[u]?=some (some k')) (hn:n=T'.length) (hnch:K.nch<=n) (hk:t<K.nch->∃C,K.ch t=some C/\C.k<k) (sz) (hcs:vs.length<=cs.size):
 WRel G w0 ro0 ((K.addRo w.heap.size 0 vs).setCh t ⟨k,w.heap.size,vs.length,cs.size,sz⟩ n) {U with T:=T'} (w.alloc (.cells cs el)) /\
  K.le ((K.addRo w.heap.size 0 vs).setCh t ⟨k,w.heap.size,vs.length,cs.size,sz⟩ n):=by
 have hle:K.le ((K.addRo w.heap.size 0 vs).setCh t ⟨k,w.heap.size,vs.length,cs.size,sz⟩ n):=Kn.le_chain (fun o _ _=>h.ro_new o) hnch hk;obtain⟨h1,_⟩:=h.newRo vs cs el hp;refine⟨⟨h1.below,fun g=>(h.glob g).mono (JT hle),h1.ro,h1.new,?_,h1.inj,h1.mlt,?_,?_,?_,?_,h1.bsz,?_,h1.rwl⟩,hle⟩
 . intro i b e;obtain⟨B,a1,a2,a3,a4,a5⟩:=h.blk i b e;refine⟨B,a1,a2,by simp;omega,by rw[Below.heap_alloc w _ B a3];exact a4.mono hle,fun o=>?_⟩;simp only[Kn.setCh,Kn.addRo];rw[if_neg (by omega)];exact a5 o
 . intro u k' e;rcases hT u k' e with⟨rfl,rfl⟩|⟨hne,e'⟩
   . refine⟨⟨k',w.heap.size,vs.length,cs.size,sz⟩,by simp[Kn.setCh],rfl,h.size_le,hcs,⟨cs,el,heap_alloc_new w _,rfl⟩,fun o ho=>?_,fun i e2=>?_⟩
     . simp only[Kn.setCh,Kn.addRo];rw[if_neg (by simp only at ho;omega)];exact h.ro_new o
     . have:=(h.m_lt (show K.m i=some _ from e2)).1;simp only at this;omega
   obtain⟨C,a1,a2,a3,a4,⟨cs',el',a5,a6⟩,a7,a8⟩:=h.ch u k' e';refine⟨C,by simp[*,Kn.setCh,Kn.addRo],a2,a3,a4,⟨cs',el',?_,a6⟩,fun o ho=>?_,a8⟩
   . rw[Below.heap_alloc w _ C.B (h.ch_lt a1).1];exact a5
   simp only[Kn.setCh,Kn.addRo];have:=(h.ch_lt a1).1;rw[if_neg (by omega)];exact a7 o ho
 . intro u C e;simp only[Kn.setCh]at e;split at e
   . rename_i hu;subst hu;exact⟨k,hTt⟩
   rename_i hu;exact hTk u C hu e
 . intro u u' C C' e e' hB;simp only[Kn.setCh]at e e';split at e<;>split at e'
   . omega
   . cases e;have:=(h.ch_lt (show K.ch u'=some C' from e')).1;simp only at hB;omega
   . cases e';have:=(h.ch_lt (show K.ch u=some C from e)).1;simp only at hB;omega
   exact h.chinj u u' C C' e e' hB
 . simp[Kn.setCh,hn]
 intro B x e;obtain⟨g1,g2,g3,g4⟩:=h.fx B x e;have hlt:=(qBR.1 g1).1;refine⟨by rw[Below.heap_alloc w _ B hlt];exact g1,g2,g3,fun u C e2=>?_⟩;simp only[Kn.setCh]at e2;split at e2
 . cases e2;simp only;omega
 exact g4 u C e2
def WRel.chainIn(h:WRel G w0 ro0 K U w){t k C}(hC:K.ch t=some C)(hk:U.T[t]?=some (some k))(vs cs' el k')(hkk:k<k')
 (hos:w'.os=w.os) (htape:w'.tape=w.tape) (hout:w'.output=w.output) (hsz:w'.heap.size=w.heap.size) (hother:∀j,j≠C.B->w'.heap[j]?=w.heap[j]?)
 (hnew:w'.heap[C.B]?=some (.cells cs' el (0,0))) (hcs:cs'.size=C.cap) (hfit:C.fin+vs.length<=C.cap)
 (hvs:∀(j) (v),vs[j]?=some v->cs'[C.fin+j]?=some v) (hold:∀(cs) (el),w.heap[C.B]?=some (.cells cs el (0,0))->∀j,j<C.fin->cs'[j]?=cs[j]?):
 WRel G w0 ro0 ((K.addRo C.B C.fin vs).setCh t ⟨k',C.B,C.fin+vs.length,C.cap,C.sz⟩ K.nch) {U with T:=U.T.set t (some k')} w' /\
  K.le ((K.addRo C.B C.fin vs).setCh t ⟨k',C.B,C.fin+vs.length,C.cap,C.sz⟩ K.nch):=by
 obtain⟨C1,c1,c2,c3,c4,⟨cs,el0,c5,c6⟩,c7,c8⟩:=h.ch t k hk;rw[hC]at c1;cases c1;have hle:K.le ((K.addRo C.B C.fin vs).setCh t ⟨k',C.B,C.fin+vs.length,C.cap,C.sz⟩ K.nch):=Kn.le_chain (fun o ho _=>c7 o ho) (qA5 _) (fun _=>⟨C,hC,by simp only;omega⟩);have htT:=(qAU.1 hk).1;refine⟨⟨h.below.trans ⟨hos,htape,hout,by omega,fun j hj=>hother j (by omega)⟩,fun g=>(h.glob g).mono (JT hle),?_,?_,?_,h.inj,h.mlt,?_,?_,?_,?_,?_,?_,h.rwl⟩,hle⟩
 . intro b o v e;simp only[Kn.setCh,Kn.addRo]at e;split at e
   . rename_i hc;obtain⟨rfl,e1,e2⟩:=hc;have:=hvs _ _ e;simp only[World.cell?,hnew];rw[show C.fin+(o-C.fin)=o by omega]at this;simpa using this
   have hro:=h.ro b o v e;by_cases hb:b=C.B
   . subst hb;have ho:o<C.fin:=by
      rcases qEI o C.fin with h1|h1
      . exact h1
      rw[c7 o h1]at e;cases e
     simp only[World.cell?,hnew];simp only[World.cell?,c5]at hro;simp at hro⊢
     rwa[hold cs el0 c5 o ho]
   rwa[World.cell?_of_block (w:=w) (hother b hb)]
 . intro b o v e hb;simp only[Kn.setCh,Kn.addRo]at e;split at e
   . rename_i hc;obtain⟨rfl,_⟩:=hc;omega
   exact h.new b o v e hb
 . intro i b e;obtain⟨B,a1,a2,a3,a4,a5⟩:=h.blk i b e;have hne:B≠C.B:=fun e=>c8 i (by rw[a1,e])
   refine⟨B,a1,a2,by omega,by rw[hother B hne];exact a4.mono hle,fun o=>?_⟩;simp only[Kn.setCh,Kn.addRo];rw[if_neg (by simp[hne])];exact a5 o
 . intro u k1 e;by_cases hu:u=t
   . subst hu;simp[htT]at e;subst e;refine⟨⟨k',C.B,C.fin+vs.length,C.cap,C.sz⟩,by simp[Kn.setCh],rfl,c3,hfit,⟨cs',el,hnew,hcs⟩,fun o ho=>?_,c8⟩;simp only[Kn.setCh,Kn.addRo];simp only at ho;rw[if_neg (by omega)];exact c7 o (by omega)
   rw[qAX (Ne.symm hu)]at e;obtain⟨C2,a1,a2,a3,a4,⟨cs2,el2,a5,a6⟩,a7,a8⟩:=h.ch u k1 e;have hne:C2.B≠C.B:=fun e=>hu (h.chinj u t C2 C a1 hC e)
   refine⟨C2,by simp[*,Kn.setCh,Kn.addRo],a2,a3,a4,⟨cs2,el2,by rw[hother _ hne];exact a5,a6⟩,fun o ho=>?_,a8⟩;simp only[Kn.setCh,Kn.addRo];rw[if_neg (by simp[hne])];exact a7 o ho
 . intro u C1 e;simp only[Kn.setCh]at e;split at e
   . rename_i hu;subst hu;exact⟨k',by simp[htT]⟩
   rename_i hu;obtain⟨k1,e1⟩:=h.chd u C1 e;exact⟨k1,by rw[qAX (Ne.symm hu)];exact e1⟩
 . intro u u' C1 C2 e e' hB;simp only[Kn.setCh]at e e';split at e<;>split at e'
   . omega
   . rename_i hu hu';cases e;exact absurd (h.chinj t u' C C2 hC e' hB).symm hu'
   . rename_i hu hu';cases e';exact absurd (h.chinj u t C1 C e hC hB) hu
   exact h.chinj u u' C1 C2 e e' hB
 . simp[Kn.setCh,h.nch]
 . intro i B cs el fr e1 e2;have hne:B≠C.B:=fun e=>c8 i (by rw[show K.m i=some B from e1,e])
   rw[hother B hne]at e2;exact h.bsz i B cs el fr e1 e2
 intro B x e;obtain⟨g1,g2,g3,g4⟩:=h.fx B x e;have hBB:B≠C.B:=fun e2=>g4 t C hC e2.symm
 refine⟨by rw[hother B hBB];exact g1,g2,g3,fun u C2 e2=>?_⟩;simp only[Kn.setCh]at e2;split at e2
 . cases e2;exact fun e3=>hBB e3.symm
 exact g4 u C2 e2
end
def qH{P t i}(h:Dof P t=some i):
 ∃inf d z,P.info? t=some inf/\P.underlying t=some d/\inf.zero=some z/\i=⟨inf.size,inf.bytes,z.cells.toList.map ofAtom,ofV z,QG P d,!P.stoodInHeld t⟩:=by
 unfold Dof at h;split at h
 . rename_i inf d h1 h2;split at h
   . rename_i z h3;simp at h;exact⟨inf,d,z,h1,h2,h3,h.symm⟩
   cases h
 cases h
def QZ{P}{d:TypeDesc}{e}(h:QG P d=.sl e):d=.slice e:=by
 cases d<;>simp[QG]at h
 . simp[h]
 split at h<;>cases h
def qbS{P}{d:TypeDesc}{n e}(h:QG P d=.arr n e):d=.array n e:=by
 cases d<;>simp[QG]at h
 . simp[h]
 split at h<;>cases h
def vY{P}{d:TypeDesc}(h:QG P d=.str):d=.string:=by
 cases d<;>simp[QG]at h
 . rfl
 split at h<;>cases h
def qal{P}{d:TypeDesc}(h:QG P d=.bool):d=.bool:=by
 cases d<;>simp[QG]at h
 . rfl
 split at h<;>cases h
def JW{P}{d:TypeDesc}{k}(h:QG P d=.int k):d=.int k:=by
 cases d<;>simp[QG]at h
 . simp[h]
 split at h<;>cases h
def qbR{P}{d:TypeDesc}{k e}(h:QG P d=.map k e):d=.map k e:=by
 cases d<;>simp[QG]at h
 . simp[h]
 split at h<;>cases h
def qmN{P}{d:TypeDesc}{fs}(h:QG P d=.st fs):
 ∃ fields:Array Field,d = .struct fields∧fs=fields.toList.map (fun f=>(f.offset,f.type))∧(∀ f ∈ fields.toList,P.cellsOf f.type≠0) ∧ ∀ f ∈ fields.toList,f.name ≠ "_" := by
 cases d with
 | struct fields=>
  simp only[QG]at h;split at h
  . rename_i h1;simp at h;rw[qA3]at h1;exact⟨fields,rfl,h.symm,fun f hf=>by have:=h1 f hf;simp at this;exact this.1,fun f hf=>by have:=h1 f hf;simp at this;exact this.2⟩
  cases h
 |_=>simp[QG]at h
section
variable {P:Program}{G:Nat->AV}{w0:World}{ro0:Nat->Nat->Option Value}{K:Kn}{U:St}{w w':World}
def Ran(P:Program)(G:Nat->AV)(w0:World)(ro0:Nat->Nat->Option Value)(K:Kn)(w:World)(s:Sem Value)(v:AV)(U':St):Prop :=
 ∃v' w' K',s.run P w=.ok v' w'/\K.le K'/\WRel G w0 ro0 K' U' w'/\qk K' v v'
def Ran.same(h:WRel G w0 ro0 K U w){s:Sem Value}{v v'}(hr:s.run P w=.ok v' w)(hv:qk K v v'):Ran P G w0 ro0 K w s v U :=
 ⟨v',w,K,hr,qFG K,h,hv⟩
def qFJ:=@Ran.same
def qcc{t:Nat}{d:TypeDesc}(hu:P.underlying t=some d)(hd:QG P d≠.other):(isAgg t).run P w=.ok ((QG P d).agg==some true) w:=by
 simp only[isAgg,Sem.run_bind,run_underlying hu,Result.andThen_ok]
 cases d with
 | struct fields=>
  simp only[QG]at hd⊢;split at hd
  . rename_i h1;rw[if_pos h1];rfl
  exact absurd rfl hd
 |_=>first|rfl|exact absurd rfl hd
def qa8{c c' off n}(h:cut c off n=some c'):off+n<=c.length/\c'=(c.drop off).take n/\c'.length=n:=by
 unfold cut at h;split at h
 . rename_i hl;simp at h;subst h;refine⟨hl,rfl,?_⟩;simp;omega
 cases h
def qiC.of_blk(h:WRel G w0 ro0 K U w){b B c}(hb:U.H[b]?=some (.cells c))(hm:K.m b=some B)(off n)(hl:off+n<=c.length):
 qiC K w B off ((c.drop off).take n):=by
 obtain⟨B',h1,h2,h3,h4,h5⟩:=h.blk b _ hb;rw[hm]at h1;cases h1;obtain⟨cs,el,h6,h0,h7,h8⟩:=h4;refine⟨(cs.toList.drop off).take n,ql.intro (by simp;omega) fun i a e=>?_,fun j v e=>?_⟩
 . rw[qBY,qBM]at e;split at e
   . rename_i hi;obtain⟨v,e1,e2⟩:=h8 (off+i) a e;refine⟨v,?_,e2⟩;rw[qBY,if_pos hi,qBM];simpa using e1
   cases e
 rw[qBY,qBM]at e;split at e
 . simp only[World.cell?,h6];simpa using e
 cases e
def Kj{t B off:Nat}{inf:TypeInfo}{d:TypeDesc}(hi:P.info? t=some inf)(hu:P.underlying t=some d){c:List AV}(hc:qiC K w B off c)(hl:c.length=inf.size)
 {v:AV} (hv:Zt (QG P d).agg c=some v):∃v',(loadVar t ⟨B,off,none⟩).run P w=.ok v' w/\qk K v v':=by
 obtain⟨vs,h1,h2⟩:=hc;have ha:=qcc (w:=w) hu (by intro e;rw[e]at hv;simp[TD.agg,Zt]at hv)
 cases hg:(QG P d).agg with
 |none=>rw[hg]at hv;simp[Zt]at hv
 | some g=>
  rw[hg]at hv ha
  cases g with
  | true=>
   simp[Zt]at hv;subst hv;have hcl:=run_loadCells_list (P:=P) w ⟨B,off,none⟩ vs (fun j v e=>by rw[jx];exact h2 j v e);rw[h1.length,hl]at hcl;refine⟨.agg vs.toArray,?_,by simp only[qk];exact⟨_,rfl,by simpa using h1⟩⟩;simp only[loadVar,Sem.run_bind,ha,Result.andThen_ok];simp[sizeOf,typeInfo,hi,hcl]
  | false=>
   simp only[Zt]at hv
   cases c with
   |nil=>simp at hv
   | cons a r=>
    simp at hv;subst hv;simp only[ql]at h1;obtain⟨v',vr,rfl,h3,_⟩:=h1;have h4:=h2 0 v' (by simp);refine⟨v',?_,h3⟩;simp only[loadVar,Sem.run_bind,ha,Result.andThen_ok];simp at h4;simp[run_load,h4]
def qcG(h:WRel G w0 ro0 K U w){t a v a'}(ha:qk K a a')(hl:kD (Dof P) U t a=some v):
 ∃v',(Instr.loadAt t a').run P w=.ok v' w/\qk K v v':=by
 unfold kD at hl;split at hl
 . rename_i i b off hD;obtain⟨inf,d,z,hi,hu,hz,rfl⟩:=qH hD;split at hl
   . rename_i c hb;obtain⟨c',hc',hv⟩:=qCw.1 hl;obtain⟨h1,rfl,h3⟩:=qa8 hc';simp only[qk]at ha;obtain⟨B,hm,rfl⟩:=ha;obtain⟨v',hr,hv'⟩:=Kj hi hu (qiC.of_blk h hb hm off _ h1) h3 hv;exact⟨v',by simpa[Instr.loadAt,Instr.sureAddr] using hr,hv'⟩
   cases hl
 . rename_i i c hD;obtain⟨inf,d,z,hi,hu,hz,rfl⟩:=qH hD;obtain⟨c',hc',hv⟩:=qCw.1 hl;obtain⟨h1,rfl,h3⟩:=qa8 hc';simp only[qk]at ha;obtain⟨B,off,rfl,hc⟩:=ha;obtain⟨v',hr,hv'⟩:=Kj hi hu (qFR h.ro B _ off (qr.take B _ off _ (by simpa using hc))) (by simpa using h3) hv;exact⟨v',by simpa[Instr.loadAt,Instr.sureAddr] using hr,hv'⟩
 cases hl
def qh1(h:WRel G w0 ro0 K U w){t a v a'}(ha:qk K a a')(hl:kD (Dof P) U t a=some v):
 Ran P G w0 ro0 K w (Instr.loadAt t a') v U:=by
 obtain⟨v',h1,h2⟩:=qcG h ha hl;exact qFJ h h1 h2
def qcb{t:Nat}{inf:TypeInfo}(hi:P.info? t=some inf)(ad:Addr)(v:Value)(hv:v.cells.size=inf.size)(w:World):
 (storeVar t ad v).run P w=(storeCells ad v.cells.toList).run P w:=by
 simp[storeVar,sizeOf,typeInfo,hi,hv]
def Zc(h:WRel G w0 ro0 K U w){t a x a' x'}(ha:qk K a a')(hx:qk K x x'){U'}(hs:Vk (Dof P) U t a x=some U'):
 ∃w',(Instr.storeAt t a' x').run P w=.ok () w'/\WRel G w0 ro0 K U' w':=by
 unfold Vk at hs;split at hs
 . rename_i i b off new hD hc;obtain⟨inf,d,z,hi,hu,hz,rfl⟩:=qH hD;split at hs
   . rename_i c hb;split at hs
     . rename_i hl;simp at hs;subst hs;obtain⟨hl1,hl2⟩:=hl;simp only at hl1 hl2;simp only[qk]at ha;obtain⟨B,hm,rfl⟩:=ha;obtain⟨hc1,hc2⟩:=JQ hx hc;obtain⟨B',h1,h2,h3,h4,h5⟩:=h.blk b _ hb;rw[hm]at h1;cases h1;obtain⟨cs,el,h6,h0,h7,h8⟩:=h4;have hlen:=hc1.length;have hst:=run_storeCells_at P B off el x'.cells.toList 0 cs w h6 (by simp only[qCy];omega) (hc1.oneCells hc2);simp only[qCy]at hst;have hlen':x'.cells.size=new.length:=(by simpa using hlen);refine⟨w.setRow B (cs.toList.take off++x'.cells.toList++cs.toList.drop (off+x'.cells.toList.length)).toArray,?_,h.setBlk (B:=B) (b':=.cells (zA c off new)) (w':=w.setRow B (cs.toList.take off++x'.cells.toList++cs.toList.drop (off+x'.cells.toList.length)).toArray) ((qAU.1 hb).1) hm rfl rfl rfl (by simp[World.setRow]) (fun k hk=>setRow_other w B k _ hk) ?_ (by rw[hb];simp)
        (fun cs2 el2 fr2 e2=>by
          rw[setRow_heap w B cs _ el _ h6]at e2;cases e2;rw[<- h.bsz b B cs el _ hm h6];simp;omega) (fun _ _ _ _=>⟨cs,el,_,h6⟩)⟩
       . have hsz:x'.cells.size=inf.size:=(by have:=hc1.length;simp at this;omega);have hr:=qcb (P:=P) hi ⟨B,off,none⟩ x' hsz w;rw[hst]at hr;simpa only[Instr.storeAt,Instr.sureAddr,Sem.run_bind,pure,Sem.run,Result.andThen_ok] using hr
       refine⟨(cs.toList.take off++x'.cells.toList++cs.toList.drop (off+x'.cells.toList.length)).toArray,el,setRow_heap w B cs _ el _ h6,putAt_all _ _ _ h0 hc2,by simp[Qa];omega,fun i a e=>?_⟩;rw[wS _ _ _ _ (by omega)]at e;simp only[qDk];split at e
       . rename_i hin;obtain⟨v,e1,e2⟩:=hc1.get _ _ e;refine⟨v,?_,e2⟩;rw[qBE,qA4 (by simp;omega),qBa (by simp;simp at hlen;omega)];simp only[qBG,qCs]
         rwa[show min off cs.size=off by omega]
       rename_i hin;obtain⟨v,e1,e2⟩:=h8 i a e;refine⟨v,?_,e2⟩;by_cases hlo:i<off
       . rw[qBE,qBa (by simp;omega),qBY,if_pos hlo];simpa using e1
       have:off+new.length<=i:=by omega
       rw[qA4 (by simp at hlen⊢;omega),qBM];simp;simp at hlen;rw[show off+x'.cells.size+(i-(min off cs.size+x'.cells.size))=i by omega];simpa using e1
     cases hs
   cases hs
 cases hs
end
def qrv:List Value->Nat->List Value->List Value
 |c,_,[]=>c
 |c,off,v::r=>qrv (c.set off v) (off+1) r
def qfI{K}:∀(new) (news) (c) (cs) (off),ql K new news->ql K c cs->ql K (zA c off new) (qrv cs off news)
 |[],_,c,cs,off,h,k=>by simp only[ql]at h;subst h;simpa[zA,qrv] using k
 | a::r,_,c,cs,off,h,k=>by
  simp only[ql]at h;obtain⟨v,vr,rfl,h1,h2⟩:=h;simp only[zA,qrv];refine qfI r vr _ _ _ h2 (ql.intro (by simp[k.length]) fun i b e=>?_);have hl:=k.length;by_cases hi:i=off
  . subst hi;have hlt:i<c.length:=(by have:=(qAU.1 e).1;simpa using this);simp[hlt]at e;subst e;exact⟨v,by simp[hl,hlt],h1⟩
  rw[qAX (Ne.symm hi)]at e;obtain⟨u,e1,e2⟩:=k.get i b e;exact⟨u,by rw[qAX (Ne.symm hi)];exact e1,e2⟩
def qc1(off):∀(l) (k) (cells:Array Value),((l.zipIdx k).foldl (fun cs x=>cs.setIfInBounds (off+x.2) x.1) cells).toList=qrv cells.toList (off+k) l
 |[],k,cells=>by simp[qrv]
 | v::r,k,cells=>by
  simp only[List.zipIdx_cons,qBw,qrv];rw[qc1 off r (k+1)];simp[qC0]
def YI{K place placeC}(hp:∀i p,place i=some p->placeC i=some p):
 ∀ (z6:List (Nat×AV)) (partsC:List (Nat×Value)) (c c':List AV) (cells:Array Value),ql K c cells.toList->partsC.map (·.1)=z6.map (·.1)->ql K (z6.map (·.2)) (partsC.map (·.2)) ->
  zZ place c z6=some c'->∃cells',Instr.fill placeC cells partsC=some cells'/\ql K c' cells'.toList/\(c.all AV.atom=true->c'.all AV.atom=true)
 | [],partsC,c,c',cells,h,h1,h2,hf=>by
  have:partsC=[]:=by simpa using h1
  subst this;simp[zZ]at hf;subst hf;exact⟨cells,rfl,h,id⟩
 |(i,x)::r,[],c,c',cells,h,h1,h2,hf=>by simp at h1
 | (i,x)::r,(j,y)::rc,c,c',cells,h,h1,h2,hf=>by
  simp only[qA7,qC8]at h1;obtain⟨rfl,h1⟩:=h1;simp only[qA7,ql]at h2;obtain⟨v,vr,he,h3,h4⟩:=h2;simp only[qC8]at he;obtain⟨rfl,rfl⟩:=he;simp only[zZ]at hf;split at hf
  . rename_i off n new hpl hc;split at hf
    . rename_i hl;obtain⟨hl1,hl2⟩:=hl;obtain⟨hc1,hc2⟩:=JQ h3 hc;have e1:=hc1.length;have e2:=h.length;simp only[qCs]at e1 e2;have hfold:=qc1 off y.cells.toList 0 cells;have hput:=qfI new y.cells.toList c cells.toList off hc1 h;obtain⟨cells',g1,g2,g3⟩:=YI hp r rc _ c' (y.cells.zipIdx.foldl (fun cs (c,j)=>cs.setIfInBounds (off+j) c) cells) (by
       rw[<- Array.foldl_toList,Array.toList_zipIdx];rw[hfold];simpa using hput) h1 h4 hf
      refine⟨cells',?_,g2,fun hh=>g3 (putAt_all _ _ _ hh hc2)⟩;simp only[Instr.fill,hp _ _ hpl];rw[if_neg (by simp only[ne_eq,qC7,decide_eq_true_eq];omega)];exact g1
    cases hf
  cases hf
section
variable {P:Program}{G:Nat->AV}{w0:World}{ro0:Nat->Nat->Option Value}{K:Kn}{U:St}{w w':World}
def qe4(h:WRel G w0 ro0 K U w){e i}(hD:Dof P e=some i)(hz:i.zero.all AV.atom=true):
 Ran P G w0 ro0 K w (Instr.alloc e true (.tuple #[])) (.ptr U.H.length 0) (U.push (.cells i.zero)):=by
 obtain⟨inf,d,z,hi,hu,hzero,rfl⟩:=qH hD;refine⟨.pointer (some ⟨w.heap.size,0,none⟩),w.alloc (.cells z.cells e),K.addM U.H.length w.heap.size (j9 _),?_,qFC h _ _,h.push ?_,?_⟩
 . simp[Instr.alloc,zeroValue,typeInfo,hi,hzero,newVar,newRow]
 . refine⟨z.cells,e,rfl,hz,by simp,fun j a e1=>?_⟩;have:=(qFQ K z.cells.toList).get j a e1;simpa using this
 exact⟨w.heap.size,by simp[Kn.addM],rfl⟩
def qlJ(h:WRel G w0 ro0 K U w){e:Nat}{x:AV}{x':Value}(hx:qk K x x'){c:List AV}(hc:qZ x=some c):
 Ran P G w0 ro0 K w (Instr.box e x') (.ptr U.H.length 0) (U.push (.cells c)):=by
 obtain⟨h1,h2⟩:=JQ hx hc;refine⟨.pointer (some ⟨w.heap.size,0,none⟩),w.alloc (.cells x'.cells e),K.addM U.H.length w.heap.size (j9 _),?_,qFC h _ _,h.push ?_,?_⟩
 . simp[Instr.box,newVar,newRow]
 . refine⟨x'.cells,e,rfl,h2,by have:=h1.length;simp at this;omega,fun j a e1=>?_⟩;have:=h1.get j a e1;simpa using this
 exact⟨w.heap.size,by simp[Kn.addM],rfl⟩
def qjY(fs:List Field)(h:∀f∈fs,P.cellsOf f.type≠0):
 fs.mapM (fun f=>(P.info? f.type).map fun i=>(f.offset,i.size))=some (fs.map fun f=>(f.offset,P.cellsOf f.type)):=by
 induction fs with
 |nil=>rfl
 | cons f r ih=>
  have h1:=h f (by simp);simp only[Program.cellsOf]at h1
  cases hi:P.info? f.type with
  |none=>simp[hi]at h1
  | some i=>
   simp[qE4,hi,ih (fun g hg=>h g (by simp[hg])),Program.cellsOf]
def qeX(h:WRel G w0 ro0 K U w){t z6 partsC}(hp1:partsC.toList.map (·.1)=z6.map (·.1))(hp2:ql K (z6.map (·.2)) (partsC.toList.map (·.2)))
 {v} (hb:zu (Dof P) t z6=some v):Ran P G w0 ro0 K w (Instr.build t partsC) v U:=by
 unfold zu at hb;split at hb
 . rename_i i hD;obtain⟨inf,d,z,hi,hu,hzero,rfl⟩:=qH hD;simp only at hb;split at hb
   . rename_i fs hd;obtain⟨fields,rfl,rfl,hnz,_⟩:=qmN hd;obtain⟨c',hc',rfl⟩:=qA2.1 hb;have hpl:=qjY (P:=P) fields.toList hnz;obtain⟨cells',g1,g2,_⟩:=YI (K:=K) (place:=qP (Dof P) (fields.toList.map fun f=>(f.offset,f.type))) (placeC:=((fields.toList.map fun f=>(f.offset,P.cellsOf f.type)).toArray[·]?)) (fun i p e=>by
      simp only[qP,qBp]at e
      cases hf:fields.toList[i]? with
      |none=>simp[hf]at e
      | some f=>
       simp only[hf,qDQ]at e;obtain⟨j,hj,rfl⟩:=qA2.1 e;obtain⟨inf',d',z',hi',_,_,rfl⟩:=qH hj;simp[show fields[i]?=some f by simpa using hf,Program.cellsOf,hi']) z6 partsC.toList _ c' z.cells (qFQ K _) hp1 hp2 hc'
     refine qFJ h (run_build w t partsC cells' ?_) (by simp only[qk];exact⟨cells',rfl,g2⟩);simp only[Program.built,hi,hu,hzero,hpl];exact g1
   . rename_i n e hd;have hd':=qbS hd;subst hd';split at hb
     . rename_i j hj;obtain⟨inf',d',z',hi',_,_,rfl⟩:=qH hj;obtain⟨c',hc',rfl⟩:=qA2.1 hb;obtain⟨cells',g1,g2,_⟩:=YI (K:=K) (place:=fun i=>some (i*inf'.size,inf'.size)) (placeC:=fun i=>some (i*inf'.size,inf'.size)) (fun i p e=>e) z6 partsC.toList _ c' z.cells (qFQ K _) hp1 hp2 hc';refine qFJ h (run_build w t partsC cells' ?_) (by simp only[qk];exact⟨cells',rfl,g2⟩);simp only[Program.built,hi,hu,hzero,hi'];exact g1
     cases hb
   cases hb
 cases hb
def Wc(sz new)(hn:new.length=sz):∀(rows:List (List AV)) (i),(∀r∈rows,r.length=sz)->i<rows.length->zA rows.flatten (i*sz) new=(rows.set i new).flatten
 |[],i,_,hi=>by simp at hi
 | r::rs,0,h,_=>by
  have hr:=h r (by simp);apply qB2;intro j;rw[wS _ _ _ _ (by simp[hr,hn])];simp only[qDU,qBI,qBO,qCK,qCC,qCO,true_and,qEd];by_cases hj:j<new.length
  . simp[hj]
  rw[if_neg hj,if_neg (by omega),if_neg hj,hr,hn]
 | r::rs,i+1,h,hi=>by
  have hr:=h r (by simp);have ih:=Wc sz new hn rs i (fun x hx=>h x (by simp[hx])) (by simpa using hi);have hlen:∀l:List (List AV),(∀r∈l,r.length=sz)->l.flatten.length=l.length*sz:=by
   intro l
   induction l with
   |nil=>intro _;simp
   |cons a l ih=>intro h';simp only[qBI,qAY,qBc,h' a (by simp),ih (fun x hx=>h' x (by simp[hx]))];rw[qBW];omega
  have hfit:(i+1)*sz<=rs.length*sz:=qBU _ (by have:=hi;simp at this;omega);have hl2:=hlen rs (fun x hx=>h x (by simp[hx]));have hmul:(i+1)*sz=i*sz+sz:=by rw[qBW];omega
  simp only[qDB,qBI];rw[<- ih];apply qB2;intro j;rw[wS _ _ _ _ (by simp only[qAY,hl2,hr,hn];omega)];simp only[qBO,hr];by_cases hj:j<sz
  . rw[if_neg (by omega),if_pos hj,if_pos hj]
  rw[if_neg hj,if_neg hj,wS _ _ _ _ (by rw[hl2,hn];omega)];by_cases hk:(i+1)*sz<=j/\j<(i+1)*sz+new.length
  . rw[if_pos hk,if_pos (by omega)];congr 1;omega
  rw[if_neg hk,if_neg (by omega)]
def ZJ(sz):∀(z6:List (Nat×AV)) (rows rows':List (List AV)),(∀r∈rows,r.length=sz)->qp sz rows z6=some rows' ->
 zZ (fun i=>some (i*sz,sz)) rows.flatten z6=some rows'.flatten/\rows'.length=rows.length/\(∀r∈rows',r.length=sz)
 |[],rows,rows',h,hf=>by simp[qp]at hf;subst hf;exact⟨rfl,rfl,h⟩
 | (i,x)::r,rows,rows',h,hf=>by
  simp only[qp]at hf;split at hf
  . rename_i new hc;split at hf
    . rename_i hl;have hset:∀r∈rows.set i new,r.length=sz:=fun y hy=>by
       rcases qCF hy with h1|h1
       . exact h y h1
       rw[h1];exact hl.1
      obtain⟨g1,g2,g3⟩:=ZJ sz r _ rows' hset hf;refine⟨?_,by simpa using g2,g3⟩;have hlen:rows.flatten.length=rows.length*sz:=by
       clear hf g1 g2 g3 hset hl
       induction rows with
       |nil=>simp
       |cons a l ih=>simp only[qBI,qAY,qBc,h a (by simp),ih (fun x hx=>h x (by simp[hx]))];rw[qBW];omega
      have hfit:(i+1)*sz<=rows.length*sz:=qBU _ hl.2;have hmul:(i+1)*sz=i*sz+sz:=(by rw[qBW];omega);simp only[zZ,hc];rw[if_pos ⟨hl.1,by rw[hlen];omega⟩,Wc sz new hl.1 rows i h hl.2];exact g1
    cases hf
  cases hf
def jV(z:List AV):∀(n i),i<n*z.length->(List.replicate n z).flatten[i]?=z[i%z.length]?
 |0,i,h=>by simp at h
 | n+1,i,h=>by
  simp only[qCV,qBI,qBO];split
  . rename_i h1;rw[qDe h1]
  rename_i h1;have h2:z.length<=i:=by omega
  rw[jV z n (i-z.length) (by rw[qBW]at h;omega),Nat.mod_eq_sub_mod h2]
def YS{z:Value}{n}(hz:0<z.cells.size):ql K ((List.replicate n (z.cells.toList.map ofAtom)).flatten) ((Array.range (n*z.cells.size)).map (z.cells[· % z.cells.size]!)).toList:=by
 have hl:(z.cells.toList.map ofAtom).length=z.cells.size:=by simp
 refine ql.intro (by simp) fun i a e=>?_
 have hlt:i<n*z.cells.size:=by
  have:=(qAU.1 e).1;simpa using this
 rw[jV _ n i (by rwa[hl]),hl]at e;obtain⟨v,e1,e2⟩:=(qFQ K z.cells.toList).get _ _ e;refine⟨v,?_,e2⟩;simp;have hm:i%z.cells.size<z.cells.size:=qDo _ hz;simp[hm]at e1;simp[*]
def v8{K' B sz}:∀(rows) (off),(∀r∈rows,r.length=sz)->rows.flatten.all AV.atom=true->qr K' B off rows.flatten->qT K' B off sz rows
 |[],off,_,_,_=>by simp[qT]
 | r::rs,off,h,ha,hc=>by
  have hr:=h r (by simp);simp only[qBI,qCx,qA1]at ha hc;simp only[qT];refine⟨⟨hr,ha.1,?_⟩,v8 rs _ (fun x hx=>h x (by simp[hx])) ha.2 ?_⟩
  . have:=qr.take B _ off r.length hc;simpa using this
  have:=qr.drop B _ off r.length hc;rw[hr]at this;simpa[hr.symm] using this
def Yq(h:WRel G w0 ro0 K U w){t n z6 partsC}(hp1:partsC.toList.map (·.1)=z6.map (·.1))(hp2:ql K (z6.map (·.2)) (partsC.toList.map (·.2)))
 {v} (hb:qi (Dof P) t n z6=some v):Ran P G w0 ro0 K w (Instr.buildSlice t n partsC) v U:=by
 unfold qi at hb;split at hb
 . rename_i i hD;obtain⟨inf,d,z,hi,hu,hzero,rfl⟩:=qH hD;simp only at hb;split at hb
   . rename_i e hd;have hd':=QZ hd;subst hd';split at hb
     . rename_i j hj;obtain⟨inf',d',z',hi',_,hz',rfl⟩:=qH hj;simp only at hb;split at hb
       . rename_i hc;obtain⟨hc1,hc2,hc3,hc4⟩:=hc;obtain⟨rows,hrows,rfl⟩:=qA2.1 hb;have hzl:z'.cells.size=inf'.size:=(by simpa using hc1);have huni:∀r∈List.replicate n (z'.cells.toList.map ofAtom),r.length=inf'.size:=fun r hr=>by rw[(qCL.1 hr).2];exact hc1
         obtain⟨f1,f2,f3⟩:=ZJ inf'.size z6 _ rows huni hrows;have hz0:=YS (K:=K) (z:=z') (n:=n) (by omega);rw[hzl]at hz0;obtain⟨cells',g1,g2,g3⟩:=YI (K:=K) (place:=fun i=>some (i*inf'.size,inf'.size)) (placeC:=fun i=>some (i*inf'.size,inf'.size)) (fun i p e=>e) z6 partsC.toList _ _ ((Array.range (n*inf'.size)).map (z'.cells[· % inf'.size]!)) hz0 hp1 hp2 f1;have hat:=g3 (by
          rw[qA3];intro x hx;obtain⟨l,hl1,hl2⟩:=qBv.1 hx;rw[(qCL.1 hl1).2]at hl2;rw[qA3]at hc2;exact hc2 x hl2)
         by_cases hn:n=0
         . subst hn;have hrn:=qA6 (by simpa using f2);subst hrn;obtain⟨k1,k2⟩:=h.newRo [] cells' e (by simp);have hpn:partsC.toList=[]:=by
            cases z6 with
            |nil=>simpa using hp1
            | cons p r=>
             simp only[qp]at hrows;split at hrows
             . split at hrows
               . rename_i hx;simp at hx
               . cases hrows
             cases hrows
           have hce:cells' = #[]:=by
            have hl:=g2.length;simp at hl;exact hl
           subst hce;refine⟨.slice (some ⟨w.heap.size,0,none⟩) 0 0,_,_,?_,k2,k1,?_⟩
           . have hpe:partsC = #[]:=(by simpa using hpn);subst hpe;simp[Instr.buildSlice,run_underlying hu,sizeOf,typeInfo,hi',Instr.fill,newRow];rw[show Array.range 0 = #[] from by apply Array.ext';simp];simp
           simp only[qk];exact .inr ⟨w.heap.size,0,0,by simp,by simp,by simp[qT],by simp[wn]⟩
         have hpos:¬n*inf'.size=0:=by
          intro e0;rcases Nat.mul_eq_zero.1 e0 with e0|e0<;>omega
         obtain⟨k1,k2⟩:=h.newRo cells'.toList cells' e (fun j v e=>by simpa using e);refine⟨_,_,_,run_buildSlice w t e n partsC cells' inf' z' hu hi' hz' (by omega) hpos (by rwa[hzl]),k2,k1,?_⟩;simp only[qk];have hrl:rows.length=n:=(by simpa using f2);refine .inr ⟨w.heap.size,0,n,by rw[hrl],by omega,v8 rows 0 f3 hat (qr.addRo g2 k2),?_⟩;simp[wn,hrl]
       cases hb
     cases hb
   cases hb
 cases hb
end
def yY(a:List UInt8):(⟨a.toArray⟩:ByteArray).toList=a:=by rw[ByteArray.toList_eq]
def ZB(a:List UInt8):(⟨a.toArray⟩:ByteArray).size=a.length:=by simp[ByteArray.size]
def qhq(a b:List UInt8):(⟨a.toArray⟩:ByteArray)++⟨b.toArray⟩=⟨(a++b).toArray⟩:=by
 apply ByteArray.ext;simp
def qd5(a:List UInt8)(l h):(⟨a.toArray⟩:ByteArray).extract l h=⟨((a.take h).drop l).toArray⟩:=by
 apply ByteArray.ext;rw[ByteArray.data_extract];simp[qEF,qE5]
section
variable {P:Program}{G:Nat->AV}{w0:World}{ro0:Nat->Nat->Option Value}{K:Kn}{U:St}{w w':World}
def qdo{t:Nat}(h:P.cellsOf t≠0):∃inf,P.info? t=some inf/\inf.size≠0:=by
 simp only[Program.cellsOf]at h
 cases hi:P.info? t with
 |none=>simp[hi]at h
 |some inf=>exact⟨inf,rfl,by simpa[hi] using h⟩
def Wj(h:WRel G w0 ro0 K U w){s f x v x'}(hx:qk K x x')(hf:QR (Dof P) s x f=some v):
 ∃v',(Instr.fieldAt s x' f).run P w=.ok v' w/\qk K v v':=by
 unfold QR at hf;split at hf
 . rename_i i hD;obtain⟨inf,d,z,hi,hu,hzero,rfl⟩:=qH hD;simp only at hf;split at hf
   . rename_i fs hd;obtain⟨fields,rfl,rfl,hnz,_⟩:=qmN hd;split at hf
     . rename_i off ty hfo;simp only[qBp,qA2]at hfo;obtain⟨fl,hfl,he⟩:=hfo;simp only[qBh]at he;obtain⟨rfl,rfl⟩:=he;obtain⟨inf2,hi2,hsz2⟩:=qdo (hnz fl (qAV hfl));have hrun:∀ad:Addr,(Instr.fieldAt s (.pointer (some ad)) f).run P w=.ok (.pointer (some (ad.add fl.offset))) w:=by
        intro ad;simp[Instr.fieldAt,run_underlying hu,show fields[f]?=some fl by simpa using hfl,Instr.sureAddr,fieldPlace,sizeOf,typeInfo,hi2,hsz2]
       split at hf
       . simp at hf;subst hf;simp only[qk]at hx;obtain⟨B,hm,rfl⟩:=hx;exact⟨_,hrun _,by rw[jx];exact⟨B,hm,rfl⟩⟩
       . simp at hf;subst hf;simp only[qk]at hx;obtain⟨B,o,rfl,hc⟩:=hx;exact⟨_,hrun _,by rw[jx];simp only[qk];exact⟨B,_,rfl,qr.drop B _ _ _ hc⟩⟩
       cases hf
     cases hf
   cases hf
 cases hf
def ql.sub{c vs}(h:ql K c vs)(off n):ql K ((c.drop off).take n) ((vs.drop off).take n):=by
 refine ql.intro (by simp[h.length]) fun i a e=>?_
 rw[qBY,qBM]at e;split at e
 . rename_i hi;obtain⟨v,e1,e2⟩:=h.get _ _ e;exact⟨v,by rw[qBY,if_pos hi,qBM];exact e1,e2⟩
 cases e
def VA{t:Nat}{inf:TypeInfo}{d:TypeDesc}(hi:P.info? t=some inf)(hu:P.underlying t=some d){c c':List AV}{vs:Array Value}(hc:ql K c vs.toList){off:Nat}
 (h1:cut c off (if(QG P d).agg=some true then inf.size else 1)=some c') {v:AV} (h2:Zt (QG P d).agg c'=some v):∃v',(part t vs off).run P w=.ok v' w/\qk K v v':=by
 obtain⟨g1,g2,g3⟩:=qa8 h1;have ha:=qcc (w:=w) hu (by intro e;rw[e]at h2;simp[TD.agg,Zt]at h2)
 cases hg:(QG P d).agg with
 |none=>rw[hg]at h2;simp[Zt]at h2
 | some g=>
  rw[hg]at h2 ha
  cases g with
  | true=>
   simp[Zt]at h2;subst h2;rw[hg]at g2;simp at g2;refine⟨.agg (vs.extract off (off+inf.size)),?_,?_⟩
   . simp only[part,Sem.run_bind,ha,Result.andThen_ok];simp[sizeOf,typeInfo,hi]
   simp only[qk];refine⟨_,rfl,?_⟩;rw[g2];have:=hc.sub off inf.size;simpa[qEF] using this
  | false=>
   simp only[Zt]at h2;rw[hg]at g2 g1;simp at g2 g1;have hget:c[off]?=some v:=by
    rw[g2,List.head?_take]at h2;simp[List.head?_drop]at h2;exact h2
   obtain⟨v',e1,e2⟩:=hc.get off v hget;refine⟨v',?_,e2⟩;simp only[part,Sem.run_bind,ha,Result.andThen_ok];have:vs[off]?=some v':=by simpa using e1
   simp[this]
def qeJ{s f x v x'}(hx:qk K x x')(hf:qgB (Dof P) s x f=some v):
 ∃v',(Instr.field s x' f).run P w=.ok v' w/\qk K v v':=by
 unfold qgB at hf;split at hf
 . rename_i i c hD;obtain⟨inf,d,z,hi,hu,hzero,rfl⟩:=qH hD;simp only at hf;split at hf
   . rename_i fs hd;obtain⟨fields,rfl,rfl,hnz,_⟩:=qmN hd;split at hf
     . rename_i off ty hfo;simp only[qBp,qA2]at hfo;obtain⟨fl,hfl,he⟩:=hfo;simp only[qBh]at he;obtain⟨rfl,rfl⟩:=he;split at hf
       . rename_i j hj;obtain⟨inf2,d2,z2,hi2,hu2,_,rfl⟩:=qH hj;obtain⟨c',hc',hv⟩:=qCw.1 hf;simp only[qk]at hx;obtain⟨vs,rfl,hvs⟩:=hx;obtain⟨v',e1,e2⟩:=VA (w:=w) hi2 hu2 hvs hc' hv;refine⟨v',?_,e2⟩;simp[Instr.field,run_underlying hu,show fields[f]?=some fl by simpa using hfl,asAgg,e1]
       cases hf
     cases hf
   cases hf
 cases hf
def yC{i n}(h:w7 i=some n){i'}(hi:qk K i i'):∃k,i'=.int k n:=by
 cases i<;>simp[w7]at h;subst h;exact⟨_,by simpa only[qk] using hi⟩
def K7(h:WRel G w0 ro0 K U w){t x i v x' i'}(hx:qk K x x')(hi':qk K i i')(hf:zH (Dof P) t x i=some v):
 ∃v',(Instr.indexAt t x' i').run P w=.ok v' w/\qk K v v':=by
 unfold zH at hf;split at hf
 . rename_i ti n hD hn;obtain⟨inf,d,z,hi,hu,hzero,rfl⟩:=qH hD;obtain⟨k,rfl⟩:=yC hn hi';simp only at hf;split at hf
   . rename_i e hd;have hd':=QZ hd;subst hd';split at hf
     . rename_i j hj;obtain⟨inf2,d2,z2,hi2,hu2,_,rfl⟩:=qH hj;split at hf
       . rename_i sz rows tok;split at hf
         . rename_i hc;obtain⟨h0,hsz⟩:=hc;simp only at hsz;obtain⟨r,hr,rfl⟩:=qA2.1 hf;have hlt:=(qAU.1 hr).1;simp only[qk]at hx;rcases hx with⟨_,rfl,_⟩|⟨B,off,cap,rfl,hcap,hrows,_⟩
           . simp at hlt
           have hsz':sz=inf2.size:=by
            rcases hsz with hsz|rfl
            . exact hsz
            simp at hlt
           subst hsz';obtain⟨_,_,hca⟩:=qT.get B _ rows off hrows _ _ hr;refine⟨.pointer (some ⟨B,off+n.toNat*inf2.size,none⟩),?_,by simp only[qk];exact⟨B,_,rfl,hca⟩⟩;simp[Instr.indexAt,asIntOf,run_underlying hu,h0,show n<(rows.length:Int) by omega,sizeOf,typeInfo,hi2,jx]
         cases hf
       . rename_i b off len sz;split at hf
         . rename_i hc;obtain⟨h0,hlt,hsz⟩:=hc;simp only at hsz;subst hsz;simp at hf;subst hf;simp only[qk]at hx;obtain⟨B,cap,hm,rfl,_⟩:=hx;refine⟨.pointer (some ⟨B,off+n.toNat*inf2.size,none⟩),?_,by simp only[qk];exact⟨B,hm,rfl⟩⟩;simp[Instr.indexAt,asIntOf,run_underlying hu,h0,hlt,sizeOf,typeInfo,hi2,jx]
         cases hf
       cases hf
     cases hf
   . rename_i m e hd;have hd':=qbS hd;subst hd';split at hf
     . rename_i j hj;obtain⟨inf2,d2,z2,hi2,hu2,_,rfl⟩:=qH hj;split at hf
       . rename_i hc;obtain⟨h0,hlt⟩:=hc;have hrun:∀ad:Addr,(Instr.indexAt t (.pointer (some ad)) (.int k n)).run P w=.ok (.pointer (some (ad.add (n.toNat*inf2.size)))) w:=by
          intro ad;simp[Instr.indexAt,asIntOf,run_underlying hu,h0,hlt,sizeOf,typeInfo,hi2,Instr.sureAddr]
         split at hf
         . simp at hf;subst hf;simp only[qk]at hx;obtain⟨B,hm,rfl⟩:=hx;exact⟨_,hrun _,by rw[jx];exact⟨B,hm,rfl⟩⟩
         . simp at hf;subst hf;simp only[qk]at hx;obtain⟨B,o,rfl,hc⟩:=hx;exact⟨_,hrun _,by rw[jx];simp only[qk];exact⟨B,_,rfl,qr.drop B _ _ _ hc⟩⟩
         cases hf
       cases hf
     cases hf
   cases hf
 cases hf
def qez{t x i v x' i'}(hx:qk K x x')(hi':qk K i i')(hf:qgm (Dof P) t x i=some v):
 ∃v',(Instr.index t x' i').run P w=.ok v' w/\qk K v v':=by
 unfold qgm at hf;split at hf
 . rename_i ti n hD hn;obtain⟨inf,d,z,hi,hu,hzero,rfl⟩:=qH hD;obtain⟨k,rfl⟩:=yC hn hi';simp only at hf;split at hf
   . rename_i s hd;have hd':=vY hd;subst hd';split at hf
     . rename_i h0;obtain⟨b,hb,rfl⟩:=qA2.1 hf;simp only[qk]at hx;subst hx;refine⟨.int .u8 b.toNat,?_,by simp[qk]⟩;have:(⟨s.toArray⟩:ByteArray)[n.toNat]?=some b:=by
        have hlt:=(qAU.1 hb);obtain⟨h1,h2⟩:=hlt;rw[getElem?_pos _ _ (by rwa[ZB])];congr 1
       simp[Instr.index,asIntOf,run_underlying hu,h0,this]
     cases hf
   . rename_i m e c hd;have hd':=qbS hd;subst hd';split at hf
     . rename_i j hj;obtain⟨inf2,d2,z2,hi2,hu2,_,rfl⟩:=qH hj;split at hf
       . rename_i hc;obtain⟨h0,hlt⟩:=hc;obtain⟨c',hc',hv⟩:=qCw.1 hf;simp only[qk]at hx;obtain⟨vs,rfl,hvs⟩:=hx;obtain⟨v',e1,e2⟩:=VA (w:=w) hi2 hu2 hvs hc' hv;refine⟨v',?_,e2⟩;simp[Instr.index,asIntOf,run_underlying hu,h0,hlt,sizeOf,typeInfo,hi2,e1]
       cases hf
     cases hf
   cases hf
 cases hf
def qaX{x v x'}(hx:qk K x x'){i}(hf:YJ x i=some v):∃v',(Instr.extract x' i).run P w=.ok v' w/\qk K v v':=by
 cases x<;>simp[YJ]at hf;simp only[qk]at hx;obtain⟨vs,rfl,hvs⟩:=hx;obtain⟨v',e1,e2⟩:=hvs.get i v hf;have:vs[i]?=some v':=by simpa using e1
 exact⟨v',by simp[Instr.extract,this],e2⟩
def qmK{op x v x'}(hx:qk K x x')(hf:unA op x=some v):∃v',(Op.unary op x').run P w=.ok v' w/\qk K v v':=by
 unfold unA at hf;split at hf
 . simp only[qk]at hx;subst hx;simp at hf;subst hf;exact⟨_,by simp only[Op.unary,pure,Sem.run];rfl,by simp[qk]⟩
 . simp only[qk]at hx;subst hx;cases hf;exact⟨_,by simp only[Op.unary,Op.intArith,pure,Sem.run];rfl,by simp[qk]⟩
 . simp only[qk]at hx;subst hx;simp at hf;subst hf;exact⟨_,by simp[Op.unary,Op.intBits];rfl,by simp[qk]⟩
 cases hf
def qey{op:BinOp}{k:IntKind}{a b:Int}{v:AV}(hf:zz op k a b=some v)(t:Nat)(hs:op≠.shl/\op≠.shr):
 ∃v',(binOp op t (.int k a) (.int k b)).run P w=.ok v' w/\qk K v v':=by
 obtain⟨hs1,hs2⟩:=hs;cases op<;>simp only[zz]at hf<;>first
  |exact absurd rfl hs1
  |exact absurd rfl hs2
  |skip
 all_goals first
  | (split at hf
     . cases hf
     . rename_i hb;simp at hf;subst hf;exact⟨_,by simp[binOp,Op.intDiv,hb];rfl,by simp[qk]⟩)
  |(simp at hf;subst hf;exact⟨_,by simp[binOp,Op.intArith,Op.intBits,Op.intCmp];rfl,by simp[qk]⟩)
  |(cases hf)
end
section
variable {P:Program}{G:Nat->AV}{w0:World}{ro0:Nat->Nat->Option Value}{K:Kn}{U:St}{w w':World}
def vt{t}(h:kv (Dof P) t=true):∃inf,P.info? t=some inf/\(P.underlying t=some .bool\/P.underlying t=some .string\/∃k,P.underlying t=some (.int k)):=by
 unfold kv at h;split at h
 . rename_i i hD;obtain⟨inf,d,z,hi,hu,_,rfl⟩:=qH hD;refine⟨inf,hi,?_⟩;simp only at h;split at h
   . rename_i k hd;exact .inr (.inr ⟨k,by rw[hu,JW hd]⟩)
   . rename_i hd;exact .inl (by rw[hu,qal hd])
   . rename_i hd;exact .inr (.inl (by rw[hu,vY hd]))
   cases h
 cases h
def J8 (d xs ys) : ∀ (fs : List Field) (k : Nat) (as bs : List AV) (p : Bool), (∀ f ∈ fs, kv (Dof P) f.type = true ∧ f.name ≠ "_") →
 fs.map (·.offset)=List.range' k fs.length->as.length=fs.length->ql K as (xs.toList.drop k)->ql K bs (ys.toList.drop k)->jj as bs=some p ->
 (∀(j:Nat) (f:Field) (a:AV),fs[j]?=some f->as[j]?=some a->(match P.underlying f.type,a with|some .bool,.bool _=>True|some .string,.str _=>True|some (.int _),.int .. =>True|_,_=>False)) ->
 (Op.eqFields (d+1) xs ys fs).run P w=.ok p w
 | [],k,as,bs,p,_,_,hl,h1,h2,he,_=>by
  have:as=[]:=qA6 (by simpa using hl);subst this
  cases bs with
  |nil=>simp[jj]at he;subst he;simp[Op.eqFields]
  |cons=>simp[jj]at he
 | f::fs,k,as,bs,p,hf,ho,hl,h1,h2,he,ht=>by
  cases as with
  |nil=>simp at hl
  | cons a as=>
   cases bs with
   |nil=>simp[jj]at he
   | cons b bs=>
    simp only[qA7,qBc,qC3,qC8]at ho;obtain⟨ho1,ho2⟩:=ho;simp only[ql]at h1 h2;obtain⟨va,ra,e1,g1,g2⟩:=h1;obtain⟨vb,rb,e2,g3,g4⟩:=h2;simp only[jj]at he;split at he
    . rename_i p1 q1 hp1 hq1;simp only[qBg]at he;subst he;obtain⟨hpl,hnm⟩:=hf f (by simp);have htk:=ht 0 f a (by simp) (by simp);have hxa:xs[f.offset]?=some va:=by
       have:(xs.toList.drop k)[0]?=some va:=by rw[e1];rfl
       rw[ho1];simpa using this
      have hyb:ys[f.offset]?=some vb:=by
       have:(ys.toList.drop k)[0]?=some vb:=by rw[e2];rfl
       rw[ho1];simpa using this
      have hdx:ra=xs.toList.drop (k+1):=by
       have:=congrArg List.tail e1;simpa using this.symm
      have hdy:rb=ys.toList.drop (k+1):=by
       have:=congrArg List.tail e2;simpa using this.symm
      have ih:=J8 d xs ys fs (k+1) as bs q1 (fun x hx=>hf x (by simp[hx])) ho2 (by simpa using hl) (hdx▸g2) (hdy▸g4) hq1
       (fun j f' a' h1 h2=>ht (j+1) f' a' (by simpa using h1) (by simpa using h2))
      obtain⟨inf,hi,hu⟩:=vt hpl;have hagg:(isAgg f.type).run P w=.ok false w:=by
       rcases hu with hu|hu|⟨k,hu⟩<;>simp[isAgg,run_underlying hu]
      have heq:(Op.equalIn (d+1) f.type va vb).run P w=.ok p1 w:=by
       rcases hu with hu|hu|⟨k',hu⟩
       . rw[hu]at htk;cases a<;>simp at htk;cases b<;>simp[kV]at hp1;subst hp1;simp only[qk]at g1 g3;subst g1;subst g3;simp[Op.equalIn,run_underlying hu]
       . rw[hu]at htk;cases a<;>simp at htk;cases b<;>simp[kV]at hp1;subst hp1;simp only[qk]at g1 g3;subst g1;subst g3;rw[run_equalIn_string w d f.type _ _ hu,yY,yY]
       rw[hu]at htk;cases a<;>simp at htk;cases b<;>simp only[kV]at hp1<;>try(cases hp1;done)
       split at hp1
       . rename_i hk;simp at hp1;subst hp1;subst hk;simp only[qk]at g1 g3;subst g1;subst g3;exact run_equalIn_int w d f.type _ k' _ _ hu
       cases hp1
      simp only[Op.eqFields,if_pos hnm];simp[part,hagg,hxa,hyb,heq];cases p1
      . simp
      simpa using ih
    cases he
def qaU:TD->AV->Prop
 |.bool,.bool _=>True
 |.str,.str _=>True
 |.int _,.int .. =>True
 |_,_=>False
def wE:∀(tds) (as:List AV),z9 tds as=true->as.length=tds.length /\
 ∀(j:Nat) (td:TD) (a:AV),tds[j]?=some td->as[j]?=some a->qaU td a
 |[],[],_=>⟨rfl,by simp⟩
 |[],a::r,h=>by simp[z9]at h
 |td::r,[],h=>by cases td<;>simp[z9]at h
 | td::r,a::s,h=>by
  have:z9 r s=true/\qaU td a:=by
   cases td<;>cases a<;>simp[z9]at h<;>exact⟨h,trivial⟩
  obtain⟨h1,h2⟩:=this;obtain⟨i1,i2⟩:=wE r s h1;refine⟨by simp[i1],fun j td' a' e1 e2=>?_⟩
  cases j with
  |zero=>simp at e1 e2;rw[<- e1,<- e2];exact h2
  |succ j=>exact i2 j td' a' (by simpa using e1) (by simpa using e2)
def JA{t tds}(h:Wg (Dof P) t=some tds):
 ∃ fields : Array Field, P.underlying t = some (.struct fields) ∧ P.stoodInHeld t = false ∧ tds = fields.toList.map (fun f => qV (Dof P) f.type) ∧ (∀ f ∈ fields.toList, kv (Dof P) f.type = true ∧ f.name ≠ "_") ∧
  fields.toList.map (·.offset)=List.range fields.size:=by
 unfold Wg at h;split at h
 . rename_i i hD;obtain⟨inf,d,z,hi,hu,_,rfl⟩:=qH hD;simp only at h;split at h
   . rename_i fs hd;obtain⟨fields,rfl,rfl,_,hnm⟩:=qmN hd;split at h
     . rename_i hc;simp at h;simp only[qA1,qCn,beq_iff_eq,qCo,qBA,qCs,qDT,qA3]at hc;obtain⟨⟨h1,h2⟩,h3⟩:=hc;refine⟨fields,hu,h1,by rw[<- h];simp,fun f hf=>⟨h2 f hf,hnm f hf⟩,?_⟩;rw[<- h3];rfl
     cases h
   cases h
 cases h
def wZ{t}(h:kv (Dof P) t=true)(d):P.eqGuardType (d+1) t=false:=by
 obtain⟨inf,hi,hu⟩:=vt h;rcases hu with hu|hu|⟨k,hu⟩<;>simp[Program.eqGuardType,hu]
def Wo(d){e}(he:kv (Dof P) e=true)(xs ys):∀(n k) (as bs) (p),as.length=n ->
 ql K as (xs.toList.drop k)->ql K bs (ys.toList.drop k)->jj as bs=some p ->
 (∀a∈as,(match P.underlying e,a with|some .bool,.bool _=>True|some .string,.str _=>True|some (.int _),.int .. =>True|_,_=>False)) ->
 (Op.eqItems (d+1) e 1 xs ys (List.range' k n)).run P w=.ok p w
 | 0,k,as,bs,p,hl,h1,h2,hq,_=>by
  have:as=[]:=qA6 hl;subst this
  cases bs with
  |nil=>simp[jj]at hq;subst hq;simp[Op.eqItems]
  |cons=>simp[jj]at hq
 | n+1,k,as,bs,p,hl,h1,h2,hq,ht=>by
  cases as with
  |nil=>simp at hl
  | cons a as=>
   cases bs with
   |nil=>simp[jj]at hq
   | cons b bs=>
    simp only[ql]at h1 h2;obtain⟨va,ra,e1,g1,g2⟩:=h1;obtain⟨vb,rb,e2,g3,g4⟩:=h2;simp only[jj]at hq;split at hq
    . rename_i p1 q1 hp1 hq1;simp only[qBg]at hq;subst hq;have htk:=ht a (by simp);have hxa:xs[k]?=some va:=by
       have:(xs.toList.drop k)[0]?=some va:=by rw[e1];rfl
       simpa using this
      have hyb:ys[k]?=some vb:=by
       have:(ys.toList.drop k)[0]?=some vb:=by rw[e2];rfl
       simpa using this
      have hdx:ra=xs.toList.drop (k+1):=by
       have:=congrArg List.tail e1;simpa using this.symm
      have hdy:rb=ys.toList.drop (k+1):=by
       have:=congrArg List.tail e2;simpa using this.symm
      have ih:=Wo d he xs ys n (k+1) as bs q1 (by simpa using hl) (hdx▸g2) (hdy▸g4) hq1 (fun a' h'=>ht a' (by simp[h']));obtain⟨inf,hi,hu⟩:=vt he;have hagg:(isAgg e).run P w=.ok false w:=by
       rcases hu with hu|hu|⟨k,hu⟩<;>simp[isAgg,run_underlying hu]
      have heq:(Op.equalIn (d+1) e va vb).run P w=.ok p1 w:=by
       rcases hu with hu|hu|⟨k',hu⟩
       . rw[hu]at htk;cases a<;>simp at htk;cases b<;>simp[kV]at hp1;subst hp1;simp only[qk]at g1 g3;subst g1;subst g3;simp[Op.equalIn,run_underlying hu]
       . rw[hu]at htk;cases a<;>simp at htk;cases b<;>simp[kV]at hp1;subst hp1;simp only[qk]at g1 g3;subst g1;subst g3;rw[run_equalIn_string w d e _ _ hu,yY,yY]
       rw[hu]at htk;cases a<;>simp at htk;cases b<;>simp only[kV]at hp1<;>try(cases hp1;done)
       split at hp1
       . rename_i hk;simp at hp1;subst hp1;subst hk;simp only[qk]at g1 g3;subst g1;subst g3;exact run_equalIn_int w d e _ k' _ _ hu
       cases hp1
      rw[qC3];simp only[Op.eqItems];simp[part,hagg,hxa,hyb,heq];cases p1
      . simp
      simpa using ih
    cases hq
def qlY{t tds}(h:qxA (Dof P) t=some tds):
 ∃n e inf td,P.underlying t=some (.array n e)/\P.info? e=some inf/\P.cellsOf e=1/\kv (Dof P) e=true/\tds=List.replicate n (QG P td)/\P.underlying e=some td:=by
 unfold qxA at h;split at h
 . rename_i i hD;obtain⟨inf,d,z,hi,hu,_,rfl⟩:=qH hD;simp only at h;split at h
   . rename_i n e hd;split at h
     . rename_i j hj;obtain⟨inf2,d2,z2,hi2,hu2,_,rfl⟩:=qH hj;split at h
       . rename_i hc;simp at h;simp at hc;exact⟨n,e,inf2,d2,by rw[hu,qbS hd],hi2,by simp[Program.cellsOf,hi2,hc.2],hc.1,h.symm,hu2⟩
       cases h
     cases h
   cases h
 cases h
def qk8{t tds a b p}(ht:qxA (Dof P) t=some tds)(hfit:z9 tds a=true)(h:jj a b=some p){as bs}(ha:ql K a as.toList)(hb:ql K b bs.toList):
 P.eqGuardType P.depth t=false/\(Op.equalIn 10000 t (.agg as) (.agg bs)).run P w=.ok p w:=by
 obtain⟨n,e,inf,td,hu,hi,hc,hpl,rfl,hue⟩:=qlY ht;obtain⟨hl,hk⟩:=wE _ _ hfit;constructor
 . have:∃d,P.depth=d+2:=⟨2*(P.types.size+Made.depth),rfl⟩;obtain⟨d,hd⟩:=this;rw[hd,Program.eqGuardType];simp only[hu];exact wZ hpl d
 rw[run_equalIn_array w 9999 as bs hu hi,hc,qCP];refine Wo 9998 hpl as bs n 0 a b p (by simpa using hl) (by simpa using ha) (by simpa using hb) h ?_;intro x hx;obtain⟨j,hj⟩:=List.mem_iff_getElem?.1 hx;have hjl:j<n:=by
  obtain⟨h1,_⟩:=qAU.1 hj;simpa[hl] using h1
 have hf:=hk j (QG P td) x (by simp[hjl]) hj;rw[hue];cases hd:QG P td<;>simp only[hd]at hf<;>cases x<;>simp only[qaU]at hf
 . rw[qal hd];trivial
 . rw[JW hd];trivial
 rw[vY hd];trivial
def Wp{t a b p}(h:qa2 (Dof P) t a b=some p){as bs}(ha:ql K a as.toList)(hb:ql K b bs.toList):
 P.eqGuardType P.depth t=false/\(Op.equalIn 10000 t (.agg as) (.agg bs)).run P w=.ok p w:=by
 unfold qa2 at h;split at h
 . rename_i tds htds;split at h
   . rename_i hfit;obtain⟨fields,hu,hst,rfl,hpl,hoff⟩:=JA htds;obtain⟨hl,hk⟩:=wE _ _ hfit;have hfo:P.fieldsOf t=fields:=(by simp[Program.fieldsOf,hu]);constructor
     . have:∃d,P.depth=d+2:=⟨2*(P.types.size+Made.depth),rfl⟩;obtain⟨d,hd⟩:=this;rw[hd,Program.eqGuardType];simp only[hu];rw[<- Array.any_toList,qCv];intro f hf;have:=wZ (hpl f hf).1 d;simp[this]
     rw[run_equalIn_struct w 9999 t as bs (by rwa[hfo]) hst,hfo];refine J8 9998 as bs fields.toList 0 a b p hpl (by rw[hoff,qCP];simp) (by simpa using hl) (by simpa using ha) (by simpa using hb) h ?_;intro j f x e1 e2;have:=hk j (qV (Dof P) f.type) x (by simp[e1]) e2;have hp:=(hpl f (qAV e1)).1;unfold kv at hp;unfold qV at this
     cases hD:Dof P f.type with
     |none=>simp[hD]at hp
     | some i=>
      obtain⟨inf,d,z,hi,hu',_,rfl⟩:=qH hD;simp only[hD]at this;rw[hu'];cases hd:QG P d<;>simp only[hd]at this<;>cases x<;>simp only[qaU]at this
      . rw[qal hd];trivial
      . rw[JW hd];trivial
      rw[vY hd];trivial
   cases h
 split at h
 . rename_i tds htds;split at h
   . rename_i hfit;exact qk8 htds hfit h ha hb
   cases h
 cases h
def qlP{op t x y v x' y'}(hx:qk K x x')(hy:qk K y y')(hf:qoY (Dof P) op t x y=some v)(ox oy):
 ∃v',(do eqGuard op t ox oy x' y';binOp op t x' y':Sem Value).run P w=.ok v' w/\qk K v v':=by
 have guard:∀{a b:Value},(∀s,a≠.agg s)->a≠.nilIface->(eqGuard op t ox oy a b).run P w=.ok () w:=by
  intro a b h1 h2;cases op<;>simp[eqGuard]<;>cases a<;>first|exact absurd rfl (h1 _)|exact absurd rfl h2|rfl|simp
 unfold qoY at hf;split at hf
 . rename_i k a k' b;simp only[qk]at hx hy;subst hx;subst hy;split at hf
   . split at hf
     . cases hf
     . rename_i hb;cases hf;exact⟨.int k (k.wrap (a*2^(min b.toNat k.bits))),by rw[Sem.run_bind,guard (by simp) (by simp),Result.andThen_ok];simp[binOp,Op.shift,hb],by simp[qk]⟩
   . split at hf
     . cases hf
     . rename_i hb;cases hf;exact⟨.int k (a.fdiv (2^(min b.toNat k.bits))),by rw[Sem.run_bind,guard (by simp) (by simp),Result.andThen_ok];simp[binOp,Op.shift,hb],by simp[qk]⟩
   rename_i h1 h2;split at hf
   . rename_i hk;subst hk;obtain⟨v',e1,e2⟩:=qey (P:=P) (K:=K) (w:=w) hf t ⟨fun e=>h1 e,fun e=>h2 e⟩;exact⟨v',by rw[Sem.run_bind,guard (by simp) (by simp),Result.andThen_ok];exact e1,e2⟩
   cases hf
 . rename_i a b;simp only[qk]at hx hy;subst hx;subst hy;have key:∀u:Value,(Op.stringOp op ⟨a.toArray⟩ ⟨b.toArray⟩).run P w=.ok u w->(do eqGuard op t ox oy (.string ⟨a.toArray⟩) (.string ⟨b.toArray⟩);binOp op t (.string ⟨a.toArray⟩) (.string ⟨b.toArray⟩):Sem Value).run P w=.ok u w:=by
    intro u hu;rw[Sem.run_bind,guard (by simp) (by simp),Result.andThen_ok];cases op<;>simpa[binOp] using hu
   cases op<;>simp only[qq7]at hf
   case add=>
    split at hf
    . rename_i hl;cases hf;refine⟨.string ⟨(a++b).toArray⟩,key _ ?_,by simp[qk]⟩;have:¬(((⟨a.toArray⟩:ByteArray).size+(⟨b.toArray⟩:ByteArray).size:Nat):Int) > IntKind.i64.max:=by
       rw[ZB,ZB];simp[IntKind.max,IntKind.signed,IntKind.bits];omega
      simp only[Op.stringOp];rw[if_neg this,qhq];rfl
    cases hf
   all_goals first
    |(cases hf;done)
    | (cases hf
       exact⟨.bool _,key _ (by simp only[Op.stringOp,yY,pure,Sem.run];rfl),by simp[qk]⟩)
 . rename_i a b;simp only[qk]at hx hy;subst hx;subst hy;have hty:qV (Dof P) t=.bool->P.underlying t=some .bool:=by
    intro e;unfold qV at e;split at e
    . rename_i i hD;obtain⟨inf,d,z,hi,hu,_,rfl⟩:=qH hD;rw[hu,qal e]
    cases e
   split at hf
   . rename_i htd;cases hf;exact⟨.bool (a==b),by rw[Sem.run_bind,guard (by simp) (by simp),Result.andThen_ok];simp[binOp,Op.equal,Op.maxDepth,run_equalIn_bool' w 9999 t a b (hty htd)],by simp[qk]⟩
   . rename_i htd;cases hf;exact⟨.bool (!(a==b)),by rw[Sem.run_bind,guard (by simp) (by simp),Result.andThen_ok];simp[binOp,Op.equal,Op.maxDepth,run_equalIn_bool' w 9999 t a b (hty htd)],by simp[qk]⟩
   cases hf
 . rename_i a b;simp only[qk]at hx hy;obtain⟨as,rfl,ha⟩:=hx;obtain⟨bs,rfl,hb⟩:=hy;split at hf
   . obtain⟨p,hp,rfl⟩:=qA2.1 hf;obtain⟨e1,e2⟩:=Wp (w:=w) hp ha hb;exact⟨.bool p,by simp only[Sem.run_bind,run_eqGuard_agg w _ t ox oy as bs e1,Result.andThen_ok,run_eql_struct,e2],by simp[qk]⟩
   . obtain⟨p,hp,rfl⟩:=qA2.1 hf;obtain⟨e1,e2⟩:=Wp (w:=w) hp ha hb;exact⟨.bool (!p),by simp only[Sem.run_bind,run_eqGuard_agg w _ t ox oy as bs e1,Result.andThen_ok,run_neq_struct,e2],by simp[qk]⟩
   cases hf
 cases hf
def Wb(f:Value->ByteArray->Sem (ForInStep ByteArray))(hf:∀n s,f (.int .u8 n) s=pure (ForInStep.yield (s.push (UInt8.ofNat n.toNat)))):
 ∀(rows) (vs) (l:List UInt8) (s),ql K rows.flatten vs->bytesOf rows=some l ->
 (forIn vs s f:Sem ByteArray).run P w=.ok ⟨(s.data.toList++l).toArray⟩ w
 | [],vs,l,s,h,hl=>by
  simp[bytesOf]at hl;subst hl;simp only[List.flatten_nil,ql]at h;subst h;simp
 | r::rows,vs,l,s,h,hl=>by
  unfold bytesOf at hl;split at hl
  . rename_i hx;simp at hx
  . rename_i n r' hx;simp only[qC8]at hx;obtain⟨rfl,rfl⟩:=hx;obtain⟨l',hl',rfl⟩:=qA2.1 hl;simp only[qBI,qC5,ql,qk]at h;obtain⟨v,vr,rfl,rfl,h2⟩:=h;have ih:=Wb f hf rows vr l' (s.push (UInt8.ofNat n.toNat)) h2 hl';simp only[List.forIn_cons,hf];simp only[pure,Sem.run_bind,Sem.run,Result.andThen_ok];rw[ih];simp
  cases hl
def qin(h:WRel G w0 ro0 K U w){s d x v x'}(hx:qk K x x')(hf:wK (Dof P) s d x=some v):
 ∃v',(convert s d x').run P w=.ok v' w/\qk K v v':=by
 unfold wK at hf;split at hf
 . rename_i i j k n hi hj;obtain⟨inf,d1,z,hi1,hu1,_,rfl⟩:=qH hi;obtain⟨inf2,d2,z2,hi2,hu2,_,rfl⟩:=qH hj;simp only at hf;split at hf
   . rename_i k1 k2 e1 e2;cases hf;simp only[qk]at hx;subst hx;refine⟨.int k2 (k2.wrap n),?_,by simp[qk]⟩;have e1':=JW e1;have e2':=JW e2;subst e1' e2';simp[convert,run_underlying hu1,run_underlying hu2,Conv.intToInt]
   cases hf
 . rename_i i j l hi hj;obtain⟨inf,d1,z,hi1,hu1,_,rfl⟩:=qH hi;obtain⟨inf2,d2,z2,hi2,hu2,_,rfl⟩:=qH hj;simp only at hf;split at hf
   . rename_i e1 e2;cases hf;simp only[qk]at hx;subst hx;refine⟨.string ⟨l.toArray⟩,?_,by simp[qk]⟩;have e1':=vY e1;have e2':=vY e2;subst e1' e2';simp[convert,run_underlying hu1,run_underlying hu2]
   cases hf
 . rename_i i j rows tok hi hj;obtain⟨inf,d1,z,hi1,hu1,_,rfl⟩:=qH hi;obtain⟨inf2,d2,z2,hi2,hu2,_,rfl⟩:=qH hj;simp only at hf;split at hf
   . rename_i e e1 e2;have e1':=QZ e1;have e2':=vY e2;subst e1' e2';split at hf
     . rename_i m hm;obtain⟨inf3,d3,z3,hi3,hu3,_,rfl⟩:=qH hm;simp only at hf;split at hf
       . rename_i e3;have e3':=JW e3;subst e3';obtain⟨l,hl,rfl⟩:=qA2.1 hf;simp only[qk]at hx;rcases hx with⟨⟨a0,rfl,_⟩,rfl,_⟩|⟨B,off,cap,rfl,hcap,hrows,_⟩
         . simp[bytesOf]at hl;subst hl;refine⟨.string .empty,?_,by simp[qk];rfl⟩;cases a0<;>simp[convert,run_underlying hu1,run_underlying hu2,run_underlying hu3,Conv.bytesToString,loadCells,loadCellsFrom]
         obtain⟨f1,f2,f3⟩:=qT.flat B 1 rows off hrows;obtain⟨vs,g1,g2⟩:=qFR h.ro B _ off f1;have hcl:=run_loadCells_list (P:=P) w ⟨B,off,none⟩ vs (fun j v e=>by rw[jx];exact g2 j v e);rw[show vs.length=rows.length by rw[g1.length,f2];omega]at hcl;refine⟨.string ⟨l.toArray⟩,?_,by simp[qk]⟩;simp only[convert,run_underlying hu1,run_underlying hu2,run_underlying hu3,Conv.bytesToString,Sem.run_bind,Result.andThen_ok,hcl];rw[<- Array.forIn_toList];simp;rw[Wb (P:=P) (w:=w) _ (fun n s=>rfl) rows _ l ByteArray.empty (by simpa using g1) hl];simp[ByteArray.empty,ByteArray.emptyWithCapacity];rfl
       cases hf
     cases hf
   cases hf
 cases hf
end
