import Derived.Test.YtimecmegnocamaaGreatDoorPq11
import Derived.Tactics
import Derived.Tactics2
import Derived.Defers
import Derived.Recover
import Derived.Laws.Pointers
import Derived.WalkKit
import Derived.RowKit3
set_option maxRecDepth 4000
set_option linter.all false
set_option linter.defProp false
namespace Go.Proofs.YtimecmegnocamaaGreatDoor
open Go Go.Abs Go.RowKit Tryz
def qui(W):(Instr.typeAssert .nilIface 20 230 true).run prog W=.ok (.tuple #[.agg #[.int .i64 0],.bool false]) W:=by kernel_rfl
def quh(W v):(Instr.typeAssert (.iface 230 v) 20 230 true).run prog W=.ok (.tuple #[v,.bool true]) W:=by kernel_rfl
def Ja(B x y)(older:List PanicEntry)(w)(hp:B<w.heap.size)(hc:w.cell? ⟨B,0,none⟩=some x)(hz:w.frozen? ⟨B,0,none⟩=false):
 CallsD prog 190 #[.pointer (some ⟨B,0,none⟩)] (.panicking ({v:=.iface 230 (.agg #[.int .i64 y]),recovered:=false}::older)) w fun e u' w'=>
  e=.returned (.tuple #[])/\u'=.panicking ({v:=.iface 230 (.agg #[.int .i64 y]),recovered:=true}::older)/\w'=(w.alloc (.cells #[.int .i64 y] 230)).setCell ⟨B,0,none⟩ (.int .i64 y):=by
 refine callsD_of_wpS func190 rfl fun c₀ cs hu=>?_
 apply wpS_seq;apply wpS_region;simp[wpOpsS,go_sem,recoverD,hu,Tryz.ntmps190,Exit.thenS];apply wpS_seq;apply wpS_region;simp[wpOpsS,go_sem,recoverD,Exit.thenS,quh];apply wpS_seq;apply wpS_region;simp[wpOpsS,go_sem,Exit.thenS];refine wpS_cond (t:=true) (by simp[Act.eval,Array.replicate]) ?_;simp;apply wpS_region;simp[wpOpsS,go_sem,recoverD,bodyPostS,results,Tryz.results190,hz,frozen?_alloc_cells,World.cell?_alloc_past _ _ _ hp];rw[hc];simp[Result.andThen_ok,go_sem]
def qbc(p:Addr)(w):
 CallsD prog 190 #[.pointer (some p)] .returning w fun e u' w'=>e=.returned (.tuple #[])/\u'=.returning/\w'=w.alloc (.cells #[.int .i64 0] 230):=by
 refine callsD_of_wpS func190 rfl fun c₀ cs hu=>?_
 apply wpS_seq;apply wpS_region;simp[wpOpsS,go_sem,recoverD,hu,Tryz.ntmps190,Exit.thenS];apply wpS_seq;apply wpS_region;simp[wpOpsS,go_sem,recoverD,hu,Exit.thenS,qui];apply wpS_seq;apply wpS_region;simp[wpOpsS,go_sem,Exit.thenS];refine wpS_cond (t:=false) (by simp[Act.eval,Array.replicate]) ?_;simp;apply wpS_seq;apply wpS_region;simp[wpOpsS,go_sem,recoverD,Exit.thenS];refine wpS_cond (t:=false) (by simp[Act.eval,Array.replicate]) ?_;simp;refine wpS_of_wp (wp_skip ?_);cases c₀;simp_all[bodyPostS,results,Tryz.results190]
def qiy{G H:Glo}(hG:H.g=G.g){Q R:AV->St->Prop}{f:Nat}{first cap:List AV}{U:St}
 (h:qj prog H f (first++cap) (U.push (.cells [.int .i64 0])) R)
 (hR:∀v τ,R v τ->(∃x,τ.H[U.H.length]?=some (.cells [x]))/\Q (.int .i64 0) ⟨τ.H.set U.H.length (.cells [.int .i64 0])++[.cells [.int .i64 0]],τ.T⟩)
 (hX:∀c τ,H.X c τ->(∃x,τ.H[U.H.length]?=some (.cells [x]))/\∃k,c=[{v:=.iface 230 (.agg #[.int .i64 k]),recovered:=false}]/\Q (.int .i64 k) ⟨τ.H.set U.H.length (.cells [.int .i64 k])++[.cells [.int .i64 k]],τ.T⟩):
 qj prog G 130 [.fn f first cap] U Q:=by
 refine⟨by kernel_rfl,fun w0 ro0 K w vs hw hvs=>?_⟩;simp only[ql]at hvs;obtain⟨v0,vr,e0,⟨va,vb,rfl,ha,hb⟩,rfl⟩:=hvs;have evs:vs = #[.func (.func f) va vb]:=by apply Array.ext';simpa using e0
 subst evs
 go_enter_defers func130,Tryz.ntmps130
 go_wp2
 rw[JO h.1,Oper.upon_enter];have hw1:WRel H.g w0 ro0 (K.addM U.H.length w.heap.size (j9 (.cells #[.int .i64 0] 34))) (U.push (.cells [.int .i64 0])) (w.alloc (.cells #[.int .i64 0] 34)):=by
  rw[hG];exact hw.push ⟨#[.int .i64 0],34,rfl,by simp,by simp,fun i a e=>by
   cases i with
   |zero=>simp at e;subst e;exact⟨_,rfl,by simp[qk]⟩
   |succ i=>simp at e⟩
 have hle1:=qFC hw w.heap.size (j9 (.cells #[.int .i64 0] 34));generalize hK1:K.addM U.H.length w.heap.size (j9 (.cells #[.int .i64 0] 34))=K1 at hw1 hle1;have hm1:K1.m U.H.length=some w.heap.size:=by rw[<- hK1];simp[Kn.addM]
 have hp1:qk K1 (.ptr U.H.length 0) (.pointer (some ⟨w.heap.size,0,none⟩)):=by simp only[qk];exact⟨_,hm1,rfl⟩
 have hvs1:ql K1 (first++cap) (va++vb).toList:=by
  rw[Array.toList_append];exact(ql.mono hle1 _ ha).append (ql.mono hle1 _ hb)
 refine Calls.mono (h.2 w0 ro0 K1 _ _ hw1 hvs1) ?_;rintro e w' (⟨v',v,τ,K2,rfl,k1,k2,k3,k4⟩|⟨c,τ,K2,rfl,k1,k2,k3⟩)
 . obtain⟨⟨x,hx⟩,hq⟩:=hR v τ k4;have hm2:K2.m U.H.length=some w.heap.size:=k1.m _ _ hm1;rw[hG]at k2;obtain⟨w2,hst,hw2⟩:=Zc (P:=prog) (t:=34) (x:=.int .i64 0) (x':=.int .i64 0) k2 (hp1.mono k1) (by simp[qk]) (U':=⟨τ.H.set U.H.length (.cells [.int .i64 0]),τ.T⟩) (by simp[Vk,hx,D34]);obtain⟨B',g1,g2,g3,⟨cs,el,g4,g5,g6,g7⟩,g8⟩:=k2.blk _ _ hx;rw[hm2]at g1;cases g1;obtain⟨xv,hxv,_⟩:=g7 0 x rfl;have hc:w'.cell? ⟨w.heap.size,0,none⟩=some xv:=(by simp[World.cell?,g4,hxv]);have hz:w'.frozen? ⟨w.heap.size,0,none⟩=false:=by simp[World.frozen?,g4]
   go_wp2
   have e2:w'.setCell ⟨w.heap.size,0,none⟩ (.int .i64 0)=w2:=by
    have:=hst;simp[Instr.storeAt,go_sem,hc,hz]at this;exact this
   rw[e2];have hw3:=hw2.push (b:=.cells [.int .i64 0]) (o:=.cells #[.int .i64 0] 230) ⟨#[.int .i64 0],230,rfl,by simp,by simp,fun i a e=>by
    cases i with
    |zero=>simp at e;subst e;exact⟨_,rfl,by simp[qk]⟩
    |succ i=>simp at e⟩
   have hle3:=qFC hw2 w2.heap.size (j9 (.cells #[.int .i64 0] 230));have hnl:=(qAU.1 hx).1;have hcell:(w2.alloc (.cells #[.int .i64 0] 230)).cell? ⟨w.heap.size,0,none⟩=some (.int .i64 0):=by
    obtain⟨B',q1,q2,q3,⟨cs,el,q4,q5,q6,q7⟩,q8⟩:=hw3.blk U.H.length (.cells [.int .i64 0]) (by simp only[St.push];rw[qBa (by simpa using hnl),qA0 hnl]);rw[hle3.m _ _ hm2]at q1;cases q1;obtain⟨v,h1,h2⟩:=q7 0 _ rfl;simp only[qk]at h2;subst h2;simp[World.cell?,q4,h1]
   refine leaves_cons (f:=190) (args:=#[.pointer (some ⟨w.heap.size,0,none⟩)]) (by simp) (by simp[go_sem]) ?_;refine(qbc ⟨w.heap.size,0,none⟩ _).mono ?_;rintro e u' w'' ⟨rfl,rfl,rfl⟩;simp[Leaves,settle,results,Tryz.results130,go_sem,hcell];exact⟨_,_,_,qFH hle1 (qFH k1 hle3),hw3,by simp[qk],hq⟩
 obtain⟨⟨x,hx⟩,k,rfl,hq⟩:=hX c τ k3;have hm2:K2.m U.H.length=some w.heap.size:=k1.m _ _ hm1;rw[hG]at k2;obtain⟨B',g1,g2,g3,⟨cs,el,g4,g5,g6,g7⟩,g8⟩:=k2.blk _ _ hx;rw[hm2]at g1;cases g1;obtain⟨xv,hxv,_⟩:=g7 0 x rfl;have hc:w'.cell? ⟨w.heap.size,0,none⟩=some xv:=by simp[World.cell?,g4,hxv]
 have hz:w'.frozen? ⟨w.heap.size,0,none⟩=false:=by simp[World.frozen?,g4]
 have hnl:=(qAU.1 hx).1;have hw3:=k2.push (b:=.cells [.int .i64 k]) (o:=.cells #[.int .i64 k] 230) ⟨#[.int .i64 k],230,rfl,by simp,by simp,fun i a e=>by
  cases i with
  |zero=>simp at e;subst e;exact⟨_,rfl,by simp[qk]⟩
  |succ i=>simp at e⟩
 have hle3:=qFC k2 w'.heap.size (j9 (.cells #[.int .i64 k] 230));obtain⟨w2,hst,hw4⟩:=Zc (P:=prog) (t:=34) (x:=.int .i64 k) (x':=.int .i64 k) hw3 (hp1.mono (qFH k1 hle3)) (by simp[qk]) (U':=⟨τ.H.set U.H.length (.cells [.int .i64 k])++[.cells [.int .i64 k]],τ.T⟩)
  (by simp[Vk,qBa hnl,hx,D34,List.set_append_left _ _ hnl,St.push])
 have e2:(w'.alloc (.cells #[.int .i64 k] 230)).setCell ⟨w.heap.size,0,none⟩ (.int .i64 k)=w2:=by
  have:=hst;simp[Instr.storeAt,go_sem,hz,frozen?_alloc_cells,World.cell?_alloc_past _ _ _ g3]at this;rw[hc]at this;simpa[Result.andThen_ok,go_sem] using this
 have hcell:w2.cell? ⟨w.heap.size,0,none⟩=some (.int .i64 k):=by
  obtain⟨B',q1,q2,q3,⟨cs,el,q4,q5,q6,q7⟩,q8⟩:=hw4.blk U.H.length (.cells [.int .i64 k]) (by simp only;rw[qBa (by simpa using hnl),qA0 hnl]);rw[hle3.m _ _ hm2]at q1;cases q1;obtain⟨v,h1,h2⟩:=q7 0 _ rfl;simp only[qk]at h2;subst h2;simp[World.cell?,q4,h1]
 simp only[Exit.then];refine leaves_cons (f:=190) (args:=#[.pointer (some ⟨w.heap.size,0,none⟩)]) (by simp) (by simp[go_sem]) ?_;refine(Ja w.heap.size xv k [] _ g3 hc hz).mono ?_;rintro e u' w'' ⟨rfl,rfl,rfl⟩;rw[e2];simp[Leaves,settle,results,Tryz.results130,go_sem,hcell];exact⟨_,_,_,qFH hle1 (qFH k1 hle3),hw4,by simp[qk],hq⟩
