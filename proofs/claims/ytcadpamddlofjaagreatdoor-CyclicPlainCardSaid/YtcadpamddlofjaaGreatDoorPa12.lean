/- A part of the proof. -/
import Derived.Test.YtcadpamddlofjaaGreatDoorPa11
set_option maxHeartbeats 16000000
set_option linter.unusedVariables false
set_option linter.unusedSimpArgs false
set_option maxRecDepth 100000
set_option linter.defProp false
section
namespace Go.Proofs.YtcadpamddlofjaaGreatDoor
open Go Go.Abs
section
def cmpW (op a b:Int):Int:=if op=15 then b2i (decide (a=b)) else if op=16 then b2i (!decide (a=b)) else if op=17 then b2i (decide (a<b)) else b2i (decide (a<=b))
section
variable {c:Bc}{d:List Nd}{H:List Blk}{T:List (Option Nat)}
theorem qmv {d:List Nd}{b:Nat->Bool}{X Y:List Nat}:eqT (qn d b X) (qn d b Y) 16=decide (zS d b X=zS d b Y):=by
 rw[W7,qpR,decide_eq_true_iff,decide_eq_true_iff];unfold zS;omega
theorem qdA {d:List Nd}{b:Nat->Bool}{X Y:List Nat}:qb5 (qn d b X) (qn d b Y) 16=decide (zS d b X<zS d b Y):=by
 rw[vH,qpR,decide_eq_true_iff,decide_eq_true_iff];unfold zS;omega
theorem Vc (h:BX c H d H){X Y:List Nat}(hX:qU d X)(hY:qU d Y)(op:Int) :
 qg Tryz.prog (XG c) 245 [.ptr c.B 0,.int .i64 op,.agg (qq X),.agg (qq Y)] ⟨H,T⟩ (WQ c d H fun b=>cmpW op (zS d b X) (zS d b Y)):=by
 refine qg.k qe Tryz.func245 rfl (by kernel_rfl) ?_;have hXl:=hX.1;have hYl:=hY.1;have hk:∀ j,H.length<=j->j≠c.B:=fun j hj=>(h.at hj).1
 simp[-getElem?_pos,ze,je];have hx1:=h.app [.cells (qq X),.cells (qq Y),.cells (qq q9)];have bX:(H++[Blk.cells (qq X),.cells (qq Y),.cells (qq q9)])[H.length]?=some (.cells (qq X)):=lk0;have bY:(H++[Blk.cells (qq X),.cells (qq Y),.cells (qq q9)])[H.length+1]?=some (.cells (qq Y)):=lk1;have bZ:(H++[Blk.cells (qq X),.cells (qq Y),.cells (qq q9)])[H.length+2]?=some (.cells (qq q9)):=lk2;generalize H++[Blk.cells (qq X),.cells (qq Y),.cells (qq q9)]=H1 at *;have fin:∀ {H4:List Blk} {d4:List Nd} {u:Nat} {τ:St} {v:(Nat->Bool)->Int},τ.H=H4.set (H.length+2) (.cells (qq (u::List.replicate 15 0)))->BX c H d4 H4->qV d d4->u<d4.length->(∀ b,b2i (evD d4 b u)=v b)->WQ c d H v (.agg (qq (u::List.replicate 15 0))) τ:=fun {H4 d4 u τ v} hτ hx4 hg4 hu hv=>by
  refine⟨d4,_,rfl,?_,hg4,qaa hx4.ok hu,fun b=>by rw[WF hx4.ok,hv]⟩;rw[hτ];exact hx4.set (by omega) _
 have cut1:∀ (u:Nat),(qq (u::List.replicate 15 0)).take 16=qq (u::List.replicate 15 0):=fun u=>qk rfl
 have put1:∀ (u:Nat),zp (qq q9) 0 (qq (u::List.replicate 15 0))=qq (u::List.replicate 15 0):=fun u=>zd rfl rfl
 simp only[List.reduceReplicate]at fin cut1 put1;by_cases h15:op=15
 . simp[-getElem?_pos,h15,bX,bY,hXl,hYl,qk hXl,qk hYl];refine qc.acall (W6 hx1.self hX hY) ?_;rintro v ⟨H4,T4⟩ ⟨d4,u,rfl,hxx4,hg4,hu,hv4⟩;dsimp only at hv4;have gZ:=hxx4.loc bZ (hk _ (by omega));have hl:=(qoX.1 gZ).1;dsimp only at gZ hl;simp[-getElem?_pos];refine qc.call (z8 u) (by simp) ?_;simp[-getElem?_pos,gZ,qO,put1,hl,cut1];exact fin rfl (hx1.call hxx4) hg4 hu fun b=>by rw[hv4,qmv];rfl
 by_cases h16:op=16
 . simp[-getElem?_pos,h15,h16,bX,bY,hXl,hYl,qk hXl,qk hYl];refine qc.acall (W6 hx1.self hX hY) ?_;rintro v ⟨H4,T4⟩ ⟨d4,u,rfl,hxx4,hg4,hu,hv4⟩;dsimp only at hv4;have hx4:=hx1.call hxx4;simp[-getElem?_pos];refine qc.acall (v7 c hx4.self hu) ?_;rintro v ⟨H5,T5⟩ ⟨d5,u5,rfl,hxx5,hg5,hu5,hv5⟩;dsimp only at hv5;have gZ:=hxx5.loc (hxx4.loc bZ (hk _ (by omega))) (hk _ (by omega));have hl:=(qoX.1 gZ).1;dsimp only at gZ hl;simp[-getElem?_pos];refine qc.call (z8 u5) (by simp) ?_;simp[-getElem?_pos,gZ,qO,put1,hl,cut1];exact fin rfl (hx4.call hxx5) (hg4.trans hg5) hu5 fun b=>by rw[hv5,hv4,qmv];rfl
 by_cases h17:op=17
 . simp[-getElem?_pos,h15,h16,h17,bX,bY,hXl,hYl,qk hXl,qk hYl];refine qc.acall (WS hx1.self hX hY) ?_;rintro v ⟨H4,T4⟩ ⟨d4,u,rfl,hxx4,hg4,hu,hv4⟩;dsimp only at hv4;have gZ:=hxx4.loc bZ (hk _ (by omega));have hl:=(qoX.1 gZ).1;dsimp only at gZ hl;simp[-getElem?_pos];refine qc.call (z8 u) (by simp) ?_;simp[-getElem?_pos,gZ,qO,put1,hl,cut1];exact fin rfl (hx1.call hxx4) hg4 hu fun b=>by rw[hv4,qdA];rfl
 . simp[-getElem?_pos,h15,h16,h17,bX,bY,hXl,hYl,qk hXl,qk hYl];refine qc.acall (WS hx1.self hY hX) ?_;rintro v ⟨H4,T4⟩ ⟨d4,u,rfl,hxx4,hg4,hu,hv4⟩;dsimp only at hv4;have hx4:=hx1.call hxx4;simp[-getElem?_pos];refine qc.acall (v7 c hx4.self hu) ?_;rintro v ⟨H5,T5⟩ ⟨d5,u5,rfl,hxx5,hg5,hu5,hv5⟩;dsimp only at hv5;have gZ:=hxx5.loc (hxx4.loc bZ (hk _ (by omega))) (hk _ (by omega));have hl:=(qoX.1 gZ).1;dsimp only at gZ hl;simp[-getElem?_pos];refine qc.call (z8 u5) (by simp) ?_;simp[-getElem?_pos,gZ,qO,put1,hl,cut1];exact fin rfl (hx4.call hxx5) (hg4.trans hg5) hu5 fun b=>by
    rw[hv5,hv4,qdA];unfold cmpW;rw[if_neg h15,if_neg h16,if_neg h17];congr 1;rw[qpR];simp
theorem qb0 {d2:List Nd}{b:Nat->Bool}{V:List Nat}{x y:Nat->Bool}{ci:Bool}(h:∀ k,k<16->qn d2 b V k=qlR x y ci k):zS d2 b V=(((zh x 16+zh y 16+b2n ci) % 2 ^ 16:Nat):Int):=by
 unfold zS;rw[zi h,<- ke];rfl
theorem qnQ {d d2:List Nd}{b:Nat->Bool}{V X Y:List Nat}(h:∀ k,k<16->qn d2 b V k=(decide (zh (qn d b Y) 16<16)&&shB true (qn d b X) (zh (qn d b Y) 16) k)):zS d2 b V=yw 13 (zS d b X) (zS d b Y):=by
 have e:yw 13 (zS d b X) (zS d b Y)=if 0<=zS d b Y/\zS d b Y<16 then qM (zS d b X*2 ^ (zS d b Y).toNat) else 0:=by simp[yw]
 rw[e];by_cases hs:zh (qn d b Y) 16<16
 . rw[if_pos ⟨by unfold zS;omega,by unfold zS;omega⟩];have:zS d2 b V=((zh (qn d b X) 16*2 ^ zh (qn d b Y) 16 % 2 ^ 16:Nat):Int):=by
    unfold zS;rw[<- qf0,zi fun k hk=>by rw[h k hk,decide_eq_true hs,qp9,shB,if_pos rfl]]
   rw[this,w_shl];rfl
 . rw[if_neg (by unfold zS;omega)];unfold zS;rw[yJ fun k hk=>by rw[h k hk,decide_eq_false hs];rfl];rfl
theorem qnP {d d2:List Nd}{b:Nat->Bool}{V X Y:List Nat}(h:∀ k,k<16->qn d2 b V k=(decide (zh (qn d b Y) 16<16)&&shB false (qn d b X) (zh (qn d b Y) 16) k)):zS d2 b V=yw 14 (zS d b X) (zS d b Y):=by
 have e:yw 14 (zS d b X) (zS d b Y)=if 0<=zS d b Y/\zS d b Y<16 then qM (zS d b X) / 2 ^ (zS d b Y).toNat else 0:=by simp[yw]
 rw[e];by_cases hs:zh (qn d b Y) 16<16
 . rw[if_pos ⟨by unfold zS;omega,by unfold zS;omega⟩];have:zS d2 b V=((zh (qn d b X) 16 / 2 ^ zh (qn d b Y) 16:Nat):Int):=by
    unfold zS;rw[<- qf1,zi fun k hk=>by rw[h k hk,decide_eq_true hs,qp9,shB,if_neg (by simp)]]
   rw[this,w_shr];rfl
 . rw[if_neg (by unfold zS;omega)];unfold zS;rw[yJ fun k hk=>by rw[h k hk,decide_eq_false hs];rfl];rfl
theorem qiy (h:BX c H d H){X Y:List Nat}(hX:qU d X)(hY:qU d Y){op:Int}(h7:7<=op)(h21:op<=21) :
 qg Tryz.prog (XG c) 189 [.ptr c.B 0,.int .i64 op,.agg (qq X),.agg (qq Y)] ⟨H,T⟩ (WQ c d H fun b=>yw op (zS d b X) (zS d b Y)):=by
 refine qg.k qe Tryz.func189 rfl (by kernel_rfl) ?_;have hXl:=hX.1;have hYl:=hY.1;have hk:∀ j,H.length<=j->j≠c.B:=fun j hj=>(h.at hj).1
 simp[-getElem?_pos,ze,je];have hx1:=h.app [.cells (qq X),.cells (qq Y),.cells (qq q9)];have bX:(H++[Blk.cells (qq X),.cells (qq Y),.cells (qq q9)])[H.length]?=some (.cells (qq X)):=lk0;have bY:(H++[Blk.cells (qq X),.cells (qq Y),.cells (qq q9)])[H.length+1]?=some (.cells (qq Y)):=lk1;have bZ:(H++[Blk.cells (qq X),.cells (qq Y),.cells (qq q9)])[H.length+2]?=some (.cells (qq q9)):=lk2;generalize H++[Blk.cells (qq X),.cells (qq Y),.cells (qq q9)]=H1 at *;have fin:∀ {H4:List Blk} {d4:List Nd} {V:List Nat} {τ:St} {v:(Nat->Bool)->Int},τ.H=H4.set (H.length+2) (.cells (qq V))->BX c H d4 H4->qV d d4->qU d4 V->(∀ b,zS d4 b V=v b)->WQ c d H v (.agg (qq V)) τ:=fun {H4 d4 V τ v} hτ hx4 hg4 hV hv=>by
  refine⟨d4,_,rfl,?_,hg4,hV,hv⟩;rw[hτ];exact hx4.set (by omega) _
 have ht:=h.ok.two;have t0:∀ op T,15<=op/\op<=18->qg Tryz.prog (XG c) 245 [.ptr c.B 0,.int .i64 op,.agg (qq X),.agg (qq Y)] ⟨H1,T⟩ (WQ c d H1 fun b=>yw op (zS d b X) (zS d b Y)):=fun op T ho=>by
  have:=Vc hx1.self hX hY op (T:=T);have e:(fun b=>cmpW op (zS d b X) (zS d b Y))=fun b=>yw op (zS d b X) (zS d b Y):=by
   funext b;obtain rfl|rfl|rfl|rfl:op=15\/op=16\/op=17\/op=18:=by omega
   all_goals simp[cmpW,yw]
  rw[e]at this;exact this
 have t1:∀ op T,19<=op/\op<=21->qg Tryz.prog (XG c) 244 [.ptr c.B 0,.int .i64 op,.agg (qq X),.agg (qq Y)] ⟨H1,T⟩ (WQ c d H1 fun b=>yw op (zS d b X) (zS d b Y)):=fun op T ho=>by
  have:=qko hx1.self hX hY op (T:=T);have e:(fun b=>b2i (if op=19 then Q6 (qn d b X) 16&&Q6 (qn d b Y) 16 else if op=20 then Q6 (qn d b X) 16||Q6 (qn d b Y) 16 else !Q6 (qn d b X) 16||Q6 (qn d b Y) 16))=fun b=>yw op (zS d b X) (zS d b Y):=by
   funext b;rw[wS,wS];obtain rfl|rfl|rfl:op=19\/op=20\/op=21:=by omega
   all_goals simp[yw,zS]
  rw[e]at this;exact this
 have k7:=(qcT hx1.self hX hY (cn:=0) (T:=T) (by omega)).imp (Q':=WQ c d H1 fun b=>yw 7 (zS d b X) (zS d b Y)) (fun v U ⟨d4,V,e,hx,hg,hV,hv⟩=>⟨d4,V,e,hx,hg,hV,fun b=>by
  rw[qb0 (hv b),Je h.ok,<- ke,w_add];rfl⟩)
 have k8:=(QZ hx1.self hX hY (T:=T)).imp (Q':=WQ c d H1 fun b=>yw 8 (zS d b X) (zS d b Y)) (fun v U ⟨d4,V,e,hx,hg,hV,hv⟩=>⟨d4,V,e,hx,hg,hV,fun b=>by
  rw[qb0 (hv b),<- ke,w_sub];rfl⟩)
 have k9:=(qeJ hx1.self hX hY (T:=T)).imp (Q':=WQ c d H1 fun b=>yw 9 (zS d b X) (zS d b Y)) (fun v U ⟨d4,V,e,hx,hg,hV,hv⟩=>⟨d4,V,e,hx,hg,hV,fun b=>by
  have hvb:=hv b;dsimp only at hvb;unfold zS;rw[hvb,qah,w_mul];rfl⟩)
 have k10:=(Jn hx1.self hX hY (T:=T) (g:=239) (first:=[.ptr c.B 0]) (cap:=[]) (F:=fun _ p q=>p&&q) (fun d1 H1 T1 x y hx hg a b=>v9 c hx.self a b)).imp (Q':=WQ c d H1 fun b=>yw 10 (zS d b X) (zS d b Y)) (fun v U ⟨d4,V,e,hx,hg,hV,hv⟩=>⟨d4,V,e,hx,hg,hV,fun b=>by
  unfold zS;rw[zi (hv b),qjn];rfl⟩)
 have k11:=(Jn hx1.self hX hY (T:=T) (g:=177) (first:=[.ptr c.B 0]) (cap:=[]) (F:=fun _ p q=>p||q) (fun d1 H1 T1 x y hx hg a b=>V7 c hx.self a b)).imp (Q':=WQ c d H1 fun b=>yw 11 (zS d b X) (zS d b Y)) (fun v U ⟨d4,V,e,hx,hg,hV,hv⟩=>⟨d4,V,e,hx,hg,hV,fun b=>by
  unfold zS;rw[zi (hv b),qm8];rfl⟩)
 have k12:=(Jn hx1.self hX hY (T:=T) (g:=242) (first:=[.ptr c.B 0]) (cap:=[]) (F:=fun _ p q=>p ^^ q) (fun d1 H1 T1 x y hx hg a b=>Vu c hx.self a b)).imp (Q':=WQ c d H1 fun b=>yw 12 (zS d b X) (zS d b Y)) (fun v U ⟨d4,V,e,hx,hg,hV,hv⟩=>⟨d4,V,e,hx,hg,hV,fun b=>by
  unfold zS;rw[zi (hv b),qjm];rfl⟩)
 have k13:=(qc2 hx1.self hX hY true (T:=T)).imp (Q':=WQ c d H1 fun b=>yw 13 (zS d b X) (zS d b Y)) (fun v U ⟨d4,V,e,hx,hg,hV,hv⟩=>⟨d4,V,e,hx,hg,hV,fun b=>qnQ (hv b)⟩);have k14:=(qc2 hx1.self hX hY false (T:=T)).imp (Q':=WQ c d H1 fun b=>yw 14 (zS d b X) (zS d b Y)) (fun v U ⟨d4,V,e,hx,hg,hV,hv⟩=>⟨d4,V,e,hx,hg,hV,fun b=>qnP (hv b)⟩);have k15:=t0 15 T (by omega);have k16:=t0 16 T (by omega);have k17:=t0 17 T (by omega);have k18:=t0 18 T (by omega);have k19:=t1 19 T (by omega);have k20:=t1 20 T (by omega);have k21:=t1 21 T (by omega);simp only[qqg,qd0,if_true,qpi,if_false]at k7 k13 k14;have hcases:op=7\/op=8\/op=9\/op=10\/op=11\/op=12\/op=13\/op=14\/op=15\/op=16\/op=17\/op=18\/op=19\/op=20\/op=21:=by omega
 rcases hcases with rfl|rfl|rfl|rfl|rfl|rfl|rfl|rfl|rfl|rfl|rfl|rfl|rfl|rfl|rfl
 all_goals
  simp[-getElem?_pos,bX,bY,hXl,hYl,qk hXl,qk hYl];refine qc.acall (by assumption) ?_;rintro v ⟨H4,T4⟩ ⟨d4,V,rfl,hxx4,hg4,hV,hv4⟩;dsimp only at hv4;have gZ:=hxx4.loc bZ (hk _ (by omega));have hl:=(qoX.1 gZ).1;dsimp only at gZ hl;have hVl:=hV.1;simp[-getElem?_pos,gZ,qO,hVl,zd hVl (show (qq q9).length=16 from rfl),hl,qk hVl];exact fin rfl (hx1.call hxx4) hg4 hV hv4
end
end
end Go.Proofs.YtcadpamddlofjaaGreatDoor
end
