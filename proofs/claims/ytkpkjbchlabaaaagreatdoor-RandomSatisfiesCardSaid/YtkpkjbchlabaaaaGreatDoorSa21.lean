/- A part of the proof. -/
import Derived.Test.YtkpkjbchlabaaaaGreatDoorSa19
import Derived.Test.YtkpkjbchlabaaaaGreatDoorSa20
import Derived.Tactics
import Derived.Tactics2
import Derived.WalkKit
import Derived.WalkSmall
import Derived.RowKit3
set_option linter.unusedVariables false
set_option linter.unusedSimpArgs false
set_option maxRecDepth 100000
set_option maxHeartbeats 16000000
set_option linter.defProp false
section
namespace Go.Proofs.YtkpkjbchlabaaaaGreatDoor
open Go Go.Abs Go.RowKit
section
theorem yE {P:Program}{G:Glo}{o:Opts}{env:Env}{U:St}{ks:List Fr}{Q:Exit->Env->St->Prop}(n:Nat)(J:Nat->Env->St->Prop){c:Code}(h0:J 0 env U)
 (hs:∀ i env U (R:Env->St->Prop),(∀ env U,J (i+1) env U->R env U)->i<n->J i env U->kC P G o c env U (.loop R::ks) Q)
 (he:∀ env U,J n env U->kC P G o c env U (.loop (fun _ _=>False)::ks) Q) (hp:jQ c=true:=by rfl):qX P G o c env U ks Q :=
 qX.count n J h0 (fun i env U h1 hJ=>hs i env U _ (fun _ _ h=>h) h1 hJ) he hp
structure Bc where
 B:Nat
 M:Nat
 rest:List AV
 mp:Blk
 H0:List Blk
abbrev XG (c:Bc):Glo:=⟨GG,fun cs τ=>cs=[{ v:=.iface 244 (.agg #[.int .i64 2]),recovered:=false }]/\KpL [c.B] c.H0 τ.H⟩
structure BX (c:Bc)(E:List Blk)(d:List Nd)(H:List Blk):Prop where
 b:∃ tok,H[c.B]?=some (.cells (.sl 3 (d.map qw) tok::c.rest))
 m:H[c.M]?=some c.mp
 ok:DagOk d
 kp0:KpL [c.B] c.H0 H
 kp:KpL [c.B] E H
 ne:c.M≠c.B
 b0:c.B<E.length
 m0:c.M<E.length
 h0:c.H0.length<=E.length
section
variable {c:Bc}{E H H':List Blk}{d d':List Nd}{U U':St}{T T':List (Option Nat)}
theorem BX.app (h:BX c E d H)(u:List Blk):BX c E d (H++u):=by
 obtain⟨tok,hb⟩:=h.b;exact⟨⟨tok,qa hb _⟩,qa h.m _,h.ok,h.kp0.trans KpL.app,h.kp.trans KpL.app,h.ne,h.b0,h.m0,h.h0⟩
theorem BX.set (h:BX c E d H){k:Nat}(hk:E.length<=k)(y:Blk):BX c E d (H.set k y):=by
 obtain⟨tok,hb⟩:=h.b;have:=h.b0;have:=h.m0;have:=h.h0;exact⟨⟨tok,by rw[qqf (by omega)];exact hb⟩,by rw[qqf (by omega)];exact h.m,h.ok,h.kp0.setF (by omega),h.kp.setF hk,h.ne,h.b0,h.m0,h.h0⟩
theorem BX.self (h:BX c E d H):BX c H d H:=⟨h.b,h.m,h.ok,h.kp0,KpL.refl,h.ne,qqr h.b0 h.kp.1,qqr h.m0 h.kp.1,qq6 h.h0 h.kp.1⟩
theorem BX.same (h:BX c E d H)(hk:KpL [] H H'):BX c E d H':=by
 obtain⟨tok,hb⟩:=h.b;exact⟨⟨tok,hk.2 _ _ hb (by simp)⟩,hk.2 _ _ h.m (by simp),h.ok,h.kp0.trans (hk.sub (by simp)),h.kp.trans (hk.sub (by simp)),h.ne,h.b0,h.m0,h.h0⟩
theorem BX.call (h:BX c E d H)(h':BX c H d' H'):BX c E d' H':=⟨h'.b,h'.m,h'.ok,h'.kp0,h.kp.trans h'.kp,h.ne,h.b0,h.m0,h.h0⟩
theorem BX.at (h:BX c E d H){k:Nat}(hk:E.length<=k):k≠c.B/\k≠c.M:=by have:=h.b0;have:=h.m0;omega
theorem BX.loc (h:BX c H d H'){k:Nat}{x:Blk}(hx:H[k]?=some x)(hk:k≠c.B):H'[k]?=some x:=h.kp.2 _ _ hx (by simpa using hk)
end
theorem we (c:Bc){H:List Blk}{T:List (Option Nat)}{Q:AV->St->Prop}(hk:KpL [c.B] c.H0 H)(b:Nat)(n:Int) :
 qf Tryz.prog (XG c) 269 [.ptr b 0,.agg [.sl 0 [] .nil],.int .i64 n,.int .i64 2] ⟨H,T⟩ Q:=by
 refine⟨by kernel_rfl,fun w0 ro0 K w vs hw hvs=>?_⟩;simp only[qh,qg]at hvs;obtain⟨v1,r1,e1,⟨B,hB,rfl⟩,v2,r2,rfl,⟨cs,rfl,v3,r3,e3,hsl,rfl⟩,v4,r4,rfl,rfl,v5,r5,rfl,rfl,rfl⟩:=hvs;have hv3:qg K (.sl 0 [] .nil) v3:=by simp only[qg];exact hsl
 clear hsl;have evs:vs = #[.pointer (some ⟨B,0,none⟩),.agg cs,.int .i64 n,.int .i64 2]:=by apply Array.ext';simpa using e1
 have ecs:cs = #[v3]:=by apply Array.ext';simpa using e3
 subst evs ecs
 go_enter Tryz.func269,Tryz.ntmps269
 go_wp2
 simp only[bodyPost];have hw3:=hw.push (b:=.cells [.sl 0 [] .nil]) (o:=.cells #[v3] 67) ⟨#[v3],67,rfl,by simp,by simp,fun i a e=>by
  cases i with
  | zero=>simp at e;subst e;exact⟨_,rfl,hv3.mono (Kn.le_addM hw w.heap.size (jd (.cells #[v3] 67)))⟩
  | succ i=>simp at e⟩
 refine⟨trivial,.inr ⟨_,rfl,_,_,Kn.le_addM hw w.heap.size (jd (.cells #[v3] 67)),hw3,rfl,?_⟩⟩;exact hk.trans KpL.app
theorem Zu (c:Bc){E H:List Blk}{T:List (Option Nat)}{d d':List Nd}(h:BX c E d H)(hd:DagOk d')(i:Nat)(tok:Tok) :
 qf Tryz.prog (XG c) 269 [.ptr c.B 0,.agg [.sl 3 (d'.map qw) tok],.int .i64 i,.int .i64 0] ⟨H,T⟩ (fun r U'=>r=.int .i64 i/\BX c E d' U'.H):=by
 refine qf.k qe Tryz.func269 rfl (by kernel_rfl) ?_;obtain⟨t0,hb⟩:=h.b;have hbl:=(qqc.1 hb).1;simp[-getElem?_pos,qa hb,yQ hb];have:=h.b0;have:=h.h0;have:=h.ne;exact⟨⟨tok,qa (qqh hbl) _⟩,qa (by rw[qqf (Ne.symm h.ne)];exact h.m) _,hd,(h.kp0.trans (KpL.set (by simp))).trans KpL.app,(h.kp.trans (KpL.set (by simp))).trans KpL.app,h.ne,h.b0,h.m0,h.h0⟩
end
end Go.Proofs.YtkpkjbchlabaaaaGreatDoor
end
section
namespace Go.Proofs.YtkpkjbchlabaaaaGreatDoor
open Go Go.Abs
def NQ (c:Bc)(d:List Nd)(H:List Blk)(v:(Nat->Bool)->Bool)(r:AV)(U':St):Prop :=
 ∃ d' i,r=.int .i64 (i:Nat)/\BX c H d' U'.H/\qW d d'/\i<d'.length/\∀ b,evD d' b i=v b
theorem Qj (c:Bc){d:List Nd}{H:List Blk}{T:List (Option Nat)}(h:BX c H d H){f:Nat}(hf:f<d.length) :
 qf Tryz.prog (XG c) 208 [.ptr c.B 0,.int .i64 f] ⟨H,T⟩ (NQ c d H fun b=>!evD d b f):=by
 refine qf.k qe Tryz.func208 rfl (by kernel_rfl) ?_;obtain⟨t0,hb⟩:=h.b;simp[-getElem?_pos,hb];refine qc.acall ((not418 d h.ok f hf _ _).leq (args:=[.agg [.sl 3 (d.map qw) t0],.int .i64 f]) (by simp[zu,Leq,j7.refl])).glo ?_;rintro v ⟨H2,T2⟩ ⟨hk,rfl|⟨d2,i2,t2,rfl,g2,hd2,hi2,hm2,hs2⟩⟩
 . simp[-getElem?_pos];exact qc.acall (we c (Q:=fun _ _=>False) (h.same hk).kp0 _ _) fun _ _ h=>h.elim
 . simp[-getElem?_pos];refine qc.acall (Zu c (h.same hk) hd2 i2 _) ?_;rintro v ⟨H3,T3⟩ ⟨rfl,hx⟩;simp[-getElem?_pos];exact⟨d2,i2,rfl,hx,g2,hi2,fun b=>by rw[hs2 b];rfl⟩
theorem Ql (c:Bc){d:List Nd}{H:List Blk}{T:List (Option Nat)}(h:BX c H d H){f g:Nat}(hf:f<d.length)(hg:g<d.length) :
 qf Tryz.prog (XG c) 275 [.ptr c.B 0,.int .i64 f,.int .i64 g] ⟨H,T⟩ (NQ c d H fun b=>evD d b f&&evD d b g):=by
 refine qf.k qe Tryz.func275 rfl (by kernel_rfl) ?_;obtain⟨t0,hb⟩:=h.b;simp[-getElem?_pos,hb];refine qc.acall ((qnx d h.ok f g hf hg _ _).leq (args:=[.agg [.sl 3 (d.map qw) t0],.int .i64 f,.int .i64 g]) (by simp[zu,Leq,j7.refl])).glo ?_;rintro v ⟨H2,T2⟩ ⟨hk,rfl|⟨d2,i2,t2,rfl,g2,hd2,hi2,hm2,hs2⟩⟩
 . simp[-getElem?_pos];exact qc.acall (we c (Q:=fun _ _=>False) (h.same hk).kp0 _ _) fun _ _ h=>h.elim
 . simp[-getElem?_pos];refine qc.acall (Zu c (h.same hk) hd2 i2 _) ?_;rintro v ⟨H3,T3⟩ ⟨rfl,hx⟩;simp[-getElem?_pos];exact⟨d2,i2,rfl,hx,g2,hi2,fun b=>by rw[hs2 b];rfl⟩
theorem qaN (c:Bc){d:List Nd}{H:List Blk}{T:List (Option Nat)}(h:BX c H d H){f g:Nat}(hf:f<d.length)(hg:g<d.length) :
 qf Tryz.prog (XG c) 204 [.ptr c.B 0,.int .i64 f,.int .i64 g] ⟨H,T⟩ (NQ c d H fun b=>evD d b f||evD d b g):=by
 refine qf.k qe Tryz.func204 rfl (by kernel_rfl) ?_;obtain⟨t0,hb⟩:=h.b;simp[-getElem?_pos,hb];refine qc.acall ((or416 d h.ok f g hf hg _ _).leq (args:=[.agg [.sl 3 (d.map qw) t0],.int .i64 f,.int .i64 g]) (by simp[zu,Leq,j7.refl])).glo ?_;rintro v ⟨H2,T2⟩ ⟨hk,rfl|⟨d2,i2,t2,rfl,g2,hd2,hi2,hm2,hs2⟩⟩
 . simp[-getElem?_pos];exact qc.acall (we c (Q:=fun _ _=>False) (h.same hk).kp0 _ _) fun _ _ h=>h.elim
 . simp[-getElem?_pos];refine qc.acall (Zu c (h.same hk) hd2 i2 _) ?_;rintro v ⟨H3,T3⟩ ⟨rfl,hx⟩;simp[-getElem?_pos];exact⟨d2,i2,rfl,hx,g2,hi2,fun b=>by rw[hs2 b];rfl⟩
theorem V7 (c:Bc){d:List Nd}{H:List Blk}{T:List (Option Nat)}(h:BX c H d H){f g:Nat}(hf:f<d.length)(hg:g<d.length) :
 qf Tryz.prog (XG c) 278 [.ptr c.B 0,.int .i64 f,.int .i64 g] ⟨H,T⟩ (NQ c d H fun b=>evD d b f ^^ evD d b g):=by
 refine qf.k qe Tryz.func278 rfl (by kernel_rfl) ?_;obtain⟨t0,hb⟩:=h.b;simp[-getElem?_pos,hb];refine qc.acall ((xor458 d h.ok f g hf hg _ _).leq (args:=[.agg [.sl 3 (d.map qw) t0],.int .i64 f,.int .i64 g]) (by simp[zu,Leq,j7.refl])).glo ?_;rintro v ⟨H2,T2⟩ ⟨hk,rfl|⟨d2,i2,t2,rfl,g2,hd2,hi2,hm2,hs2⟩⟩
 . simp[-getElem?_pos];exact qc.acall (we c (Q:=fun _ _=>False) (h.same hk).kp0 _ _) fun _ _ h=>h.elim
 . simp[-getElem?_pos];refine qc.acall (Zu c (h.same hk) hd2 i2 _) ?_;rintro v ⟨H3,T3⟩ ⟨rfl,hx⟩;simp[-getElem?_pos];exact⟨d2,i2,rfl,hx,g2,hi2,fun b=>by rw[hs2 b];rfl⟩
theorem qi3 (c:Bc){d:List Nd}{H:List Blk}{T:List (Option Nat)}(h:BX c H d H){f g e:Nat}(hf:f<d.length)(hg:g<d.length)(he:e<d.length) :
 qf Tryz.prog (XG c) 215 [.ptr c.B 0,.int .i64 f,.int .i64 g,.int .i64 e] ⟨H,T⟩ (NQ c d H fun b=>evD d b f&&evD d b g||!evD d b f&&evD d b e):=by
 refine qf.k qe Tryz.func215 rfl (by kernel_rfl) ?_;obtain⟨t0,hb⟩:=h.b;simp[-getElem?_pos,hb];refine qc.acall ((qi2 d h.ok f g e hf hg he _ _).leq (args:=[.agg [.sl 3 (d.map qw) t0],.int .i64 f,.int .i64 g,.int .i64 e]) (by simp[zu,Leq,j7.refl])).glo ?_;rintro v ⟨H2,T2⟩ ⟨hk,rfl|⟨d2,i2,t2,rfl,g2,hd2,hi2,hm2,hs2⟩⟩
 . simp[-getElem?_pos];exact qc.acall (we c (Q:=fun _ _=>False) (h.same hk).kp0 _ _) fun _ _ h=>h.elim
 . simp[-getElem?_pos];refine qc.acall (Zu c (h.same hk) hd2 i2 _) ?_;rintro v ⟨H3,T3⟩ ⟨rfl,hx⟩;simp[-getElem?_pos];exact⟨d2,i2,rfl,hx,g2,hi2,fun b=>by rw[hs2 b];rfl⟩
section
section
variable {k:IntKind}{a b:Int}
theorem Z5:zp .add k a b=some (.int k (k.wrap (a+b))):=rfl
theorem Yy:zp .sub k a b=some (.int k (k.wrap (a-b))):=rfl
theorem op_mul:zp .mul k a b=some (.int k (k.wrap (a*b))):=rfl
theorem qd7:zp .lss k a b=some (.bool (decide (a<b))):=rfl
theorem qmY:zp .gtr k a b=some (.bool (decide (a > b))):=rfl
theorem qaP:zp .eql k a b=some (.bool (a==b)):=rfl
theorem qhy:zp .neq k a b=some (.bool (a != b)):=rfl
end
def qp (w:List Nat):List AV:=w.map fun (n:Nat)=>.int .i64 (n:Int)
@[simp]theorem jm (w:List Nat):(qp w).length=w.length:=by simp[qp]
@[simp]theorem encW_atom (w:List Nat):(qp w).all AV.atom=true:=by simp[qp]
@[simp]theorem qpx:∀ (w:List Nat),qv (qp w)=true
 | []=>rfl
 | a::r=>by simp only[qp,qqp,qv,qR,qrg];exact qpx r
@[simp]theorem encW_fin1 (H:List Blk)(w:List Nat):(qp w).map (kN H)=qp w:=by simp[qp]
theorem yS (w:List Nat)(i n:Nat):(qp w).set i (.int .i64 (n:Int))=qp (w.set i n):=by simp[qp,qs7]
theorem zO {w:List Nat}{i x:Nat}(h:w[i]?=some x):(qp w).drop i=.int .i64 (x:Int)::(qp w).drop (i+1):=by
 have hl:i<(qp w).length:=by rw[jm];exact (qqc.1 h).1
 rw[qqu hl];congr 1;obtain⟨_,h2⟩:=qqc.1 h;simp[qp,h2]
theorem qm {w:List Nat}(h:w.length=16):(qp w).take 16=qp w:=qqk (by simp[h])
theorem qon:∀ (new Z:List AV),Z.length=new.length->zj Z 0 new=new:=fun new Z h=>by
 have:=wA new Z [] h;simpa using this
theorem ze {w:List Nat}(h:w.length=16){Z:List AV}(hZ:Z.length=16):zj Z 0 (qp w)=qp w:=qon _ _ (by simp[h,hZ])
theorem jG (w:List Nat):qQ (.agg (qp w))=some (qp w):=by simp
section
variable {α:Type}{H t:List α}{p q r s u v:α}
theorem lk0:(H++p::t)[H.length]?=some p:=by rw[qql (qqn _),qro];rfl
theorem lk1:(H++p::q::t)[H.length+1]?=some q:=by rw[qql (by omega),qq7];rfl
theorem lk2:(H++p::q::r::t)[H.length+2]?=some r:=by rw[qql (by omega),qq7];rfl
theorem lk3:(H++p::q::r::s::t)[H.length+3]?=some s:=by rw[qql (by omega),qq7];rfl
theorem lk4:(H++p::q::r::s::u::t)[H.length+4]?=some u:=by rw[qql (by omega),qq7];rfl
end
def q9:List Nat:=List.replicate 16 0
theorem qL:q9.length=16:=rfl
theorem km {d:List Nd}(h:DagOk d):qV d q9:=⟨rfl,fun i hi=>by rw[q9,qrH]at hi;rw[hi.2];have:=h.two;omega⟩
theorem jo : [AV.int .i64 0,.int .i64 0,.int .i64 0,.int .i64 0,.int .i64 0,.int .i64 0,.int .i64 0,.int .i64 0,.int .i64 0,.int .i64 0,.int .i64 0,.int .i64 0,.int .i64 0,.int .i64 0,.int .i64 0,.int .i64 0]=qp q9:=rfl
theorem yT {d:List Nd}(h:DagOk d)(b:Nat->Bool)(k:Nat):qn d b q9 k=false:=by
 unfold qn;have:q9.getD k 0=0:=by
  simp only[q9,qqm,qs0];split<;>rfl
 rw[this,Ju h]
def WQ (c:Bc)(d:List Nd)(H:List Blk)(v:(Nat->Bool)->Int)(r:AV)(U':St):Prop :=
 ∃ d' W,r=.agg (qp W)/\BX c H d' U'.H/\qW d d'/\qV d' W/\∀ b,zP d' b W=v b
def BQ (c:Bc)(d:List Nd)(H:List Blk)(v:(Nat->Bool)->Nat->Bool)(r:AV)(U':St):Prop :=
 ∃ d' W,r=.agg (qp W)/\BX c H d' U'.H/\qW d d'/\qV d' W/\∀ b k,k<16->qn d' b W k=v b k
theorem qV.get {d:List Nd}{w:List Nat}(h:qV d w){k:Nat}(hk:k<16):∃ x,w[k]?=some x/\x<d.length/\w.getD k 0=x/\∀ b,qn d b w k=evD d b x:=by
 have hl:k<w.length:=by rw[h.1];exact hk
 refine⟨w[k],qqe hl,h.2 _ (qrQ hl),by simp[List.getD,hl],fun b=>by simp[qn,List.getD,hl]⟩
theorem qV.set {d:List Nd}{w:List Nat}(h:qV d w){k x:Nat}(hx:x<d.length):qV d (w.set k x):=⟨by simp[h.1],fun i hi=>by
 rcases qr5 hi with hi|rfl
 . exact h.2 i hi
 . exact hx⟩
theorem wn {d:List Nd}{w:List Nat}{k x j:Nat}{b:Nat->Bool}(hk:k<w.length):qn d b (w.set k x) j=if j=k then evD d b x else qn d b w j:=by
 unfold qn;by_cases h:j=k
 . subst h;simp[List.getD,hk]
 . simp[List.getD,qqf (Ne.symm h),h]
section
variable {c:Bc}{d:List Nd}{H:List Blk}{T:List (Option Nat)}
theorem Ze (h:BX c H d H){X:List Nat}(hX:qV d X) :
 qf Tryz.prog (XG c) 209 [.ptr c.B 0,.agg (qp X)] ⟨H,T⟩ (BQ c d H fun b k=>!qn d b X k):=by
 refine qf.k qe Tryz.func209 rfl (by kernel_rfl) ?_;simp[-getElem?_pos,jG];refine yE 16 (fun i ev U=>ev 0=.ptr c.B 0/\ev 3=.ptr H.length 0/\ev 4=.ptr (H.length+1) 0/\ev 6=.int .i64 (i:Int) /\
  ∃ d' W,BX c H d' U.H/\qW d d'/\qV d' W/\U.H[H.length]?=some (.cells (qp W))/\(∃ Z,Z.length=16/\U.H[H.length+1]?=some (.cells Z))/\∀ b k,k<16->qn d' b W k=if k<i then !qn d b X k else qn d b X k) ?_ ?_ ?_
 . refine⟨by simp,by simp,by simp,by simp,d,X,(h.app _),qW.refl d,hX,by simp,⟨_,rfl,by simp;rfl⟩,fun b k hk=>by simp⟩
 . rintro i ev ⟨H1,T1⟩ R hR hi ⟨e0,e3,e4,e6,d1,W,hx,hg,hW,hH,⟨Z,hZ,hH2⟩,hb⟩;obtain⟨x,hx1,hx2,hx3,hx4⟩:=hW.get hi;simp only at hx hH hH2;have hWl:=hW.1;have hi':(i:Int)<16:=(by omega);have hi1:i+1<=16:=hi;have hdr:=zO hx1;have hw:=wr (n:=(i:Int)+1) (by omega) (by omega);simp[-getElem?_pos,e0,e3,e4,e6,hi',hi,hi1,hH,hWl,hdr];refine qc.acall (Qj c hx.self hx2) ?_;rintro v ⟨H2,T2⟩ ⟨d2,y,rfl,hxx,hg2,hy,hv⟩;dsimp only at hv;have hx2':=hx.call hxx;have hH2':=hxx.loc hH (h.at (qqn _)).1;have hHl:=(qqc.1 hH2').1;have hZ2:=hxx.loc hH2 (h.at (by omega)).1;simp[-getElem?_pos,e0,e3,e4,e6,hi',hi,hi1,hH2',hWl,yS,hw];refine hR _ _ ⟨by simp[e0],by simp[e3],by simp[e4],by simp,d2,W.set i y,hx2'.set (qqn _) _,hg.trans hg2,(hW.grown hg2).set hy,by simp[hHl],⟨Z,hZ,by rw[qqf (by omega)];exact hZ2⟩,fun b k hk=>?_⟩;rw[wn (by omega)];by_cases hki:k=i
   . subst hki;have:=hb b k hk;rw[hx4,if_neg (by omega)]at this;rw[if_pos rfl,if_pos (by omega),hv,this]
   . rw[if_neg hki,zC hx.ok hg2 hW b hk,hb b k hk];by_cases hk2:k<i
     . rw[if_pos hk2,if_pos (by omega)]
     . rw[if_neg hk2,if_neg (by omega)]
 . rintro ev ⟨H1,T1⟩ ⟨e0,e3,e4,e6,d1,W,hx,hg,hW,hH,⟨Z,hZ,hH2⟩,hb⟩;simp only at hx hH hH2;have hWl:=hW.1;have hHl:=(qqc.1 hH2).1;simp[-getElem?_pos,e0,e3,e4,e6,hH,hH2,hWl,qm hWl,ze hWl hZ,hZ,hHl];refine⟨d1,W,rfl,hx.set (by omega) _,hg,hW,fun b k hk=>by rw[hb b k hk,if_pos hk]⟩
end
end
section
section
variable {c:Bc}{d:List Nd}{H:List Blk}{T:List (Option Nat)}
theorem qV.getG {d d':List Nd}{w:List Nat}(h:qV d w)(hd:DagOk d)(hg:qW d d'){k:Nat}(hk:k<16):∃ x,w[k]?=some x/\x<d'.length/\∀ b,evD d' b x=qn d b w k:=by
 obtain⟨x,h1,h2,h3,h4⟩:=h.get hk;exact⟨x,h1,qqr h2 hg.len,fun b=>by rw[hg.ev hd b h2,h4 b]⟩
theorem vQ (h:BX c H d H){X:List Nat}(hX:qV d X) :
 qf Tryz.prog (XG c) 160 [.ptr c.B 0,.agg (qp X)] ⟨H,T⟩ (NQ c d H fun b=>Zi (qn d b X) 16):=by
 refine qf.k qe Tryz.func160 rfl (by kernel_rfl) ?_;have hXl:=hX.1;simp[-getElem?_pos,jG,hXl,qm hXl];refine yE 16 (fun i ev U=>ev 0=.ptr c.B 0/\ev 8=.agg (qp X)/\ev 9=.int .i64 (i:Int) /\
  ∃ d' t,ev 5=.int .i64 (t:Nat)/\BX c H d' U.H/\qW d d'/\t<d'.length/\∀ b,evD d' b t=Zi (qn d b X) i) ?_ ?_ ?_
 . exact⟨by simp,by simp,by simp,d,0,by simp,h.app _,qW.refl d,by have:=h.ok.two;omega,fun b=>Ju h.ok b⟩
 . rintro i ev ⟨H1,T1⟩ R hR hi ⟨e0,e8,e9,d1,t,e5,hx,hg,ht,hv⟩;obtain⟨x,hx1,hx2,hx3⟩:=hX.getG h.ok hg hi;have hi':(i:Int)<16:=(by omega);have hi1:i+1<=16:=hi;have hw:=wr (n:=(i:Int)+1) (by omega) (by omega);simp[-getElem?_pos,e0,e5,e8,e9,hi',hi,hi1,hXl,zO hx1];refine qc.acall (qaN c hx.self ht hx2) ?_;rintro v ⟨H2,T2⟩ ⟨d2,y,rfl,hxx,hg2,hy,hv2⟩;dsimp only at hv2;simp[-getElem?_pos,e0,e5,e8,e9,hw];exact hR _ _ ⟨by simp[e0],by simp[e8],by simp,d2,y,by simp,hx.call hxx,hg.trans hg2,hy,fun b=>by rw[hv2,hv,hx3];rfl⟩
 . rintro ev ⟨H1,T1⟩ ⟨e0,e8,e9,d1,t,e5,hx,hg,ht,hv⟩;simp[-getElem?_pos,e0,e5,e8,e9];exact⟨d1,t,rfl,hx,hg,ht,hv⟩
theorem qjs (n i:Nat)(hn:n<2 ^ 63):zp .and .i64 ((n:Int).fdiv (2 ^ i)) 1=some (.int .i64 ((if n.testBit i=true then 1 else 0:Nat):Int)):=by
 have h1:((n:Int).fdiv (2 ^ i))=((n / 2 ^ i:Nat):Int):=by rw[qsk _ (Int.pow_nonneg (by omega))];simp
 have h2:n / 2 ^ i<2 ^ 64:=by have:=qrs n (2 ^ i);omega
 have h3:n / 2 ^ i % 2=if n.testBit i=true then 1 else 0:=by
  rw[Nat.testBit_eq_decide_div_mod_eq];have:=Nat.mod_two_eq_zero_or_one (n / 2 ^ i);rcases this with h|h<;>simp[h]
 rw[h1];generalize n / 2 ^ i=m at *;have h4:(BitVec.ofInt 64 (m:Int) &&& BitVec.ofInt 64 1).toNat=m % 2:=by
  rw[BitVec.ofInt_natCast,show BitVec.ofInt 64 1=1#64 from rfl,BitVec.toNat_and,BitVec.toNat_ofNat,BitVec.toNat_ofNat,qsd h2];exact Nat.and_one_is_mod _
 show some (AV.int .i64 (IntKind.i64.wrap ((BitVec.ofInt 64 (m:Int) &&& BitVec.ofInt 64 1).toNat:Int)))=_;rw[h4,h3];split<;>rfl
theorem jW (n:Nat)(hn:n<65536):Pure Tryz.prog GG 205 [.int .i64 (n:Int)] (.agg (qp ((List.range 16).map fun k=>if n.testBit k=true then 1 else 0))):=by
 refine Pure.k qe Tryz.func205 rfl (by kernel_rfl) ?_;simp[-getElem?_pos];refine yE 16 (fun i ev U=>ev 0=.int .i64 (n:Int)/\ev 2=.ptr 0 0/\ev 3=.ptr 1 0/\ev 5=.int .i64 (i:Int) /\
  ∃ W Z,W.length=16/\U=⟨[.cells Z,.cells (qp W)],[]⟩/\Z.length=16/\∀ k,k<i->W[k]?=some (if n.testBit k=true then 1 else 0)) ?_ ?_ ?_
 . exact⟨by simp,by simp,by simp,by simp,List.replicate 16 0,_,by simp,rfl,rfl,fun k hk=>absurd hk (by omega)⟩
 . rintro i ev U R hR hi ⟨e0,e2,e3,e5,W,Z,hW,rfl,hZ,hb⟩;have hi':(i:Int)<16:=(by omega);have hi1:i+1<=16:=hi;have hw:=wr (n:=(i:Int)+1) (by omega) (by omega);have hmin:min i 64=i:=(by omega);have hneg:¬ (i:Int)<0:=(by omega);have hand:=qjs n i (by omega);obtain⟨v,hv⟩:∃ v:Nat,v=if n.testBit i=true then 1 else 0:=⟨_,rfl⟩
   rw[<- hv]at hand;simp[-getElem?_pos,-zp,qd7,Z5,e0,e2,e3,e5,hi',hi,hi1,hW,hmin,IntKind.bits,hand,hneg];refine hR _ _ ⟨by simp[e0],by simp[e2],by simp[e3],by simp[hw],W.set i v,Z,by simp[hW],by simp[yS],hZ,fun k hk=>?_⟩;by_cases hki:k=i
   . subst hki;rw[qqh (by omega),hv]
   . rw[qqf (Ne.symm hki)];exact hb k (by omega)
 . rintro ev U ⟨e0,e2,e3,e5,W,Z,hW,rfl,hZ,hb⟩;have:W=(List.range 16).map fun k=>if n.testBit k=true then 1 else 0:=by
    apply qq3;intro k;by_cases hk:k<16
    . rw[hb k hk];simp[hk]
    . rw[qqC (by omega),qqC (by simp;omega)]
   rw[<- this];simp[-getElem?_pos,e0,e2,e3,e5,hW,qm hW,ze hW hZ,hZ]
end
end
section
section
variable {c:Bc}{d:List Nd}{H:List Blk}{T:List (Option Nat)}
def qmI (x y:Nat->Bool)(c:Bool)(k:Nat):Bool:=(x k ^^ y k) ^^ V6 x y c k
def qku:List (Nat×Sch×List Nat):=[(5,.step 0 [8,7] (.step 1 [8,7,3,2] (.step 2 [8,7,3] (.step 3 [8,7] (.step 4 [8,7,6,5] (.step 5 [8,7,6] (.step 6 [8,7] (.step 7 [8] (.step 8 [] (.done))))))))),[7]),(8,.step 0 [8,7] (.step 1 [8,7,3,2] (.step 2 [8,7,3] (.step 3 [8,7] (.step 4 [8,7,6,5] (.step 5 [8,7,6] (.step 6 [8,7] (.step 7 [8] (.step 8 [] (.done))))))))),[7])]
theorem qdF (h:BX c H d H){X Y:List Nat}(hX:qV d X)(hY:qV d Y){cn:Nat}(hc:cn<d.length) :
 qf Tryz.prog (XG c) 273 [.ptr c.B 0,.agg (qp X),.agg (qp Y),.int .i64 (cn:Int)] ⟨H,T⟩ (BQ c d H fun b=>qmI (qn d b X) (qn d b Y) (evD d b cn)):=by
 refine qf.kO ⟨false,qku,[],[]⟩ qe Tryz.func273 rfl (by kernel_rfl) ?_;have hXl:=hX.1;have hYl:=hY.1;simp[-getElem?_pos,jG];refine yE 16 (fun i ev U=>ev 0=.ptr c.B 0/\ev 5=.ptr H.length 0/\ev 6=.ptr (H.length+1) 0/\ev 8=.ptr (H.length+2) 0/\ev 9=.ptr (H.length+3) 0/\ev 14=.int .i64 (i:Int) /\
  ∃ d' W cn',ev 3=.int .i64 (cn':Nat)/\BX c H d' U.H/\qW d d'/\qV d' W/\cn' < d'.length/\U.H[H.length]?=some (.cells (qp X))/\U.H[H.length+1]?=some (.cells (qp Y))/\(∃ Z,Z.length=16/\U.H[H.length+2]?=some (.cells Z))/\U.H[H.length+3]?=some (.cells (qp W)) /\
   (i<=15->∀ b,evD d' b cn'=V6 (qn d b X) (qn d b Y) (evD d b cn) i) /\
   ∀ b k,k<i->qn d' b W k=qmI (qn d b X) (qn d b Y) (evD d b cn) k) ?_ ?_ ?_
 . refine⟨by simp,by simp,by simp,by simp,by simp,by simp,d,q9,cn,by simp,h.app _,qW.refl d,km h.ok,hc,lk0,lk1,⟨_,qL,lk2⟩,lk3,fun _ b=>rfl,fun b k hk=>absurd hk (by omega)⟩
 . rintro i ev ⟨H1,T1⟩ R hR hi ⟨e0,e5,e6,e8,e9,e14,d1,W,cn1,e3,hx,hg,hW,hc1,hHX,hHY,⟨Z,hZ,hHZ⟩,hHW,hcar,hb⟩;obtain⟨x,hx1,hx2,hx3⟩:=hX.getG h.ok hg hi;obtain⟨y,hy1,hy2,hy3⟩:=hY.getG h.ok hg hi;simp only at hx hHX hHY hHZ hHW;have hWl:=hW.1;have hi':(i:Int)<16:=(by omega);have hi1:i+1<=16:=hi;have hdx:=zO hx1;have hdy:=zO hy1;have hw:=wr (n:=(i:Int)+1) (by omega) (by omega);simp[-getElem?_pos,e0,e3,e5,e6,e8,e9,e14,hi',hi,hi1];rw[qG rfl];simp[-getElem?_pos,qN,e0,e3,e5,e6,e8,e9,e14,hi',hi,hi1,hHX,hHY,hXl,hYl,hdx,hdy];refine qc.acall (V7 c hx.self hx2 hy2) ?_;rintro v ⟨H2,T2⟩ ⟨d2,z,rfl,hxx,hg2,hz,hv2⟩;dsimp only at hv2;have hk:∀ j,H.length+j≠c.B:=fun j=>(h.at (by omega)).1
   have hX2:=hxx.loc hHX (hk 0);have hY2:=hxx.loc hHY (hk 1);have hZ2:=hxx.loc hHZ (hk 2);have hW2:=hxx.loc hHW (hk 3);have hx2':=hx.call hxx;have hc2:=qqr hc1 hg2.len;simp[-getElem?_pos,e0,e3,e5,e6,e8,e9,e14,hi',hi,hi1];refine qc.acall (V7 c hx2'.self hz hc2) ?_;rintro v ⟨H3,T3⟩ ⟨d3,o,rfl,hxx3,hg3,ho,hv3⟩;dsimp only at hv3;have hX3:=hxx3.loc hX2 (hk 0);have hY3:=hxx3.loc hY2 (hk 1);have hZ3:=hxx3.loc hZ2 (hk 2);have hW3:=hxx3.loc hW2 (hk 3);have hx3':=hx2'.call hxx3;have hl3:=(qqc.1 hW3).1;have hx4:=hx3'.set (k:=H.length+3) (by omega) (.cells (qp (W.set i o)));have hX4:(H3.set (H.length+3) (.cells (qp (W.set i o))))[H.length]?=some (.cells (qp X)):=(by rw[qqf (by omega)];exact hX3);have hY4:(H3.set (H.length+3) (.cells (qp (W.set i o))))[H.length+1]?=some (.cells (qp Y)):=(by rw[qqf (by omega)];exact hY3);have hZ4:(H3.set (H.length+3) (.cells (qp (W.set i o))))[H.length+2]?=some (.cells Z):=(by rw[qqf (by omega)];exact hZ3);have hW4:(H3.set (H.length+3) (.cells (qp (W.set i o))))[H.length+3]?=some (.cells (qp (W.set i o))):=qqh hl3;have hg3':=hg.trans (hg2.trans hg3);have hWok:=(hW.grown (hg2.trans hg3)).set (k:=i) ho;have hcar1:=hcar (by omega);have hhv:∀ b,evD d2 b z=(qn d b X i ^^ qn d b Y i):=fun b=>by rw[hv2,hx3,hy3]
   have hov:∀ b,evD d3 b o=qmI (qn d b X) (qn d b Y) (evD d b cn) i:=fun b=>by
    rw[hv3,hhv,hg2.ev hx.ok b hc1,hcar1];rfl
   have hbits:∀ b k,k<i+1->qn d3 b (W.set i o) k=qmI (qn d b X) (qn d b Y) (evD d b cn) k:=fun b k hk=>by
    rw[wn (by omega)];by_cases hki:k=i
    . subst hki;rw[if_pos rfl,hov]
    . rw[if_neg hki,zC hx.ok (hg2.trans hg3) hW b (by omega),hb b k (by omega)]
   by_cases h15:i<15
   . have h15':(i:Int)<15:=(by omega);simp[-getElem?_pos,e0,e3,e5,e6,e8,e9,e14,hi',hi,hi1,hW3,hWl,yS,h15'];generalize H3.set (H.length+3) (.cells (qp (W.set i o)))=H4 at *;have hx2'':x<d3.length:=qqr hx2 (hg2.trans hg3).len;have hy2'':y<d3.length:=qqr hy2 (hg2.trans hg3).len;rw[qG rfl];simp[-getElem?_pos,qN,e0,e3,e5,e6,e8,e9,e14,hi',hi,hi1,hX4,hY4,hXl,hYl,hdx,hdy];refine qc.acall (Ql c hx4.self hx2'' hy2'') ?_;rintro v ⟨H5,T5⟩ ⟨d5,g,rfl,hxx5,hg5,hgl,hv5⟩;dsimp only at hv5;have hx5:=hx4.call hxx5;simp[-getElem?_pos,e0,e3,e5,e6,e8,e9,e14];refine qc.acall (Ql c hx5.self (f:=z) (g:=cn1) (qqr hz (hg3.trans hg5).len) (qqr hc2 (hg3.trans hg5).len)) ?_;rintro v ⟨H6,T6⟩ ⟨d6,hh,rfl,hxx6,hg6,hhl,hv6⟩;dsimp only at hv6;have hx6:=hx5.call hxx6;simp[-getElem?_pos,e0,e3,e5,e6,e8,e9,e14];refine qc.acall (qaN c hx6.self (f:=g) (g:=hh) (qqr hgl hg6.len) hhl) ?_;rintro v ⟨H7,T7⟩ ⟨d7,c7,rfl,hxx7,hg7,hc7,hv7⟩;dsimp only at hv7;have hx7:=hx6.call hxx7;simp[-getElem?_pos,e0,e3,e5,e6,e8,e9,e14,hw];have hgg:=hg5.trans (hg6.trans hg7);have up:∀ {k:Nat} {x:Blk},H4[H.length+k]?=some x->H7[H.length+k]?=some x:=fun {k x} hq=>hxx7.loc (hxx6.loc (hxx5.loc hq (hk k)) (hk k)) (hk k)
     refine hR _ _ ⟨by simp[e0],by simp[e5],by simp[e6],by simp[e8],by simp[e9],by simp,d7,W.set i o,c7,by simp,hx7,hg3'.trans hgg,hWok.grown hgg,hc7,up (k:=0) hX4,up hY4,⟨Z,hZ,up hZ4⟩,up hW4,fun _ b=>?_,fun b k hk=>?_⟩
     . rw[hv7,hg6.ev hx5.ok b hgl,hv5,hv6,(hg3.trans hg5).ev hx2'.ok b hz,(hg3.trans hg5).ev hx2'.ok b hc2,hhv,(hg2.trans hg3).ev hx.ok b hx2,(hg2.trans hg3).ev hx.ok b hy2,hx3,hy3,hg2.ev hx.ok b hc1,hcar1];rfl
     . rw[zC hx4.ok hgg hWok b (by omega),hbits b k hk]
   . have h15':¬ (i:Int)<15:=(by omega);simp[-getElem?_pos,e0,e3,e5,e6,e8,e9,e14,hi',hi,hi1,hW3,hWl,yS,h15',hw];generalize H3.set (H.length+3) (.cells (qp (W.set i o)))=H4 at *;refine hR _ _ ⟨by simp[e0],by simp[e5],by simp[e6],by simp[e8],by simp[e9],by simp,d3,W.set i o,cn1,by simp[e3],hx4,hg3',hWok,qqr hc2 hg3.len,hX4,hY4,⟨Z,hZ,hZ4⟩,hW4,fun hi=>absurd hi (by omega),hbits⟩
 . rintro ev ⟨H1,T1⟩ ⟨e0,e5,e6,e8,e9,e14,d1,W,cn1,e3,hx,hg,hW,hc1,hHX,hHY,⟨Z,hZ,hHZ⟩,hHW,hcar,hb⟩;simp only at hx hHX hHY hHZ hHW;have hWl:=hW.1;have hHl:=(qqc.1 hHZ).1;simp[-getElem?_pos,e0,e8,e9,e14,hHW,hHZ,hWl,qm hWl,ze hWl hZ,hZ,hHl];exact⟨d1,W,rfl,hx.set (by omega) _,hg,hW,fun b k hk=>hb b k hk⟩
end
end
section
theorem ZO {x x' y y':Nat->Bool}{c:Bool}:∀ {k:Nat},(∀ j,j<k->x j=x' j)->(∀ j,j<k->y j=y' j)->V6 x y c k=V6 x' y' c k
 | 0,_,_=>rfl
 | k+1,hx,hy=>by
  unfold V6;rw[hx k (by omega),hy k (by omega),ZO (k:=k) (fun j hj=>hx j (by omega)) (fun j hj=>hy j (by omega))]
section
variable {c:Bc}{d:List Nd}{H:List Blk}{T:List (Option Nat)}
theorem z4 (n:Nat):Pure Tryz.prog GG 207 [.int .i64 (n:Int)] (.agg (qp (n::List.replicate 15 0))):=by
 refine Pure.k qe Tryz.func207 rfl (by kernel_rfl) ?_;simp[-getElem?_pos,zn,zS];exact zu.refl _
def qkq:List (Nat×Sch×List Nat):=[(5,.step 0 [13,12] (.step 1 [13,12] (.step 2 [13,12,11] (.step 3 [13,12,11,10] (.step 4 [13,12,11,10,6,5] (.step 5 [13,12,11,10,6] (.step 6 [13,12,11,10] (.step 7 [13,12,11,10,9,8] (.step 8 [13,12,11,10,9] (.step 9 [13,12,11,10] (.step 10 [13,12,11] (.step 11 [13,12] (.step 12 [13] (.step 13 [] (.done)))))))))))))),[10,11,12])]
theorem Vu (h:BX c H d H){X Y:List Nat}(hX:qV d X)(hY:qV d Y) :
 qf Tryz.prog (XG c) 321 [.ptr c.B 0,.agg (qp X),.agg (qp Y)] ⟨H,T⟩ (NQ c d H fun b=>eqT (qn d b X) (qn d b Y) 16):=by
 refine qf.kO ⟨false,qkq,[],[]⟩ qe Tryz.func321 rfl (by kernel_rfl) ?_;have hXl:=hX.1;have hYl:=hY.1;have hk:∀ j,H.length+j≠c.B:=fun j=>(h.at (by omega)).1
 simp[-getElem?_pos];refine yE 16 (fun i ev U=>ev 0=.ptr c.B 0/\ev 4=.ptr H.length 0/\ev 5=.ptr (H.length+1) 0/\ev 9=.int .i64 (i:Int) /\
  ∃ d' t,ev 7=.int .i64 (t:Nat)/\BX c H d' U.H/\qW d d'/\t<d'.length/\U.H[H.length]?=some (.cells (qp X))/\U.H[H.length+1]?=some (.cells (qp Y)) /\
   ∀ b,evD d' b t=eqT (qn d b X) (qn d b Y) i) ?_ ?_ ?_
 . exact⟨by simp,by simp,by simp,by simp,d,1,by simp,h.app _,qW.refl d,by have:=h.ok.two;omega,lk0,lk1,fun b=>qc0 h.ok b⟩
 . rintro i ev ⟨H1,T1⟩ R hR hi ⟨e0,e4,e5,e9,d1,t,e7,hx,hg,ht,hHX,hHY,hv⟩;obtain⟨x,hx1,hx2,hx3⟩:=hX.getG h.ok hg hi;obtain⟨y,hy1,hy2,hy3⟩:=hY.getG h.ok hg hi;simp only at hx hHX hHY;have hi':(i:Int)<16:=(by omega);have hi1:i+1<=16:=hi;have hdx:=zO hx1;have hdy:=zO hy1;have hw:=wr (n:=(i:Int)+1) (by omega) (by omega);simp[-getElem?_pos,e9,hi'];rw[qG rfl];simp[-getElem?_pos,qN,e0,e4,e5,e7,hi',hi1,hHX,hHY,hXl,hYl,hdx,hdy];refine qc.acall (V7 c hx.self hx2 hy2) ?_;rintro v ⟨H2,T2⟩ ⟨d2,z,rfl,hxx2,hg2,hz,hv2⟩;dsimp only at hv2;have hx2':=hx.call hxx2;simp[-getElem?_pos,qN];refine qc.acall (Qj c hx2'.self hz) ?_;rintro v ⟨H3,T3⟩ ⟨d3,u,rfl,hxx3,hg3,hu,hv3⟩;dsimp only at hv3;have hx3':=hx2'.call hxx3;simp[-getElem?_pos,qN];have hg23:=hg2.trans hg3;refine qc.acall (Ql c hx3'.self (f:=t) (g:=u) (qqr ht hg23.len) hu) ?_;rintro v ⟨H4,T4⟩ ⟨d4,w,rfl,hxx4,hg4,hw4,hv4⟩;dsimp only at hv4;have hx4':=hx3'.call hxx4;have up:∀ {k:Nat} {x:Blk},H1[H.length+k]?=some x->H4[H.length+k]?=some x:=fun {k x} hq=>hxx4.loc (hxx3.loc (hxx2.loc hq (hk k)) (hk k)) (hk k)
   simp[-getElem?_pos,qN,e9,hw];refine hR _ _ ⟨by simp[e0],by simp[e4],by simp[e5],by simp,d4,w,by simp,hx4',hg.trans (hg23.trans hg4),hw4,up (k:=0) hHX,up hHY,fun b=>?_⟩;rw[hv4,hg23.ev hx.ok b ht,hv3,hv2,hv,hx3,hy3];rfl
 . rintro ev ⟨H1,T1⟩ ⟨e0,e4,e5,e9,d1,t,e7,hx,hg,ht,hHX,hHY,hv⟩;simp[-getElem?_pos,e7,e9];exact⟨d1,t,rfl,hx,hg,ht,hv⟩
def qkt:List (Nat×Sch×List Nat):=[(5,.step 0 [10,9] (.step 1 [10,9,5] (.step 2 [10,9,5,4,3] (.step 3 [10,9,5,4] (.step 4 [10,9,5] (.step 6 [10,9,8,7] (.step 7 [10,9,8] (.fork (.cons 5 (.step 8 [10,9] (.step 9 [10] (.step 10 [] (.done)))) (.cons 8 (.step 5 [10,9] (.step 9 [10] (.step 10 [] (.done)))) (.nil)))))))))),[5,9]),(6,.step 0 [13,12] (.step 1 [13,12,10] (.step 2 [13,12,10,9] (.step 3 [13,12,10,9,5,4] (.step 4 [13,12,10,9,5] (.step 5 [13,12,10,9] (.step 6 [13,12,10,9,8,7] (.step 7 [13,12,10,9,8] (.step 8 [13,12,10,9] (.step 11 [13,12] (.step 9 [13,12,10] (.step 10 [13,12] (.step 12 [13] (.step 13 [] (.done)))))))))))))),[9,10,12])]
theorem Vj (h:BX c H d H){X Y:List Nat}(hX:qV d X)(hY:qV d Y) :
 qf Tryz.prog (XG c) 274 [.ptr c.B 0,.agg (qp X),.agg (qp Y)] ⟨H,T⟩ (NQ c d H fun b=>qcJ (qn d b X) (qn d b Y) 16):=by
 refine qf.kO ⟨false,qkt,[],[]⟩ qe Tryz.func274 rfl (by kernel_rfl) ?_;have hXl:=hX.1;have hYl:=hY.1;have hk:∀ j,H.length+j≠c.B:=fun j=>(h.at (by omega)).1
 simp[-getElem?_pos];refine yE 16 (fun i ev U=>ev 0=.ptr c.B 0/\ev 4=.ptr H.length 0/\ev 5=.ptr (H.length+1) 0/\ev 11=.int .i64 (i:Int) /\
  ∃ d' t,ev 7=.int .i64 (t:Nat)/\BX c H d' U.H/\qW d d'/\t<d'.length/\U.H[H.length]?=some (.cells (qp X))/\U.H[H.length+1]?=some (.cells (qp Y)) /\
   ∀ b,evD d' b t=qcJ (qn d b X) (qn d b Y) i) ?_ ?_ ?_
 . exact⟨by simp,by simp,by simp,by simp,d,0,by simp,h.app _,qW.refl d,by have:=h.ok.two;omega,lk0,lk1,fun b=>Ju h.ok b⟩
 . rintro i ev ⟨H1,T1⟩ R hR hi ⟨e0,e4,e5,e11,d1,t,e7,hx,hg,ht,hHX,hHY,hv⟩;obtain⟨x,hx1,hx2,hx3⟩:=hX.getG h.ok hg hi;obtain⟨y,hy1,hy2,hy3⟩:=hY.getG h.ok hg hi;simp only at hx hHX hHY;have hi':(i:Int)<16:=(by omega);have hi1:i+1<=16:=hi;have hdx:=zO hx1;have hdy:=zO hy1;have hw:=wr (n:=(i:Int)+1) (by omega) (by omega);simp[-getElem?_pos,e11,hi'];rw[qG rfl];simp[-getElem?_pos,qN,e0,e4,e5,hi',hi1,hHX,hHY,hXl,hYl,hdx,hdy];have key:=Qj c hx.self hx2 (T:=T1);refine⟨qc.acall key ?_,qc.acall key ?_⟩
   all_goals
    rintro v ⟨H2,T2⟩ ⟨d2,z,rfl,hxx2,hg2,hz,hv2⟩;dsimp only at hv2;have hx2':=hx.call hxx2;have hX2:=hxx2.loc hHX (hk 0);have hY2:=hxx2.loc hHY (hk 1);dsimp only at hX2 hY2;simp[-getElem?_pos,qN,hi1,hY2,hYl,hdy];refine qc.acall (Ql c hx2'.self (f:=z) (g:=y) hz (qqr hy2 hg2.len)) ?_;rintro v ⟨H3,T3⟩ ⟨d3,u,rfl,hxx3,hg3,hu,hv3⟩;dsimp only at hv3;have hx3':=hx2'.call hxx3;have hX3:=hxx3.loc hX2 (hk 0);have hY3:=hxx3.loc hY2 (hk 1);dsimp only at hX3 hY3;have hg23:=hg2.trans hg3;simp[-getElem?_pos];rw[qG rfl];simp[-getElem?_pos,qN,e0,e4,e5,e7,hi',hi1,hX3,hY3,hXl,hYl,hdx,hdy];refine qc.acall (V7 c hx3'.self (f:=x) (g:=y) (qqr hx2 hg23.len) (qqr hy2 hg23.len)) ?_;rintro v ⟨H4,T4⟩ ⟨d4,q,rfl,hxx4,hg4,hq,hv4⟩;dsimp only at hv4;have hx4':=hx3'.call hxx4;simp[-getElem?_pos,qN];refine qc.acall (Qj c hx4'.self hq) ?_;rintro v ⟨H5,T5⟩ ⟨d5,nq,rfl,hxx5,hg5,hnq,hv5⟩;dsimp only at hv5;have hx5':=hx4'.call hxx5;simp[-getElem?_pos,qN];have hg35:=hg4.trans hg5;have hg15:=hg23.trans hg35;refine qc.acall (Ql c hx5'.self (f:=nq) (g:=t) hnq (qqr ht hg15.len)) ?_;rintro v ⟨H6,T6⟩ ⟨d6,a6,rfl,hxx6,hg6,ha6,hv6⟩;dsimp only at hv6;have hx6':=hx5'.call hxx6;simp[-getElem?_pos,qN,e0];have hg36:=hg35.trans hg6;refine qc.acall (qaN c hx6'.self (f:=u) (g:=a6) (qqr hu hg36.len) ha6) ?_;rintro v ⟨H7,T7⟩ ⟨d7,a7,rfl,hxx7,hg7,ha7,hv7⟩;dsimp only at hv7;have hx7':=hx6'.call hxx7;have up:∀ {k:Nat} {x:Blk},H3[H.length+k]?=some x->H7[H.length+k]?=some x:=fun {k x} hq=>hxx7.loc (hxx6.loc (hxx5.loc (hxx4.loc hq (hk k)) (hk k)) (hk k)) (hk k)
    simp[-getElem?_pos,e11,hw];refine hR _ _ ⟨by simp[e0],by simp[e4],by simp[e5],by simp,d7,a7,by simp,hx7',hg.trans (hg15.trans (hg6.trans hg7)),ha7,up (k:=0) hX3,up hY3,fun b=>?_⟩;rw[hv7,hg36.ev hx3'.ok b hu,hv3,hv2,hg2.ev hx.ok b hy2,hv6,hv5,hv4,hg23.ev hx.ok b hx2,hg23.ev hx.ok b hy2,hg15.ev hx.ok b ht,hv,hx3,hy3];rfl
 . rintro ev ⟨H1,T1⟩ ⟨e0,e4,e5,e11,d1,t,e7,hx,hg,ht,hHX,hHY,hv⟩;simp[-getElem?_pos,e7,e11];exact⟨d1,t,rfl,hx,hg,ht,hv⟩
def qkA:List (Nat×Sch×List Nat):=[(1,.step 0 [6,5] (.step 2 [6,5,4] (.step 3 [6,5,4] (.fork (.cons 1 (.step 4 [6,5] (.step 5 [6] (.step 6 [] (.done)))) (.cons 4 (.step 1 [6,5] (.step 5 [6] (.step 6 [] (.done)))) (.nil)))))),[4,5])]
theorem Zb (h:BX c H d H){X Y:List Nat}(hX:qV d X)(hY:qV d Y) :
 qf Tryz.prog (XG c) 210 [.ptr c.B 0,.agg (qp X),.agg (qp Y)] ⟨H,T⟩ (BQ c d H fun b=>qmI (qn d b X) (fun k=>!qn d b Y k) true):=by
 refine qf.kO ⟨false,qkA,[],[]⟩ qe Tryz.func210 rfl (by kernel_rfl) ?_;have hXl:=hX.1;have hYl:=hY.1;have hk:∀ j,H.length+j≠c.B:=fun j=>(h.at (by omega)).1
 simp[-getElem?_pos];rw[qG rfl,jo];have hx1:=h.app [.cells (qp X),.cells (qp Y),.cells (qp q9)];have hHX:(H++[Blk.cells (qp X),.cells (qp Y),.cells (qp q9)])[H.length]?=some (.cells (qp X)):=lk0;have hHY:(H++[Blk.cells (qp X),.cells (qp Y),.cells (qp q9)])[H.length+1]?=some (.cells (qp Y)):=lk1;have hHZ:(H++[Blk.cells (qp X),.cells (qp Y),.cells (qp q9)])[H.length+2]?=some (.cells (qp q9)):=lk2;generalize H++[Blk.cells (qp X),.cells (qp Y),.cells (qp q9)]=H1 at *;simp[-getElem?_pos,qN,hHX,hHY,hXl,hYl,qm hXl,qm hYl];have key:=Ze hx1.self hY (T:=T);refine⟨qc.acall key ?_,qc.acall key ?_⟩
 all_goals
  rintro v ⟨H2,T2⟩ ⟨d2,W,rfl,hxx2,hg2,hW,hv2⟩;dsimp only at hv2;have hx2':=hx1.call hxx2;have hX2:=hxx2.loc hHX (hk 0);have hZ2:=hxx2.loc hHZ (hk 2);dsimp only at hX2 hZ2;simp[-getElem?_pos,qN,hX2,hXl,qm hXl];have ht:=hx2'.ok.two;refine qc.acall (qdF hx2'.self (hX.grown hg2) hW (cn:=1) (by omega)) ?_;rintro v ⟨H3,T3⟩ ⟨d3,V,rfl,hxx3,hg3,hV,hv3⟩;dsimp only at hv3;have hx3':=hx2'.call hxx3;have hZ3:=hxx3.loc hZ2 (hk 2);dsimp only at hZ3;have hVl:=hV.1;have hl3:=(qqc.1 hZ3).1;simp[-getElem?_pos,qN,hZ3,hVl,qm hVl,ze hVl (show (qp q9).length=16 from rfl),qL,hl3];refine⟨d3,V,rfl,hx3'.set (by omega) _,hg2.trans hg3,hV,fun b k hk=>?_⟩;rw[hv3 b k hk];unfold qmI;rw[hv2 b k hk,zC h.ok hg2 hX b hk,qc0 hx2'.ok];congr 1;exact ZO (fun j hj=>zC h.ok hg2 hX b (by omega)) (fun j hj=>hv2 b j (by omega))
end
end
section
def UQ (c:Bc)(d:List Nd)(H:List Blk)(v:(Nat->Bool)->Nat)(r:AV)(U':St):Prop :=
 ∃ d' W,r=.agg (qp W)/\BX c H d' U'.H/\qW d d'/\qV d' W/\∀ b,zg (qn d' b W) 16=v b
theorem qeI:((List.range 16).map fun k=>if Nat.testBit 0 k=true then 1 else 0)=q9:=by decide
theorem kU {d d':List Nd}(hd:DagOk d)(hg:qW d d'){w:List Nat}(h:qV d w)(b:Nat->Bool):zg (qn d' b w) 16=zg (qn d b w) 16:=zh fun k hk=>zC hd hg h b hk
section
variable {c:Bc}{d:List Nd}{H:List Blk}{T:List (Option Nat)}
def qks:List (Nat×Sch×List Nat):=[(9,.step 0 [12,11] (.step 1 [12,11,10] (.step 2 [12,11,10,6,5,4] (.step 3 [12,11,10,6,5,4] (.step 4 [12,11,10,6,5] (.step 5 [12,11,10,6] (.step 6 [12,11,10] (.step 7 [12,11,10,9,8] (.step 8 [12,11,10,9] (.step 9 [12,11,10] (.step 10 [12,11] (.step 11 [12] (.step 12 [] (.done))))))))))))),[10])]
theorem qfv (h:BX c H d H){X Y:List Nat}(hX:qV d X)(hY:qV d Y) :
 qf Tryz.prog (XG c) 277 [.ptr c.B 0,.agg (qp X),.agg (qp Y)] ⟨H,T⟩ (UQ c d H fun b=>qoV (zg (qn d b X) 16) (qn d b Y) 16 16):=by
 refine qf.kO ⟨false,qks,[],[]⟩ qe Tryz.func277 rfl (by kernel_rfl) ?_;have hXl:=hX.1;have hYl:=hY.1;have hk:∀ j,H.length<=j->j≠c.B:=fun j hj=>(h.at hj).1
 have hc0:=jW 0 (by omega);rw[qeI]at hc0;simp only[qrn]at hc0;simp[-getElem?_pos];refine qc.call hc0 (by simp) ?_;simp[-getElem?_pos,jo,ze (w:=q9) rfl (show (qp q9).length=16 from rfl),qL];refine yE 16 (fun i ev U=>ev 0=.ptr c.B 0/\ev 4=.ptr H.length 0/\ev 5=.ptr (H.length+1) 0/\ev 6=.ptr (H.length+2) 0/\ev 7=.ptr (H.length+3) 0/\ev 12=.int .i64 (i:Int) /\
  ∃ d' S,BX c H d' U.H/\qW d d'/\qV d' S/\U.H[H.length]?=some (.cells (qp X))/\U.H[H.length+1]?=some (.cells (qp Y))/\U.H[H.length+2]?=some (.cells (qp q9))/\U.H[H.length+3]?=some (.cells (qp S)) /\
   ∀ b,zg (qn d' b S) 16=qoV (zg (qn d b X) 16) (qn d b Y) 16 i) ?_ ?_ ?_
 . refine⟨by simp,by simp,by simp,by simp,by simp,by simp,d,q9,h.app _,qW.refl d,km h.ok,lk0,lk1,lk2,lk3,fun b=>?_⟩
   . rw[yZ fun k _=>yT h.ok b k];rfl
 . rintro i ev ⟨H1,T1⟩ R hR hi ⟨e0,e4,e5,e6,e7,e12,d1,S,hx,hg,hS,hHX,hHY,hHZ,hHS,hv⟩;obtain⟨y,hy1,hy2,hy3⟩:=hY.getG h.ok hg hi;dsimp only at hx hHX hHY hHZ hHS;have hi':(i:Int)<16:=(by omega);have hi1:i+1<=16:=hi;have hdy:=zO hy1;have hw:=wr (n:=(i:Int)+1) (by omega) (by omega);have hHl:=hx.kp.1;simp[-getElem?_pos,e12,hi',jo];have hx0:=hx.app [.cells (qp q9)];have aHX:=qa hHX [.cells (qp q9)];have aHY:=qa hHY [.cells (qp q9)];have aHZ:=qa hHZ [.cells (qp q9)];have aHS:=qa hHS [.cells (qp q9)];have aHP:(H1++[Blk.cells (qp q9)])[H1.length]?=some (.cells (qp q9)):=lk0;have hSl:=(qqc.1 hHS).1;have hPn:H.length+3<H1.length:=hSl;generalize H1.length=N at *;generalize H1++[Blk.cells (qp q9)]=H1' at *;refine qX.gen (fun n ev U=>ev 0=.ptr c.B 0/\ev 4=.ptr H.length 0/\ev 5=.ptr (H.length+1) 0/\ev 6=.ptr (H.length+2) 0/\ev 7=.ptr (H.length+3) 0/\ev 8=.int .i64 (i:Int)/\ev 9=.ptr N 0/\ev 12=.int .i64 (i:Int) /\
    ∃ j d' P,n=16-j/\i<=j/\j<=16/\ev 10=.int .i64 (j:Int)/\BX c H d' U.H/\qW d1 d'/\qV d' P/\U.H[H.length]?=some (.cells (qp X))/\U.H[H.length+1]?=some (.cells (qp Y))/\U.H[H.length+2]?=some (.cells (qp q9))/\U.H[H.length+3]?=some (.cells (qp S))/\U.H[N]?=some (.cells (qp P)) /\
    ∀ b k,k<16->qn d' b P k=(decide (k<j)&&(qn d b Y i&&(decide (i<=k)&&qn d b X (k-i))))) (16-i) ?_ ?_
   . refine⟨by simp[e0],by simp[e4],by simp[e5],by simp[e6],by simp[e7],by simp,by simp,by simp[e12],i,d1,q9,rfl,qqn _,by omega,by simp,hx0,qW.refl d1,km hx.ok,aHX,aHY,aHZ,aHS,aHP,fun b k hk=>?_⟩;rw[yT hx.ok];by_cases h1:k<i
     . have:¬ i<=k:=by omega
       simp[this]
     . simp[h1]
   . rintro n ev ⟨H2,T2⟩ R2 hR2 ⟨e0,e4,e5,e6,e7,e8,e9,e12,j,d2,P,rfl,hij,hj16,e10,hx2,hg2,hP,bX,bY,bZ,bS,bP,hb⟩;dsimp only at hx2 bX bY bZ bS bP;have hPl:=hP.1;have hSl2:=hS.1;have hg02:=hg.trans hg2;by_cases hj:j<16
     . have hj':(j:Int)<16:=(by omega);have hj1:j+1<=16:=hj;have hwj:=wr (n:=(j:Int)+1) (by omega) (by omega);have hwd:=wr (n:=(j:Int)-i) (by omega) (by omega);have hsub:(j:Int)-i=((j-i:Nat):Int):=(by omega);rw[hsub]at hwd;have hjl:j-i<16:=(by omega);have hjl1:j-i+1<=16:=(by omega);have hjl2:((j-i:Nat):Int)<16:=(by omega);obtain⟨x,hx1,hx2',hx3⟩:=hX.getG h.ok hg02 hjl;have hdx:=zO hx1;have hyl:y<d2.length:=qqr hy2 hg2.len;have hki:¬ j<i:=(by omega);generalize hm:j-i=m at *;simp[-getElem?_pos,e10,hj'];rw[qG rfl];simp[-getElem?_pos,qN,e0,e4,e5,e8,e10,hi',hi1,hsub,hwd,hjl1,hjl2,bX,bY,hXl,hYl,hdx,hdy];refine qc.acall (Ql c hx2.self hx2' hyl) ?_;rintro v ⟨H3,T3⟩ ⟨d3,z,rfl,hxx3,hg3,hz,hv3⟩;dsimp only at hv3;have hx3':=hx2.call hxx3;have up:∀ {k:Nat} {x:Blk},H.length<=k->H2[k]?=some x->H3[k]?=some x:=fun {k x} hl hq=>hxx3.loc hq (hk k hl)
       have cP:=up (by omega) bP;have hPl3:=(qqc.1 cP).1;simp[-getElem?_pos,qN,e9,e10,hj',hj1,cP,hPl,yS,hwj];refine hR2 (16-(j+1)) _ _ (by omega) ⟨by simp[e0],by simp[e4],by simp[e5],by simp[e6],by simp[e7],by simp[e8],by simp[e9],by simp[e12],j+1,d3,P.set j z,rfl,by omega,by omega,by simp,hx3'.set (by omega) _,hg2.trans hg3,(hP.grown hg3).set hz,?_,?_,?_,?_,qqh hPl3,fun b k hk=>?_⟩
       . rw[qqf (by omega)];exact up (by omega) bX
       . rw[qqf (by omega)];exact up (by omega) bY
       . rw[qqf (by omega)];exact up (by omega) bZ
       . rw[qqf (by omega)];exact up (by omega) bS
       . rw[wn (by omega)];by_cases hkj:k=j
         . subst hkj;rw[if_pos rfl,hv3,hx3,hg2.ev hx.ok b hy2,hy3,hm];simp[hij,Bool.and_comm]
         . rw[if_neg hkj,zC hx2.ok hg3 hP b hk,hb b k hk];by_cases h1:k<j
           . have h2:k<j+1:=(by omega);simp[h1,h2]
           . have h2:¬ k<j+1:=(by omega);simp[h1,h2]
     . have hj0:j=16:=(by omega);subst hj0;simp[-getElem?_pos,e0,e7,e9,e10,bS,bP,hSl2,hPl,qm hSl2,qm hPl];have ht:=hx2.ok.two;have hSS:=hS.grown hg2;refine qc.acall (qdF hx2.self hSS hP (cn:=0) (by omega)) ?_;rintro v ⟨H3,T3⟩ ⟨d3,V,rfl,hxx3,hg3,hV,hv3⟩;dsimp only at hv3;have hx3':=hx2.call hxx3;have up:∀ {k:Nat} {x:Blk},H.length<=k->H2[k]?=some x->H3[k]?=some x:=fun {k x} hl hq=>hxx3.loc hq (hk k hl)
       have cS:=up (by omega) bS;have hSl3:=(qqc.1 cS).1;have hVl:=hV.1;simp[-getElem?_pos,e7,e12,cS,hVl,hSl2,ze hVl (show (qp S).length=16 by rw[jm,hSl2]),hw];refine hR _ _ ⟨by simp[e0],by simp[e4],by simp[e5],by simp[e6],by simp[e7],by simp,d3,V,hx3'.set (by omega) _,hg02.trans hg3,hV,?_,?_,?_,qqh hSl3,fun b=>?_⟩
       . rw[qqf (by omega)];exact up (by omega) bX
       . rw[qqf (by omega)];exact up (by omega) bY
       . rw[qqf (by omega)];exact up (by omega) bZ
       . have hs:zg (qn d3 b V) 16=zg (fun k=>(qn d2 b S k ^^ qn d2 b P k) ^^ V6 (qn d2 b S) (qn d2 b P) false k) 16:=zh fun k hk=>by rw[hv3 b k hk,Ju hx2.ok];rfl
         have hp:zg (qn d2 b P) 16=cond (qn d b Y i) ((zg (qn d b X) 16*2 ^ i) % 2 ^ 16) 0:=by
          cases hy:qn d b Y i with
          | true=>
           rw[cond_true,<- qgJ];exact zh fun k hk=>by rw[hb b k hk,hy];simp[hk]
          | false=>
           rw[cond_false];exact yZ fun k hk=>by rw[hb b k hk,hy];simp
         rw[hs,kq,hp,kU hx.ok hg2 hS b,hv b];simp[qoV,b2n]
 . rintro ev ⟨H1,T1⟩ ⟨e0,e4,e5,e6,e7,e12,d1,S,hx,hg,hS,hHX,hHY,hHZ,hHS,hv⟩;dsimp only at hx hHX hHY hHZ hHS;have hSl:=hS.1;have hHl:=(qqc.1 hHZ).1;simp[-getElem?_pos,e6,e7,e12,hHS,hHZ,hSl,qm hSl,ze hSl (show (qp q9).length=16 from rfl),qL,hHl];exact⟨d1,S,rfl,hx.set (by omega) _,hg,hS,hv⟩
end
end
section
section
variable {c:Bc}{d:List Nd}{H:List Blk}{T:List (Option Nat)}
def qkx:List (Nat×Sch×List Nat):=[(4,.step 0 [10,9] (.step 1 [10,9,8] (.step 2 [10,9,8,4,3] (.step 3 [10,9,8,4] (.step 4 [10,9,8] (.step 5 [10,9,8,7,6] (.step 6 [10,9,8,7] (.step 7 [10,9,8] (.step 8 [10,9] (.step 9 [10] (.step 10 [] (.done))))))))))),[8])]
theorem JE (h:BX c H d H){X Y:List Nat}(hX:qV d X)(hY:qV d Y){g:Nat}{first cap:List AV}{F:(Nat->Bool)->Bool->Bool->Bool}
 (hF:∀ d1 H1 T1 (x y:Nat),BX c H d1 H1->qW d d1->x<d1.length->y<d1.length->qf Tryz.prog (XG c) g (jS first [.int .i64 x,.int .i64 y] cap) ⟨H1,T1⟩ (NQ c d1 H1 fun b=>F b (evD d1 b x) (evD d1 b y))) :
 qf Tryz.prog (XG c) 213 [.agg (qp X),.agg (qp Y),.fn g first cap] ⟨H,T⟩ (BQ c d H fun b k=>F b (qn d b X k) (qn d b Y k)):=by
 refine qf.kO ⟨false,qkx,[],[]⟩ qe Tryz.func213 rfl (by kernel_rfl) ?_;have hXl:=hX.1;have hYl:=hY.1;have hk:∀ j,H.length<=j->j≠c.B:=fun j hj=>(h.at hj).1
 simp[-getElem?_pos,jG,jo];refine yE 16 (fun i ev U=>ev 2=.fn g first cap/\ev 3=.ptr H.length 0/\ev 4=.ptr (H.length+1) 0/\ev 6=.ptr (H.length+2) 0/\ev 8=.int .i64 (i:Int) /\
  ∃ d' W,BX c H d' U.H/\qW d d'/\qV d' W/\U.H[H.length]?=some (.cells (qp W))/\U.H[H.length+1]?=some (.cells (qp Y))/\U.H[H.length+2]?=some (.cells (qp q9)) /\
   ∀ b k,k<16->qn d' b W k=if k<i then F b (qn d b X k) (qn d b Y k) else qn d b X k) ?_ ?_ ?_
 . exact⟨by simp,by simp,by simp,by simp,by simp,d,X,h.app _,qW.refl d,hX,lk0,lk1,lk2,fun b k hk=>by simp⟩
 . rintro i ev ⟨H1,T1⟩ R hR hi ⟨e2,e3,e4,e6,e8,d1,W,hx,hg,hW,hHX,hHY,hHZ,hb⟩;obtain⟨x,hx1,hx2,_,hx3⟩:=hW.get hi;obtain⟨y,hy1,hy2,hy3⟩:=hY.getG h.ok hg hi;dsimp only at hx hHX hHY hHZ;have hWl:=hW.1;have hi':(i:Int)<16:=(by omega);have hi1:i+1<=16:=hi;have hdx:=zO hx1;have hdy:=zO hy1;have hw:=wr (n:=(i:Int)+1) (by omega) (by omega);simp[-getElem?_pos,e2,e3,e4,e6,e8,hi',hi,hi1];rw[qG rfl];simp[-getElem?_pos,-jS,qN,e2,e3,e4,e6,e8,hi',hi,hi1,hHX,hHY,hWl,hYl,hdx,hdy];refine qc.acall (hF d1 H1 T1 x y hx hg hx2 hy2) ?_;rintro v ⟨H2,T2⟩ ⟨d2,z,rfl,hxx2,hg2,hz,hv2⟩;dsimp only at hv2;have hx2':=hx.call hxx2;have up:∀ {k:Nat} {x:Blk},H.length<=k->H1[k]?=some x->H2[k]?=some x:=fun {k x} hl hq=>hxx2.loc hq (hk k hl)
   have cX:=up (by omega) hHX;have hl2:=(qqc.1 cX).1;simp[-getElem?_pos,qN,e2,e3,e4,e6,e8,hi',hi,hi1,cX,hWl,yS,hw];refine hR _ _ ⟨by simp[e2],by simp[e3],by simp[e4],by simp[e6],by simp,d2,W.set i z,hx2'.set (by omega) _,hg.trans hg2,(hW.grown hg2).set hz,qqh hl2,?_,?_,fun b k hk=>?_⟩
   . rw[qqf (by omega)];exact up (by omega) hHY
   . rw[qqf (by omega)];exact up (by omega) hHZ
   . rw[wn (by omega)];by_cases hki:k=i
     . subst hki;have hbk:=hb b k hk;rw[if_neg (by omega)]at hbk;rw[if_pos rfl,if_pos (by omega),hv2,hy3,<- hx3,hbk]
     . rw[if_neg hki,zC hx.ok hg2 hW b hk,hb b k hk];by_cases h1:k<i
       . rw[if_pos h1,if_pos (by omega)]
       . rw[if_neg h1,if_neg (by omega)]
 . rintro ev ⟨H1,T1⟩ ⟨e2,e3,e4,e6,e8,d1,W,hx,hg,hW,hHX,hHY,hHZ,hb⟩;dsimp only at hx hHX hHY hHZ;have hWl:=hW.1;have hHl:=(qqc.1 hHZ).1;simp[-getElem?_pos,e3,e6,e8,hHX,hHZ,hWl,qm hWl,ze hWl (show (qp q9).length=16 from rfl),qL,hHl];exact⟨d1,W,rfl,hx.set (by omega) _,hg,hW,fun b k hk=>by rw[hb b k hk,if_pos hk]⟩
def qkz:List (Nat×Sch×List Nat):=[(5,.step 0 [5,4] (.step 1 [5,4] (.step 2 [5,4,3] (.step 3 [5,4] (.step 4 [5] (.step 5 [] (.done)))))),[4])]
theorem qaQ {d:List Nd}(h:DagOk d){n:Nat}(hn:n<d.length):qV d (n::List.replicate 15 0):=⟨rfl,fun i hi=>by
 rcases qqE.1 hi with rfl|hi
 . exact hn
 . rw[qrH]at hi;rw[hi.2];have:=h.two;omega⟩
theorem qeb {d:List Nd}(h:DagOk d)(b:Nat->Bool)(n k:Nat):qn d b (n::List.replicate 15 0) k=(decide (k=0)&&evD d b n):=by
 unfold qn
 cases k with
 | zero=>simp
 | succ k=>
  have:(n::List.replicate 15 0).getD (k+1) 0=0:=by
   simp only[qqm,qsr,qs0];split<;>rfl
  rw[this,Ju h];simp
theorem qoG (h:BX c H d H){X:List Nat}(hX:qV d X) :
 qf Tryz.prog (XG c) 211 [.ptr c.B 0,.agg (qp X)] ⟨H,T⟩ (UQ c d H fun b=>W5 (qn d b X) 16):=by
 refine qf.kO ⟨false,qkz,[],[]⟩ qe Tryz.func211 rfl (by kernel_rfl) ?_;have hXl:=hX.1;have hk:∀ j,H.length<=j->j≠c.B:=fun j hj=>(h.at hj).1
 have hc0:=jW 0 (by omega);rw[qeI]at hc0;simp only[qrn]at hc0;simp[-getElem?_pos,jG];refine qc.call hc0 (by simp) ?_;simp[-getElem?_pos,jG,hXl,qm hXl,jo,ze (w:=q9) rfl (show (qp q9).length=16 from rfl),qL];refine yE 16 (fun i ev U=>ev 0=.ptr c.B 0/\ev 4=.ptr (H.length+1) 0/\ev 5=.ptr (H.length+2) 0/\ev 9=.agg (qp X)/\ev 10=.int .i64 (i:Int) /\
  ∃ d' S,BX c H d' U.H/\qW d d'/\qV d' S/\U.H[H.length+1]?=some (.cells (qp q9))/\U.H[H.length+2]?=some (.cells (qp S)) /\
   ∀ b,zg (qn d' b S) 16=W5 (qn d b X) i) ?_ ?_ ?_
 . exact⟨by simp,by simp,by simp,by simp,by simp,d,q9,h.app _,qW.refl d,km h.ok,lk1,lk2,fun b=>by rw[yZ fun k _=>yT h.ok b k];rfl⟩
 . rintro i ev ⟨H1,T1⟩ R hR hi ⟨e0,e4,e5,e9,e10,d1,S,hx,hg,hS,hHZ,hHS,hv⟩;obtain⟨x,hx1,hx2,hx3⟩:=hX.getG h.ok hg hi;dsimp only at hx hHZ hHS;have hSl:=hS.1;have hi':(i:Int)<16:=(by omega);have hi1:i+1<=16:=hi;have hdx:=zO hx1;have hw:=wr (n:=(i:Int)+1) (by omega) (by omega);simp[-getElem?_pos,e0,e4,e5,e9,e10,hi',hi,hi1,hXl,hdx];rw[qG rfl];simp[-getElem?_pos,qN,e0,e4,e5,e9,e10,hHS,hSl,qm hSl];refine qc.call (z4 x) (by simp) ?_;simp[-getElem?_pos,qN,e0,e4,e5,e9,e10];have ht:=hx.ok.two;have h1:=qaQ hx.ok hx2;have hs:=qdF hx.self hS h1 (cn:=0) (T:=T1) (by omega);simp only[List.reduceReplicate,qrn]at hs;refine qc.acall hs ?_;rintro v ⟨H2,T2⟩ ⟨d2,V,rfl,hxx2,hg2,hV,hv2⟩;dsimp only at hv2;have hx2':=hx.call hxx2;have up:∀ {k:Nat} {x:Blk},H.length<=k->H1[k]?=some x->H2[k]?=some x:=fun {k x} hl hq=>hxx2.loc hq (hk k hl)
   have cS:=up (by omega) hHS;have hl2:=(qqc.1 cS).1;have hVl:=hV.1;simp[-getElem?_pos,qN,e0,e4,e5,e9,e10,cS,hVl,hSl,ze hVl (show (qp S).length=16 by rw[jm,hSl]),hw];refine hR _ _ ⟨by simp[e0],by simp[e4],by simp[e5],by simp[e9],by simp,d2,V,hx2'.set (by omega) _,hg.trans hg2,hV,?_,qqh hl2,fun b=>?_⟩
   . rw[qqf (by omega)];exact up (by omega) hHZ
   . have e1:zg (qn d2 b V) 16=zg (fun k=>(qn d1 b S k ^^ (decide (k=0)&&evD d1 b x)) ^^ V6 (qn d1 b S) (fun k=>decide (k=0)&&evD d1 b x) false k) 16:=zh fun k hk=>by
      rw[hv2 b k hk,Ju hx.ok];have:=qeb hx.ok b x;simp only[List.reduceReplicate]at this;unfold qmI;rw[this k,ZO (x':=qn d1 b S) (y':=fun k=>decide (k=0)&&evD d1 b x) (fun j _=>rfl) (fun j _=>this j)]
     rw[e1,kq,WN _ 15,hv b,hx3];have:=qd8 (qn d b X) i;have h2:b2n (qn d b X i)<=1:=(by cases qn d b X i<;>simp[b2n]);show (W5 _ i+b2n _+0) % 2 ^ 16=W5 _ i+b2n _;rw[qrl];exact qsd (by omega)
 . rintro ev ⟨H1,T1⟩ ⟨e0,e4,e5,e9,e10,d1,S,hx,hg,hS,hHZ,hHS,hv⟩;dsimp only at hx hHZ hHS;have hSl:=hS.1;have hHl:=(qqc.1 hHZ).1;simp[-getElem?_pos,e0,e4,e5,e10,hHS,hHZ,hSl,qm hSl,ze hSl (show (qp q9).length=16 from rfl),qL,hHl];exact⟨d1,S,rfl,hx.set (by omega) _,hg,hS,hv⟩
end
end
section
def shB (up:Bool)(x:Nat->Bool)(s k:Nat):Bool:=if up=true then decide (s<=k)&&x (k-s) else decide (k+s<16)&&x (k+s)
def qeH (up:Bool):Int:=if up=true then 1 else -1
def Jt (up:Bool)(s k:Nat):Int:=(k:Int)-qeH up*s
theorem qpf {up:Bool}{s k:Nat}(hs:s<16)(hk:k<16)(h:0<=Jt up s k/\Jt up s k<16):∃ m:Nat,Jt up s k=m/\m<16/\∀ x,shB up x s k=x m:=by
 unfold Jt qeH shB at *
 cases up with
 | true=>
  simp at h⊢;exact⟨k-s,by omega,by omega,fun x=>by
   have:s<=k:=by omega
   simp[this]⟩
 | false=>
  simp at h⊢;exact⟨k+s,by omega,by omega,fun x=>by
   have:k+s<16:=by omega
   simp[this]⟩
theorem qpg {up:Bool}{s k:Nat}(hs:s<16)(hk:k<16)(h:¬ (0<=Jt up s k/\Jt up s k<16)):∀ x,shB up x s k=false:=by
 unfold Jt qeH shB at *;intro x
 cases up with
 | true=>
  simp at h⊢;intro h1;omega
 | false=>
  simp at h⊢;intro h1;omega
theorem Ka {d:List Nd}(h:DagOk d)(n:Nat):qV d ((List.range 16).map fun k=>if n.testBit k=true then 1 else 0):=⟨by simp,fun i hi=>by
 obtain⟨k,_,rfl⟩:=qqG.1 hi;have:=h.two;split<;>omega⟩
theorem qc5 {d:List Nd}(h:DagOk d)(b:Nat->Bool)(n:Nat){k:Nat}(hk:k<16):qn d b ((List.range 16).map fun k=>if n.testBit k=true then 1 else 0) k=n.testBit k:=by
 unfold qn;have:((List.range 16).map fun k=>if n.testBit k=true then 1 else 0).getD k 0=if n.testBit k=true then 1 else 0:=by
  rw[qqm,qqB,qsL hk];rfl
 rw[this]
 cases n.testBit k with
 | true=>simpa using qc0 h b
 | false=>simpa using Ju h b
theorem ZM {d:List Nd}(h:DagOk d)(b:Nat->Bool){n:Nat}(hn:n<65536):zg (qn d b ((List.range 16).map fun k=>if n.testBit k=true then 1 else 0)) 16=n:=by
 rw[zh fun k hk=>qc5 h b n hk,ZY];exact qsd hn
section
variable {c:Bc}{d:List Nd}{H:List Blk}{T:List (Option Nat)}
def qkr:List (Nat×Sch×List Nat):=[(5,.step 0 [5,4] (.step 1 [5,4] (.step 2 [5,4,3] (.step 3 [5,4] (.step 4 [5] (.step 5 [] (.done)))))),[4]),(11,.step 0 [13,12] (.step 1 [13,12,11] (.step 2 [13,12,11,4,3] (.step 3 [13,12,11,4] (.step 5 [13,12,11,10] (.step 6 [13,12,11,10] (.step 7 [13,12,11,10,9,8] (.step 8 [13,12,11,10,9] (.step 9 [13,12,11,10] (.fork (.cons 4 (.step 10 [13,12,11] (.step 11 [13,12] (.step 12 [13] (.step 13 [] (.done))))) (.cons 10 (.step 4 [13,12,11] (.step 11 [13,12] (.step 12 [13] (.step 13 [] (.done))))) (.nil)))))))))))),[10,11])]
theorem qdN (h:BX c H d H){X Y:List Nat}(hX:qV d X)(hY:qV d Y)(up:Bool) :
 qf Tryz.prog (XG c) 279 [.ptr c.B 0,.agg (qp X),.agg (qp Y),.int .i64 (qeH up)] ⟨H,T⟩ (BQ c d H fun b k=>decide (zg (qn d b Y) 16<16)&&shB up (qn d b X) (zg (qn d b Y) 16) k):=by
 refine qf.kO ⟨false,qkr,[],[]⟩ qe Tryz.func279 rfl (by kernel_rfl) ?_;have hXl:=hX.1;have hYl:=hY.1;have hk:∀ j,H.length<=j->j≠c.B:=fun j hj=>(h.at hj).1
 have hc0:=jW 0 (by omega);rw[qeI]at hc0;simp only[qrn]at hc0;simp[-getElem?_pos];refine qc.call hc0 (by simp) ?_;simp[-getElem?_pos,jo,ze (w:=q9) rfl (show (qp q9).length=16 from rfl),qL];refine yE 16 (fun s ev U=>ev 0=.ptr c.B 0/\ev 3=.int .i64 (qeH up)/\ev 5=.ptr H.length 0/\ev 6=.ptr (H.length+1) 0/\ev 8=.ptr (H.length+2) 0/\ev 9=.ptr (H.length+3) 0/\ev 15=.int .i64 (s:Int) /\
  ∃ d' S,BX c H d' U.H/\qW d d'/\qV d' S/\U.H[H.length]?=some (.cells (qp X))/\U.H[H.length+1]?=some (.cells (qp Y))/\U.H[H.length+2]?=some (.cells (qp q9))/\U.H[H.length+3]?=some (.cells (qp S)) /\
   ∀ b k,k<16->qn d' b S k=(decide (zg (qn d b Y) 16<s)&&shB up (qn d b X) (zg (qn d b Y) 16) k)) ?_ ?_ ?_
 . exact⟨by simp,by simp,by simp,by simp,by simp,by simp,by simp,d,q9,h.app _,qW.refl d,km h.ok,lk0,lk1,lk2,lk3,fun b k hk=>by rw[yT h.ok];simp⟩
 . rintro s ev ⟨H1,T1⟩ R hR hs ⟨e0,e3,e5,e6,e8,e9,e15,d1,S,hx,hg,hS,hHX,hHY,hHZ,hHS,hb⟩;dsimp only at hx hHX hHY hHZ hHS;have hSl:=hS.1;have hs':(s:Int)<16:=(by omega);have hs1:s+1<=16:=hs;have hw:=wr (n:=(s:Int)+1) (by omega) (by omega);simp[-getElem?_pos,e15,hs'];rw[qG rfl];simp[-getElem?_pos,qN,e0,e6,hHY,hYl,qm hYl];refine qc.call (jW s (by omega)) (by simp) ?_;simp[-getElem?_pos,qN];refine qc.acall (Vu hx.self (hY.grown hg) (Ka hx.ok s)) ?_;rintro v ⟨H2,T2⟩ ⟨d2,t,rfl,hxx2,hg2,ht,hv2⟩;dsimp only at hv2;have hx2':=hx.call hxx2;have up2:∀ {k:Nat} {x:Blk},H.length<=k->H1[k]?=some x->H2[k]?=some x:=fun {k x} hl hq=>hxx2.loc hq (hk k hl)
   have htv:∀ b,evD d2 b t=decide (zg (qn d b Y) 16=s):=fun b=>by
    rw[hv2,Vv,ZM hx.ok b (by omega),kU h.ok hg hY b]
   simp[-getElem?_pos,qN];refine yE 16 (fun i ev U=>ev 0=.ptr c.B 0/\ev 3=.int .i64 (qeH up)/\ev 5=.ptr H.length 0/\ev 6=.ptr (H.length+1) 0/\ev 8=.ptr (H.length+2) 0/\ev 9=.ptr (H.length+3) 0/\ev 10=.int .i64 (s:Int)/\ev 11=.int .i64 (t:Int)/\ev 15=.int .i64 (s:Int)/\ev 23=.int .i64 (i:Int) /\
    ∃ d' P,BX c H d' U.H/\qW d2 d'/\qV d' P/\U.H[H.length]?=some (.cells (qp X))/\U.H[H.length+1]?=some (.cells (qp Y))/\U.H[H.length+2]?=some (.cells (qp q9))/\U.H[H.length+3]?=some (.cells (qp P)) /\
     ∀ b k,k<16->qn d' b P k=(qn d1 b S k||(decide (k<i)&&(evD d2 b t&&shB up (qn d b X) s k)))) ?_ ?_ ?_
   . exact⟨by simp[e0],by simp[e3],by simp[e5],by simp[e6],by simp[e8],by simp[e9],by simp,by simp,by simp[e15],by simp,d2,S,hx2',qW.refl d2,hS.grown hg2,up2 (by omega) hHX,up2 (by omega) hHY,up2 (by omega) hHZ,up2 (by omega) hHS,fun b k hk=>by rw[zC hx.ok hg2 hS b hk];simp⟩
   . rintro i ev ⟨H3,T3⟩ R2 hR2 hi ⟨e0,e3,e5,e6,e8,e9,e10,e11,e15,e23,d3,P,hx3,hg3,hP,bX,bY,bZ,bS,hpb⟩;dsimp only at hx3 bX bY bZ bS;have hPl:=hP.1;have hg03:=hg.trans (hg2.trans hg3);have hi':(i:Int)<16:=(by omega);have hi1:i+1<=16:=hi;have hwi:=wr (n:=(i:Int)+1) (by omega) (by omega);have hdm : -16<qeH up*(s:Int)/\qeH up*(s:Int)<16:=(by unfold qeH;cases up<;>simp<;>omega);have hwm:=wr (n:=qeH up*(s:Int)) (by omega) (by omega);have hwf:=wr (n:=(i:Int)-qeH up*s) (by omega) (by omega);have hff:(i:Int)-qeH up*s=Jt up s i:=rfl;rw[hff]at hwf;by_cases hrg:0<=Jt up s i/\Jt up s i<16
     . obtain⟨m,hm,hm16,hmx⟩:=qpf hs hi hrg;obtain⟨hrg1,hrg2⟩:=hrg;obtain⟨x,hx1,hx2,hx3'⟩:=hX.getG h.ok hg03 hm16;obtain⟨p,hp1,hp2,_,hp4⟩:=hP.get hi;have hdx:=zO hx1;have hdp:=zO hp1;have htl:t<d3.length:=qqr ht hg3.len;have hm1:m+1<=16:=hm16;have hm2:(m:Int)<16:=(by omega);have hm0:(0:Int)<=m:=(by omega);rw[hm]at hwf hrg1 hrg2;rw[hm]at hff;simp[-getElem?_pos,e3,e10,e23,hi',hwm,hff,hwf,hm2];rw[qG rfl];simp[-getElem?_pos,qN,e0,e5,e9,e11,hi',hi1,hm2,hm1,bX,bS,hXl,hPl,hdx,hdp];have key:=Ql c hx3.self (f:=t) (g:=x) htl hx2 (T:=T3);refine⟨qc.acall key ?_,qc.acall key ?_⟩
       all_goals
        rintro v ⟨H4,T4⟩ ⟨d4,z,rfl,hxx4,hg4,hz,hv4⟩;dsimp only at hv4;have hx4':=hx3.call hxx4;have up4:∀ {k:Nat} {x:Blk},H.length<=k->H3[k]?=some x->H4[k]?=some x:=fun {k x} hl hq=>hxx4.loc hq (hk k hl)
        have cS:=up4 (by omega) bS;simp[-getElem?_pos,qN,hi1,cS,hPl,hdp];refine qc.acall (qaN c hx4'.self (f:=p) (g:=z) (qqr hp2 hg4.len) hz) ?_;rintro v ⟨H5,T5⟩ ⟨d5,y,rfl,hxx5,hg5,hy,hv5⟩;dsimp only at hv5;have hx5':=hx4'.call hxx5;have up5:∀ {k:Nat} {x:Blk},H.length<=k->H3[k]?=some x->H5[k]?=some x:=fun {k x} hl hq=>hxx5.loc (up4 hl hq) (hk k hl)
        have cS5:=up5 (by omega) bS;have hl5:=(qqc.1 cS5).1;simp[-getElem?_pos,qN,e9,e23,hi',hi1,cS5,hPl,yS,hwi];refine hR2 _ _ ⟨by simp[e0],by simp[e3],by simp[e5],by simp[e6],by simp[e8],by simp[e9],by simp[e10],by simp[e11],by simp[e15],by simp,d5,P.set i y,hx5'.set (by omega) _,hg3.trans (hg4.trans hg5),(hP.grown (hg4.trans hg5)).set hy,?_,?_,?_,qqh hl5,fun b k hk=>?_⟩
        . rw[qqf (by omega)];exact up5 (by omega) bX
        . rw[qqf (by omega)];exact up5 (by omega) bY
        . rw[qqf (by omega)];exact up5 (by omega) bZ
        . rw[wn (by omega)];by_cases hki:k=i
          . subst hki;rw[if_pos rfl,hv5,hg4.ev hx3.ok b hp2,hv4,<- hp4,hpb b k hk,hg3.ev hx2'.ok b ht,hx3',hmx];simp
          . rw[if_neg hki,zC hx3.ok (hg4.trans hg5) hP b hk,hpb b k hk];by_cases h1:k<i
            . have h2:k<i+1:=(by omega);simp[h1,h2]
            . have h2:¬ k<i+1:=(by omega);simp[h1,h2]
     . have hno:=qpg hs hi hrg;have hcont:R2=R2:=rfl;have fin:∀ ev',ev' 0=.ptr c.B 0->ev' 3=.int .i64 (qeH up)->ev' 5=.ptr H.length 0->ev' 6=.ptr (H.length+1) 0->ev' 8=.ptr (H.length+2) 0->ev' 9=.ptr (H.length+3) 0->ev' 10=.int .i64 (s:Int)->ev' 11=.int .i64 (t:Int)->ev' 15=.int .i64 (s:Int)->ev' 23=.int .i64 (((i+1:Nat)):Int)->R2 ev' ⟨H3,T3⟩:=fun ev' a0 a3 a5 a6 a8 a9 a10 a11 a15 a23=>
        hR2 _ _ ⟨a0,a3,a5,a6,a8,a9,a10,a11,a15,a23,d3,P,hx3,hg3,hP,bX,bY,bZ,bS,fun b k hk=>by
         rw[hpb b k hk];by_cases hki:k=i
         . subst hki;rw[hno];simp
         . by_cases h1:k<i
           . have h2:k<i+1:=(by omega);simp[h1,h2]
           . have h2:¬ k<i+1:=(by omega);simp[h1,h2]⟩
       by_cases h0:0<=Jt up s i
       . have h16:¬ Jt up s i<16:=fun h=>hrg ⟨h0,h⟩
         simp[-getElem?_pos,e3,e10,e23,hi',hwm,hff,hwf,h0,h16,hwi];exact fin _ (by simp[e0]) (by simp[e3]) (by simp[e5]) (by simp[e6]) (by simp[e8]) (by simp[e9]) (by simp[e10]) (by simp[e11]) (by simp[e15]) (by simp)
       . simp[-getElem?_pos,e3,e10,e23,hi',hwm,hff,hwf,h0,hwi];exact fin _ (by simp[e0]) (by simp[e3]) (by simp[e5]) (by simp[e6]) (by simp[e8]) (by simp[e9]) (by simp[e10]) (by simp[e11]) (by simp[e15]) (by simp)
   . rintro ev ⟨H3,T3⟩ ⟨e0,e3,e5,e6,e8,e9,e10,e11,e15,e23,d3,P,hx3,hg3,hP,bX,bY,bZ,bS,hpb⟩;simp[-getElem?_pos,e15,e23,hw];refine hR _ _ ⟨by simp[e0],by simp[e3],by simp[e5],by simp[e6],by simp[e8],by simp[e9],by simp,d3,P,hx3,hg.trans (hg2.trans hg3),hP,bX,bY,bZ,bS,fun b k hk=>?_⟩;rw[hpb b k hk,hb b k hk,htv b];by_cases h1:zg (qn d b Y) 16=s
     . rw[h1];simp[hk]
     . by_cases h2:zg (qn d b Y) 16<s
       . have h3:zg (qn d b Y) 16<s+1:=(by omega);simp[h1,h2,h3]
       . have h3:¬ zg (qn d b Y) 16<s+1:=(by omega);simp[h1,h2,h3]
 . rintro ev ⟨H1,T1⟩ ⟨e0,e3,e5,e6,e8,e9,e15,d1,S,hx,hg,hS,hHX,hHY,hHZ,hHS,hb⟩;dsimp only at hx hHX hHY hHZ hHS;have hSl:=hS.1;have hHl:=(qqc.1 hHZ).1;simp[-getElem?_pos,e8,e9,e15,hHS,hHZ,hSl,qm hSl,ze hSl (show (qp q9).length=16 from rfl),qL,hHl];exact⟨d1,S,rfl,hx.set (by omega) _,hg,hS,hb⟩
end
end
section
def qnd (x:Nat):List Nat->Bool
 | a::b::r=>(decide (a<=x)&&decide (x<=b))||qnd x r
 | _=>false
theorem YW {Ws:List (List Nat)}(h:∀ w∈Ws,w.length=16):(Ws.flatMap qp).length=Ws.length*16:=by
 induction Ws with
 | nil=>rfl
 | cons a r ih=>rw[qqD,qqg,jm,h a (by simp),ih fun w hw=>h w (by simp[hw]),qqs];omega
theorem qbt:∀ {Ws:List (List Nat)} {i:Nat} {w:List Nat},(∀ w∈Ws,w.length=16)->Ws[i]?=some w->((Ws.flatMap qp).drop (i*16)).take 16=qp w
 | [],i,w,_,hw=>by simp at hw
 | a::r,0,w,h,hw=>by
  simp at hw;subst hw;have ha:=h a (by simp);rw[qqD,qrK,qrx,qre (by rw[jm,ha];exact qqn _),qm ha]
 | a::r,i+1,w,h,hw=>by
  have ha:=h a (by simp);have hal:(qp a).length=16:=by rw[jm,ha]
  have ih:=qbt (Ws:=r) (i:=i) (w:=w) (fun w hw=>h w (by simp[hw])) (by simpa using hw);have e:(i+1)*16=16+i*16:=by omega
  rw[qqD,e,qrP,qqO (by omega),hal,qqw,qq7,ih]
section
variable {c:Bc}{d:List Nd}{H:List Blk}{T:List (Option Nat)}
def qky:List (Nat×Sch×List Nat):=[(5,.step 0 [9,8] (.step 1 [9,8,7] (.step 2 [9,8,7] (.step 3 [9,8,7,6,5] (.step 4 [9,8,7,6,5] (.step 5 [9,8,7,6] (.step 6 [9,8,7] (.step 7 [9,8] (.step 8 [9] (.step 9 [] (.done)))))))))),[7,8]),(6,.step 0 [10,9] (.step 1 [10,9,8] (.step 2 [10,9,8,6,5] (.step 3 [10,9,8,6,5,4] (.step 4 [10,9,8,6,5] (.step 5 [10,9,8,6] (.step 6 [10,9,8] (.step 7 [10,9,8] (.step 8 [10,9] (.step 9 [10] (.step 10 [] (.done))))))))))),[8,9])]
theorem qh7 (h:BX c H d H){X:List Nat}(hX:qV d X){A:Nat}{V:List Nat}{Ws:List (List Nat)}(hV:V.length=16)(hWs:∀ w∈Ws,qV d w)(hA:H[A]?=some (.cells (qp V++Ws.flatMap qp)))(hAB:A≠c.B)(hn:Ws.length<=1000) :
 qf Tryz.prog (XG c) 212 [.ptr c.B 0,.agg (qp X),.ms A 16 Ws.length 16] ⟨H,T⟩ (NQ c d H fun b=>qnd (zg (qn d b X) 16) (Ws.map fun w=>zg (qn d b w) 16)):=by
 refine qf.kO ⟨false,qky,[],[]⟩ qe Tryz.func212 rfl (by kernel_rfl) ?_;have hXl:=hX.1;have hk:∀ j,H.length<=j->j≠c.B:=fun j hj=>(h.at hj).1
 have hAl:=(qqc.1 hA).1;have hW16:∀ w∈Ws,w.length=16:=fun w hw=>(hWs w hw).1
 have hCl:(qp V++Ws.flatMap qp).length=16+Ws.length*16:=by rw[qqg,jm,hV,YW hW16]
 have hcut:∀ {i:Nat} {w:List Nat},Ws[i]?=some w->((qp V++Ws.flatMap qp).drop (16+i*16)).take 16=qp w:=fun {i w} hw=>by
  have hv:(qp V).length=16:=by rw[jm,hV]
  rw[qrP,qqO (by omega),qqw,hv,qq7];exact qbt hW16 hw
 have hVal:∀ {d':List Nd} {w:List Nat},qW d d'->w∈Ws->∀ b,zg (qn d' b w) 16=zg (qn d b w) 16:=fun {d' w} hg hw b=>kU h.ok hg (hWs w hw) b
 generalize hC:qp V++Ws.flatMap qp=C at *;simp[-getElem?_pos,jG];refine qX.gen (fun n ev U=>ev 0=.ptr c.B 0/\ev 2=.ms A 16 Ws.length 16/\ev 4=.ptr H.length 0 /\
  ∃ i d' t,n=Ws.length+1-i/\i<=Ws.length/\ev 8=.int .i64 (i:Int)/\ev 7=.int .i64 (t:Nat)/\BX c H d' U.H/\qW d d'/\t<d'.length/\U.H[H.length]?=some (.cells (qp X))/\U.H[A]?=some (.cells C) /\
   ∀ b,(evD d' b t||qnd (zg (qn d b X) 16) ((Ws.drop i).map fun w=>zg (qn d b w) 16))=qnd (zg (qn d b X) 16) (Ws.map fun w=>zg (qn d b w) 16)) (Ws.length+1) ?_ ?_
 . exact⟨by simp,by simp,by simp,0,d,0,rfl,by omega,by simp,by simp,h.app _,qW.refl d,by have:=h.ok.two;omega,lk0,qa hA _,fun b=>by rw[Ju h.ok];simp⟩
 . rintro n ev ⟨H1,T1⟩ R hR ⟨e0,e2,e4,i,d1,t,rfl,hi,e8,e7,hx,hg,ht,bX,bA,hv⟩;dsimp only at hx bX bA;have hw1:=wr (n:=(i:Int)+1) (by omega) (by omega);have hw2:=wr (n:=(i:Int)+2) (by omega) (by omega);by_cases hlt:i+1<Ws.length
   . have hlt':(i:Int)+1<Ws.length:=(by omega);have hi1:i<Ws.length:=(by omega);obtain⟨w0,hw0⟩:∃ w,Ws[i]?=some w:=⟨_,qqe hi1⟩;obtain⟨w1,hw1'⟩:∃ w,Ws[i+1]?=some w:=⟨_,qqe hlt⟩;have m0:=qqd hw0;have m1:=qqd hw1';have c0:=hcut hw0;have c1:=hcut hw1';have b0:16+i*16+16<=C.length:=(by rw[hCl];omega);have b1:16+(i+1)*16+16<=C.length:=(by rw[hCl];omega);have hi0':(i:Int)<Ws.length:=(by omega);have hi1n:(0:Int)<=(i:Int)+1:=(by omega);have htn:((i:Int)+1).toNat=i+1:=(by omega);rw[hCl]at b0 b1;have hdrop:Ws.drop i=w0::w1::Ws.drop (i+2):=by
      rw[qqu hi1,qqu hlt];obtain⟨_,q0⟩:=qqc.1 hw0;obtain⟨_,q1⟩:=qqc.1 hw1';rw[q0,q1]
     simp[-getElem?_pos,e0,e2,e4,e7,e8,hw1,hlt'];rw[qG rfl];simp[-getElem?_pos,qN,e0,e2,e4,e7,e8,hw1,hlt',hi0',hi1,bX,bA,hXl,qm hXl,hCl,b0,c0];refine qc.acall (Vj hx.self (hX.grown hg) ((hWs w0 m0).grown hg)) ?_;rintro v ⟨H2,T2⟩ ⟨d2,y2,rfl,hxx2,hg2,hy2,hv2⟩;dsimp only at hv2;have hx2:=hx.call hxx2;simp[-getElem?_pos,qN,e0,e2,e4,e7,e8];refine qc.acall (Qj c hx2.self hy2) ?_;rintro v ⟨H3,T3⟩ ⟨d3,y3,rfl,hxx3,hg3,hy3,hv3⟩;dsimp only at hv3;have hx3:=hx2.call hxx3;have cX:=hxx3.loc (hxx2.loc bX (hk _ (qqn _))) (hk _ (qqn _));have cA:=hxx3.loc (hxx2.loc bA hAB) hAB;dsimp only at cX cA;have hg23:=hg2.trans hg3;have hg03:=hg.trans hg23;simp[-getElem?_pos,e0,e2,e4,e7,e8];rw[qG rfl];simp[-getElem?_pos,qN,e0,e2,e4,e7,e8,hw1,hlt',hi1n,htn,hlt,cX,cA,hXl,qm hXl,hCl,b1,c1];refine qc.acall (Vj hx3.self ((hWs w1 m1).grown hg03) (hX.grown hg03)) ?_;rintro v ⟨H4,T4⟩ ⟨d4,y4,rfl,hxx4,hg4,hy4,hv4⟩;dsimp only at hv4;have hx4:=hx3.call hxx4;simp[-getElem?_pos,qN,e0,e2,e4,e7,e8];refine qc.acall (Qj c hx4.self hy4) ?_;rintro v ⟨H5,T5⟩ ⟨d5,y5,rfl,hxx5,hg5,hy5,hv5⟩;dsimp only at hv5;have hx5:=hx4.call hxx5;simp[-getElem?_pos,qN,e0,e2,e4,e7,e8];have hg35:=hg4.trans hg5;refine qc.acall (Ql c hx5.self (f:=y3) (g:=y5) (qqr hy3 hg35.len) hy5) ?_;rintro v ⟨H6,T6⟩ ⟨d6,y6,rfl,hxx6,hg6,hy6,hv6⟩;dsimp only at hv6;have hx6:=hx5.call hxx6;simp[-getElem?_pos,qN,e0,e2,e4,e7,e8];have hg16:=hg23.trans (hg35.trans hg6);refine qc.acall (qaN c hx6.self (f:=t) (g:=y6) (qqr ht hg16.len) hy6) ?_;rintro v ⟨H7,T7⟩ ⟨d7,y7,rfl,hxx7,hg7,hy7,hv7⟩;dsimp only at hv7;have hx7:=hx6.call hxx7;have up:∀ {k:Nat} {x:Blk},k≠c.B->H3[k]?=some x->H7[k]?=some x:=fun {k x} hl hq=>hxx7.loc (hxx6.loc (hxx5.loc (hxx4.loc hq hl) hl) hl) hl
     simp[-getElem?_pos,qN,e0,e2,e4,e7,e8,hw2];refine hR (Ws.length+1-(i+2)) _ _ (by omega) ⟨by simp[e0],by simp[e2],by simp[e4],i+2,d7,y7,rfl,by omega,by simp,by simp,hx7,hg.trans (hg16.trans hg7),hy7,up (hk _ (qqn _)) cX,up hAB cA,fun b=>?_⟩;rw[<- hv b,hdrop];simp only[qqp,qnd];have hXv:∀ {d'},qW d d'->zg (qn d' b X) 16=zg (qn d b X) 16:=fun hg'=>kU h.ok hg' hX b
     rw[hv7,hg16.ev hx.ok b ht,hv6,hg35.ev hx3.ok b hy3,hv3,hv2,vU,hXv hg,hVal hg m0 b,hv5,hv4,vU,hXv hg03,hVal hg03 m1 b];generalize zg (qn d b X) 16=vx;generalize zg (qn d b w0) 16=v0;generalize zg (qn d b w1) 16=v1;have q0:(!decide (vx<v0))=decide (v0<=vx):=(by rw[qq4];simp);have q1:(!decide (v1<vx))=decide (vx<=v1):=(by rw[qq4];simp);rw[q0,q1,Bool.or_assoc]
   . have hlt':¬ (i:Int)+1<Ws.length:=(by omega);simp[-getElem?_pos,e0,e2,e4,e7,e8,hw1,hlt'];refine⟨d1,t,rfl,hx,hg,ht,fun b=>?_⟩;refine Eq.trans ?_ (hv b);have:qnd (zg (qn d b X) 16) ((Ws.drop i).map fun w=>zg (qn d b w) 16)=false:=by
      have hl:((Ws.drop i).map fun w=>zg (qn d b w) 16).length<=1:=(by simp;omega);generalize ((Ws.drop i).map fun w=>zg (qn d b w) 16)=l at hl
      match l,hl with
      | [],_=>rfl
      | [_],_=>rfl
     rw[this,Bool.or_false]
end
end
section
theorem W6 {d:List Nd}(h:DagOk d)(b:Nat->Bool)(n:Nat):zP d b (n::List.replicate 15 0)=b2i (evD d b n):=by
 unfold zP;rw[zh fun k _=>qeb h b n k,qhD]
section
variable {c:Bc}{d:List Nd}{H:List Blk}{T:List (Option Nat)}
theorem qk8 (h:BX c H d H){X Y:List Nat}(hX:qV d X)(hY:qV d Y)(op:Int) :
 qf Tryz.prog (XG c) 280 [.ptr c.B 0,.int .i64 op,.agg (qp X),.agg (qp Y)] ⟨H,T⟩ (WQ c d H fun b=>b2i (if op=19 then Zi (qn d b X) 16&&Zi (qn d b Y) 16 else if op=20 then Zi (qn d b X) 16||Zi (qn d b Y) 16 else !Zi (qn d b X) 16||Zi (qn d b Y) 16)):=by
 refine qf.k qe Tryz.func280 rfl (by kernel_rfl) ?_;have hXl:=hX.1;have hYl:=hY.1;have hk:∀ j,H.length<=j->j≠c.B:=fun j hj=>(h.at hj).1
 simp[-getElem?_pos,jG,jo];have hx1:=h.app [.cells (qp X),.cells (qp Y),.cells (qp q9)];have bX:(H++[Blk.cells (qp X),.cells (qp Y),.cells (qp q9)])[H.length]?=some (.cells (qp X)):=lk0;have bY:(H++[Blk.cells (qp X),.cells (qp Y),.cells (qp q9)])[H.length+1]?=some (.cells (qp Y)):=lk1;have bZ:(H++[Blk.cells (qp X),.cells (qp Y),.cells (qp q9)])[H.length+2]?=some (.cells (qp q9)):=lk2;generalize H++[Blk.cells (qp X),.cells (qp Y),.cells (qp q9)]=H1 at *;simp[-getElem?_pos,bX,hXl,qm hXl];refine qc.acall (vQ hx1.self hX) ?_;rintro v ⟨H2,T2⟩ ⟨d2,s,rfl,hxx2,hg2,hs,hv2⟩;dsimp only at hv2;have hx2:=hx1.call hxx2;have cY:=hxx2.loc bY (hk _ (by omega));have cZ:=hxx2.loc bZ (hk _ (by omega));dsimp only at cY cZ;simp[-getElem?_pos,cY,hYl,qm hYl];refine qc.acall (vQ hx2.self (hY.grown hg2)) ?_;rintro v ⟨H3,T3⟩ ⟨d3,t,rfl,hxx3,hg3,ht,hv3⟩;dsimp only at hv3;have hx3:=hx2.call hxx3;have eZ:=hxx3.loc cZ (hk _ (by omega));dsimp only at eZ;have hs3:s<d3.length:=qqr hs hg3.len;have hs3v:∀ b,evD d3 b s=Zi (qn d b X) 16:=fun b=>by rw[hg3.ev hx2.ok b hs,hv2]
 have ht3v:∀ b,evD d3 b t=Zi (qn d b Y) 16:=fun b=>by
  rw[hv3,Zh,Zh,kU h.ok hg2 hY b]
 have hg03:=hg2.trans hg3;have fin:∀ {H4:List Blk} {d4:List Nd} {u:Nat} {τ:St} {v:(Nat->Bool)->Bool},τ.H=H4.set (H.length+2) (.cells (qp (u::List.replicate 15 0)))->BX c H d4 H4->qW d3 d4->u<d4.length->(∀ b,evD d4 b u=v b)->WQ c d H (fun b=>b2i (v b)) (.agg (qp (u::List.replicate 15 0))) τ:=fun {H4 d4 u τ v} hτ hx4 hg4 hu hv=>by
  refine⟨d4,_,rfl,?_,hg03.trans hg4,qaQ hx4.ok hu,fun b=>by rw[W6 hx4.ok,hv]⟩;rw[hτ];exact hx4.set (by omega) _
 have cut1:∀ (u:Nat),(qp (u::List.replicate 15 0)).take 16=qp (u::List.replicate 15 0):=fun u=>qm rfl
 have put1:∀ (u:Nat),zj (qp q9) 0 (qp (u::List.replicate 15 0))=qp (u::List.replicate 15 0):=fun u=>ze rfl rfl
 simp only[List.reduceReplicate]at fin cut1 put1;by_cases h19:op=19
 . simp[-getElem?_pos,h19];refine qc.acall (Ql c hx3.self (f:=s) (g:=t) hs3 ht) ?_;rintro v ⟨H4,T4⟩ ⟨d4,u,rfl,hxx4,hg4,hu,hv4⟩;dsimp only at hv4;have gZ:=hxx4.loc eZ (hk _ (by omega));have hl:=(qqc.1 gZ).1;dsimp only at gZ hl;simp[-getElem?_pos];refine qc.call (z4 u) (by simp) ?_;simp[-getElem?_pos,gZ,qL,put1,hl,cut1];exact fin rfl (hx3.call hxx4) hg4 hu fun b=>by rw[hv4,hs3v,ht3v]
 by_cases h20:op=20
 . simp[-getElem?_pos,h19,h20];refine qc.acall (qaN c hx3.self (f:=s) (g:=t) hs3 ht) ?_;rintro v ⟨H4,T4⟩ ⟨d4,u,rfl,hxx4,hg4,hu,hv4⟩;dsimp only at hv4;have gZ:=hxx4.loc eZ (hk _ (by omega));have hl:=(qqc.1 gZ).1;dsimp only at gZ hl;simp[-getElem?_pos];refine qc.call (z4 u) (by simp) ?_;simp[-getElem?_pos,gZ,qL,put1,hl,cut1];exact fin rfl (hx3.call hxx4) hg4 hu fun b=>by rw[hv4,hs3v,ht3v]
 . simp[-getElem?_pos,h19,h20];refine qc.acall (Qj c hx3.self hs3) ?_;rintro v ⟨H4,T4⟩ ⟨d4,q,rfl,hxx4,hg4,hq,hv4⟩;dsimp only at hv4;have hx4:=hx3.call hxx4;simp[-getElem?_pos];refine qc.acall (qaN c hx4.self (f:=q) (g:=t) hq (qqr ht hg4.len)) ?_;rintro v ⟨H5,T5⟩ ⟨d5,u,rfl,hxx5,hg5,hu,hv5⟩;dsimp only at hv5;have gZ:=hxx5.loc (hxx4.loc eZ (hk _ (by omega))) (hk _ (by omega));have hl:=(qqc.1 gZ).1;dsimp only at gZ hl;simp[-getElem?_pos];refine qc.call (z4 u) (by simp) ?_;simp[-getElem?_pos,gZ,qL,put1,hl,cut1];exact fin rfl (hx4.call hxx5) (hg4.trans hg5) hu fun b=>by rw[hv5,hv4,hs3v,hg4.ev hx3.ok b ht,ht3v]
end
end
section
def cmpW (op a b:Int):Int:=if op=15 then b2i (decide (a=b)) else if op=16 then b2i (!decide (a=b)) else if op=17 then b2i (decide (a<b)) else b2i (decide (a<=b))
section
variable {c:Bc}{d:List Nd}{H:List Blk}{T:List (Option Nat)}
theorem qno {d:List Nd}{b:Nat->Bool}{X Y:List Nat}:eqT (qn d b X) (qn d b Y) 16=decide (zP d b X=zP d b Y):=by
 rw[Vv,qq4,decide_eq_true_iff,decide_eq_true_iff];unfold zP;omega
theorem qeh {d:List Nd}{b:Nat->Bool}{X Y:List Nat}:qcJ (qn d b X) (qn d b Y) 16=decide (zP d b X<zP d b Y):=by
 rw[vU,qq4,decide_eq_true_iff,decide_eq_true_iff];unfold zP;omega
theorem VC (h:BX c H d H){X Y:List Nat}(hX:qV d X)(hY:qV d Y)(op:Int) :
 qf Tryz.prog (XG c) 281 [.ptr c.B 0,.int .i64 op,.agg (qp X),.agg (qp Y)] ⟨H,T⟩ (WQ c d H fun b=>cmpW op (zP d b X) (zP d b Y)):=by
 refine qf.k qe Tryz.func281 rfl (by kernel_rfl) ?_;have hXl:=hX.1;have hYl:=hY.1;have hk:∀ j,H.length<=j->j≠c.B:=fun j hj=>(h.at hj).1
 simp[-getElem?_pos,jo];have hx1:=h.app [.cells (qp X),.cells (qp Y),.cells (qp q9)];have bX:(H++[Blk.cells (qp X),.cells (qp Y),.cells (qp q9)])[H.length]?=some (.cells (qp X)):=lk0;have bY:(H++[Blk.cells (qp X),.cells (qp Y),.cells (qp q9)])[H.length+1]?=some (.cells (qp Y)):=lk1;have bZ:(H++[Blk.cells (qp X),.cells (qp Y),.cells (qp q9)])[H.length+2]?=some (.cells (qp q9)):=lk2;generalize H++[Blk.cells (qp X),.cells (qp Y),.cells (qp q9)]=H1 at *;have fin:∀ {H4:List Blk} {d4:List Nd} {u:Nat} {τ:St} {v:(Nat->Bool)->Int},τ.H=H4.set (H.length+2) (.cells (qp (u::List.replicate 15 0)))->BX c H d4 H4->qW d d4->u<d4.length->(∀ b,b2i (evD d4 b u)=v b)->WQ c d H v (.agg (qp (u::List.replicate 15 0))) τ:=fun {H4 d4 u τ v} hτ hx4 hg4 hu hv=>by
  refine⟨d4,_,rfl,?_,hg4,qaQ hx4.ok hu,fun b=>by rw[W6 hx4.ok,hv]⟩;rw[hτ];exact hx4.set (by omega) _
 have cut1:∀ (u:Nat),(qp (u::List.replicate 15 0)).take 16=qp (u::List.replicate 15 0):=fun u=>qm rfl
 have put1:∀ (u:Nat),zj (qp q9) 0 (qp (u::List.replicate 15 0))=qp (u::List.replicate 15 0):=fun u=>ze rfl rfl
 simp only[List.reduceReplicate]at fin cut1 put1;by_cases h15:op=15
 . simp[-getElem?_pos,h15,bX,bY,hXl,hYl,qm hXl,qm hYl];refine qc.acall (Vu hx1.self hX hY) ?_;rintro v ⟨H4,T4⟩ ⟨d4,u,rfl,hxx4,hg4,hu,hv4⟩;dsimp only at hv4;have gZ:=hxx4.loc bZ (hk _ (by omega));have hl:=(qqc.1 gZ).1;dsimp only at gZ hl;simp[-getElem?_pos];refine qc.call (z4 u) (by simp) ?_;simp[-getElem?_pos,gZ,qL,put1,hl,cut1];exact fin rfl (hx1.call hxx4) hg4 hu fun b=>by rw[hv4,qno];rfl
 by_cases h16:op=16
 . simp[-getElem?_pos,h16,bX,bY,hXl,hYl,qm hXl,qm hYl];refine qc.acall (Vu hx1.self hX hY) ?_;rintro v ⟨H4,T4⟩ ⟨d4,u,rfl,hxx4,hg4,hu,hv4⟩;dsimp only at hv4;have hx4:=hx1.call hxx4;simp[-getElem?_pos];refine qc.acall (Qj c hx4.self hu) ?_;rintro v ⟨H5,T5⟩ ⟨d5,u5,rfl,hxx5,hg5,hu5,hv5⟩;dsimp only at hv5;have gZ:=hxx5.loc (hxx4.loc bZ (hk _ (by omega))) (hk _ (by omega));have hl:=(qqc.1 gZ).1;dsimp only at gZ hl;simp[-getElem?_pos];refine qc.call (z4 u5) (by simp) ?_;simp[-getElem?_pos,gZ,qL,put1,hl,cut1];exact fin rfl (hx4.call hxx5) (hg4.trans hg5) hu5 fun b=>by rw[hv5,hv4,qno];rfl
 by_cases h17:op=17
 . simp[-getElem?_pos,h17,bX,bY,hXl,hYl,qm hXl,qm hYl];refine qc.acall (Vj hx1.self hX hY) ?_;rintro v ⟨H4,T4⟩ ⟨d4,u,rfl,hxx4,hg4,hu,hv4⟩;dsimp only at hv4;have gZ:=hxx4.loc bZ (hk _ (by omega));have hl:=(qqc.1 gZ).1;dsimp only at gZ hl;simp[-getElem?_pos];refine qc.call (z4 u) (by simp) ?_;simp[-getElem?_pos,gZ,qL,put1,hl,cut1];exact fin rfl (hx1.call hxx4) hg4 hu fun b=>by rw[hv4,qeh];rfl
 . simp[-getElem?_pos,h15,h16,h17,bX,bY,hXl,hYl,qm hXl,qm hYl];refine qc.acall (Vj hx1.self hY hX) ?_;rintro v ⟨H4,T4⟩ ⟨d4,u,rfl,hxx4,hg4,hu,hv4⟩;dsimp only at hv4;have hx4:=hx1.call hxx4;simp[-getElem?_pos];refine qc.acall (Qj c hx4.self hu) ?_;rintro v ⟨H5,T5⟩ ⟨d5,u5,rfl,hxx5,hg5,hu5,hv5⟩;dsimp only at hv5;have gZ:=hxx5.loc (hxx4.loc bZ (hk _ (by omega))) (hk _ (by omega));have hl:=(qqc.1 gZ).1;dsimp only at gZ hl;simp[-getElem?_pos];refine qc.call (z4 u5) (by simp) ?_;simp[-getElem?_pos,gZ,qL,put1,hl,cut1];exact fin rfl (hx4.call hxx5) (hg4.trans hg5) hu5 fun b=>by
    rw[hv5,hv4,qeh];unfold cmpW;rw[if_neg h15,if_neg h16,if_neg h17];congr 1;rw[qq4];simp
theorem qcE {d2:List Nd}{b:Nat->Bool}{V:List Nat}{x y:Nat->Bool}{ci:Bool}(h:∀ k,k<16->qn d2 b V k=qmI x y ci k):zP d2 b V=(((zg x 16+zg y 16+b2n ci) % 2 ^ 16:Nat):Int):=by
 unfold zP;rw[zh h,<- kq];rfl
theorem qoM {d d2:List Nd}{b:Nat->Bool}{V X Y:List Nat}(h:∀ k,k<16->qn d2 b V k=(decide (zg (qn d b Y) 16<16)&&shB true (qn d b X) (zg (qn d b Y) 16) k)):zP d2 b V=yN 13 (zP d b X) (zP d b Y):=by
 have e:yN 13 (zP d b X) (zP d b Y)=if 0<=zP d b Y/\zP d b Y<16 then qK (zP d b X*2 ^ (zP d b Y).toNat) else 0:=by simp[yN]
 rw[e];by_cases hs:zg (qn d b Y) 16<16
 . rw[if_pos ⟨by unfold zP;omega,by unfold zP;omega⟩];have:zP d2 b V=((zg (qn d b X) 16*2 ^ zg (qn d b Y) 16 % 2 ^ 16:Nat):Int):=by
    unfold zP;rw[<- qgJ,zh fun k hk=>by rw[h k hk,decide_eq_true hs,qrg,shB,if_pos rfl]]
   rw[this,w_shl];rfl
 . rw[if_neg (by unfold zP;omega)];unfold zP;rw[yZ fun k hk=>by rw[h k hk,decide_eq_false hs];rfl];rfl
theorem qoL {d d2:List Nd}{b:Nat->Bool}{V X Y:List Nat}(h:∀ k,k<16->qn d2 b V k=(decide (zg (qn d b Y) 16<16)&&shB false (qn d b X) (zg (qn d b Y) 16) k)):zP d2 b V=yN 14 (zP d b X) (zP d b Y):=by
 have e:yN 14 (zP d b X) (zP d b Y)=if 0<=zP d b Y/\zP d b Y<16 then qK (zP d b X) / 2 ^ (zP d b Y).toNat else 0:=by simp[yN]
 rw[e];by_cases hs:zg (qn d b Y) 16<16
 . rw[if_pos ⟨by unfold zP;omega,by unfold zP;omega⟩];have:zP d2 b V=((zg (qn d b X) 16 / 2 ^ zg (qn d b Y) 16:Nat):Int):=by
    unfold zP;rw[<- qgK,zh fun k hk=>by rw[h k hk,decide_eq_true hs,qrg,shB,if_neg (by simp)]]
   rw[this,w_shr];rfl
 . rw[if_neg (by unfold zP;omega)];unfold zP;rw[yZ fun k hk=>by rw[h k hk,decide_eq_false hs];rfl];rfl
theorem qjd (h:BX c H d H){X Y:List Nat}(hX:qV d X)(hY:qV d Y){op:Int}(h7:7<=op)(h21:op<=21) :
 qf Tryz.prog (XG c) 216 [.ptr c.B 0,.int .i64 op,.agg (qp X),.agg (qp Y)] ⟨H,T⟩ (WQ c d H fun b=>yN op (zP d b X) (zP d b Y)):=by
 refine qf.k qe Tryz.func216 rfl (by kernel_rfl) ?_;have hXl:=hX.1;have hYl:=hY.1;have hk:∀ j,H.length<=j->j≠c.B:=fun j hj=>(h.at hj).1
 simp[-getElem?_pos,jo];have hx1:=h.app [.cells (qp X),.cells (qp Y),.cells (qp q9)];have bX:(H++[Blk.cells (qp X),.cells (qp Y),.cells (qp q9)])[H.length]?=some (.cells (qp X)):=lk0;have bY:(H++[Blk.cells (qp X),.cells (qp Y),.cells (qp q9)])[H.length+1]?=some (.cells (qp Y)):=lk1;have bZ:(H++[Blk.cells (qp X),.cells (qp Y),.cells (qp q9)])[H.length+2]?=some (.cells (qp q9)):=lk2;generalize H++[Blk.cells (qp X),.cells (qp Y),.cells (qp q9)]=H1 at *;have fin:∀ {H4:List Blk} {d4:List Nd} {V:List Nat} {τ:St} {v:(Nat->Bool)->Int},τ.H=H4.set (H.length+2) (.cells (qp V))->BX c H d4 H4->qW d d4->qV d4 V->(∀ b,zP d4 b V=v b)->WQ c d H v (.agg (qp V)) τ:=fun {H4 d4 V τ v} hτ hx4 hg4 hV hv=>by
  refine⟨d4,_,rfl,?_,hg4,hV,hv⟩;rw[hτ];exact hx4.set (by omega) _
 have ht:=h.ok.two;have t0:∀ op T,15<=op/\op<=18->qf Tryz.prog (XG c) 281 [.ptr c.B 0,.int .i64 op,.agg (qp X),.agg (qp Y)] ⟨H1,T⟩ (WQ c d H1 fun b=>yN op (zP d b X) (zP d b Y)):=fun op T ho=>by
  have:=VC hx1.self hX hY op (T:=T);have e:(fun b=>cmpW op (zP d b X) (zP d b Y))=fun b=>yN op (zP d b X) (zP d b Y):=by
   funext b;obtain rfl|rfl|rfl|rfl:op=15\/op=16\/op=17\/op=18:=by omega
   all_goals simp[cmpW,yN]
  rw[e]at this;exact this
 have t1:∀ op T,19<=op/\op<=21->qf Tryz.prog (XG c) 280 [.ptr c.B 0,.int .i64 op,.agg (qp X),.agg (qp Y)] ⟨H1,T⟩ (WQ c d H1 fun b=>yN op (zP d b X) (zP d b Y)):=fun op T ho=>by
  have:=qk8 hx1.self hX hY op (T:=T);have e:(fun b=>b2i (if op=19 then Zi (qn d b X) 16&&Zi (qn d b Y) 16 else if op=20 then Zi (qn d b X) 16||Zi (qn d b Y) 16 else !Zi (qn d b X) 16||Zi (qn d b Y) 16))=fun b=>yN op (zP d b X) (zP d b Y):=by
   funext b;rw[vn,vn];obtain rfl|rfl|rfl:op=19\/op=20\/op=21:=by omega
   all_goals simp[yN,zP]
  rw[e]at this;exact this
 have k7:=(qdF hx1.self hX hY (cn:=0) (T:=T) (by omega)).imp (Q':=WQ c d H1 fun b=>yN 7 (zP d b X) (zP d b Y)) (fun v U ⟨d4,V,e,hx,hg,hV,hv⟩=>⟨d4,V,e,hx,hg,hV,fun b=>by
  rw[qcE (hv b),Ju h.ok,<- kq,w_add];rfl⟩)
 have k8:=(Zb hx1.self hX hY (T:=T)).imp (Q':=WQ c d H1 fun b=>yN 8 (zP d b X) (zP d b Y)) (fun v U ⟨d4,V,e,hx,hg,hV,hv⟩=>⟨d4,V,e,hx,hg,hV,fun b=>by
  rw[qcE (hv b),<- kq,w_sub];rfl⟩)
 have k9:=(qfv hx1.self hX hY (T:=T)).imp (Q':=WQ c d H1 fun b=>yN 9 (zP d b X) (zP d b Y)) (fun v U ⟨d4,V,e,hx,hg,hV,hv⟩=>⟨d4,V,e,hx,hg,hV,fun b=>by
  have hvb:=hv b;dsimp only at hvb;unfold zP;rw[hvb,qaY,w_mul];rfl⟩)
 have k10:=(JE hx1.self hX hY (T:=T) (g:=275) (first:=[.ptr c.B 0]) (cap:=[]) (F:=fun _ p q=>p&&q) (fun d1 H1 T1 x y hx hg a b=>Ql c hx.self a b)).imp (Q':=WQ c d H1 fun b=>yN 10 (zP d b X) (zP d b Y)) (fun v U ⟨d4,V,e,hx,hg,hV,hv⟩=>⟨d4,V,e,hx,hg,hV,fun b=>by
  unfold zP;rw[zh (hv b),qjZ];rfl⟩)
 have k11:=(JE hx1.self hX hY (T:=T) (g:=204) (first:=[.ptr c.B 0]) (cap:=[]) (F:=fun _ p q=>p||q) (fun d1 H1 T1 x y hx hg a b=>qaN c hx.self a b)).imp (Q':=WQ c d H1 fun b=>yN 11 (zP d b X) (zP d b Y)) (fun v U ⟨d4,V,e,hx,hg,hV,hv⟩=>⟨d4,V,e,hx,hg,hV,fun b=>by
  unfold zP;rw[zh (hv b),qn2];rfl⟩)
 have k12:=(JE hx1.self hX hY (T:=T) (g:=278) (first:=[.ptr c.B 0]) (cap:=[]) (F:=fun _ p q=>p ^^ q) (fun d1 H1 T1 x y hx hg a b=>V7 c hx.self a b)).imp (Q':=WQ c d H1 fun b=>yN 12 (zP d b X) (zP d b Y)) (fun v U ⟨d4,V,e,hx,hg,hV,hv⟩=>⟨d4,V,e,hx,hg,hV,fun b=>by
  unfold zP;rw[zh (hv b),qjY];rfl⟩)
 have k13:=(qdN hx1.self hX hY true (T:=T)).imp (Q':=WQ c d H1 fun b=>yN 13 (zP d b X) (zP d b Y)) (fun v U ⟨d4,V,e,hx,hg,hV,hv⟩=>⟨d4,V,e,hx,hg,hV,fun b=>qoM (hv b)⟩);have k14:=(qdN hx1.self hX hY false (T:=T)).imp (Q':=WQ c d H1 fun b=>yN 14 (zP d b X) (zP d b Y)) (fun v U ⟨d4,V,e,hx,hg,hV,hv⟩=>⟨d4,V,e,hx,hg,hV,fun b=>qoL (hv b)⟩);have k15:=t0 15 T (by omega);have k16:=t0 16 T (by omega);have k17:=t0 17 T (by omega);have k18:=t0 18 T (by omega);have k19:=t1 19 T (by omega);have k20:=t1 20 T (by omega);have k21:=t1 21 T (by omega);simp only[qrn,qeH,if_true,qqy,if_false]at k7 k13 k14;have hcases:op=7\/op=8\/op=9\/op=10\/op=11\/op=12\/op=13\/op=14\/op=15\/op=16\/op=17\/op=18\/op=19\/op=20\/op=21:=by omega
 rcases hcases with rfl|rfl|rfl|rfl|rfl|rfl|rfl|rfl|rfl|rfl|rfl|rfl|rfl|rfl|rfl
 all_goals
  simp[-getElem?_pos,bY,hXl,hYl,qm hXl,qm hYl];refine qc.acall (by assumption) ?_;rintro v ⟨H4,T4⟩ ⟨d4,V,rfl,hxx4,hg4,hV,hv4⟩;dsimp only at hv4;have gZ:=hxx4.loc bZ (hk _ (by omega));have hl:=(qqc.1 gZ).1;dsimp only at gZ hl;have hVl:=hV.1;simp[-getElem?_pos,gZ,qL,hVl,ze hVl (show (qp q9).length=16 from rfl),hl,qm hVl];exact fin rfl (hx1.call hxx4) hg4 hV hv4
end
end
end Go.Proofs.YtkpkjbchlabaaaaGreatDoor
end
