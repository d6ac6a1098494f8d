/- A part of the proof. -/
import Derived.Test.YtkpkjbchlabaaaaGreatDoorSa33
import Derived.Test.YtkpkjbchlabaaaaGreatDoorSa34
set_option maxHeartbeats 16000000
set_option linter.unusedVariables false
set_option linter.unusedSimpArgs false
set_option maxRecDepth 100000
set_option linter.defProp false
section
namespace Go.Proofs.YtkpkjbchlabaaaaGreatDoor
open Go Go.Abs
theorem Wk {p:Problem}{e:Ex}(hk:zi p.vars e=0)(ht:JT e):qgp p e/\zf e=0:=by
 have he:zf e=0/\Jf e=false/\Qw p.vars e=false:=by
  unfold zi at hk;split at hk
  . rename_i h;exact absurd hk h
  . rename_i h;split at hk
    . cases hk
    . split at hk
      . cases hk
      . rename_i h2 h3;exact⟨qqY.1 h,by simpa using h2,by simpa using h3⟩
 refine⟨fun x hx=>?_,he.1⟩;have hn:=ZX he.1 x hx;have h1:=he.2.1;have h2:=he.2.2;rw[Jf,qrD]at h1;rw[Qw,qrD]at h2;have h1:=h1 x hx;have h2:=h2 x hx;refine⟨hn,fun h=>h1 (by simp[h]),fun h=>h1 (by simp[h]),fun h=>?_,?_⟩
 . cases hh:vH p.vars x.name with
   | true=>rfl
   | false=>exact absurd (by simp[h,hh]) h2
 . have ho:=(je hn).2.2.2.2.1;unfold qi at ho;split at ho
   . simp only[decide_eq_true_eq]at ho;omega
   . simp only[decide_eq_true_eq]at ho;unfold zo at ho
     repeat' split at ho
     all_goals omega
def qkH:List (Nat×Sch×List Nat):=[(0,.step 1 [5,4,3] (.step 2 [5,4,3] (.fork (.cons 0 (.step 3 [5,4] (.step 4 [5] (.step 5 [] (.done)))) (.cons 3 (.step 0 [5,4] (.step 4 [5] (.step 5 [] (.done)))) (.nil))))),[3,4])]
def InQ (c:Bc)(d:List Nd)(p3:Nat)(H:List Blk)(v:(Nat->Bool)->Bool)(r:AV)(U':St):Prop :=
 ∃ d' t H1,U'.H=H1.set p3 (.cells [.int .i64 (t:Nat)])/\p3<H1.length/\BX c H d' H1/\qW d d'/\t<d'.length/\∀ b,evD d' b t=v b
theorem qeo {c:Bc}{d:List Nd}{H:List Blk}{T:List (Option Nat)}(h:BX c H d H){p:Problem}{lv:List Int}(hp:PB p lv c)(e:Ex)(he:qgp p e){p1 p2 p3:Nat}(b1:H[p1]?=some (.cells [.ptr c.B 0]))(b2:H[p2]?=some (.cells (qr e))){x:AV}(b3:H[p3]?=some (.cells [x]))(h3:p3≠c.B)(h1:p1≠c.B) :
 qf Tryz.prog (XG c) 159 [.ptr p1 0,.ptr p2 0,.ptr p3 0] ⟨H,T⟩ (InQ c d p3 H fun b=>!decide (vd (kQ p.vars (v9 p.vars lv b)) e=0)):=by
 refine qf.kO ⟨false,qkH,[],[]⟩ qe Tryz.func159 rfl (by kernel_rfl) ?_;have hw:=fun T=>qnM hp e he d H T h
 have b3l:=(qqc.1 b3).1;rw[qd e]at b2 hw;simp[-getElem?_pos];rw[qG rfl];simp[-getElem?_pos,qN,b1,b2];refine⟨qc.acall (hw T) ?_,qc.acall (hw T) ?_⟩
 all_goals
  rintro v ⟨H2,T2⟩ ⟨d2,W,rfl,hxx2,hg2,hW,hv2⟩;dsimp only at hv2;have hx2:=h.call hxx2;have c1:=hxx2.loc b1 h1;have c3:=hxx2.loc b3 h3;dsimp only at c1 c3;simp[-getElem?_pos,qN,c1];refine qc.acall (vQ hx2.self hW) ?_;rintro v ⟨H3,T3⟩ ⟨d3,t,rfl,hxx3,hg3,ht3,hv3⟩;dsimp only at hv3;have hx3:=hx2.call hxx3;have e3:=hxx3.loc c3 h3;have hl3:=(qqc.1 e3).1;dsimp only at e3 hl3;simp[-getElem?_pos,qN,e3];refine⟨d3,t,H3,rfl,hl3,hx3,hg2.trans hg3,ht3,fun b=>?_⟩;rw[hv3,vn];have:=hv2 b;unfold zP at this;rw[this]
def qkL:List (Nat×Sch×List Nat):=[(8,.step 0 [7,6,5,3,2,1] (.step 1 [7,6,5,3,2] (.step 2 [7,6,5,3] (.step 3 [7,6,5] (.fork (.cons 4 (.step 5 [7,6] (.step 6 [7] (.step 7 [] (.done)))) (.cons 5 (.step 4 [7,6] (.step 6 [7] (.step 7 [] (.done)))) (.nil))))))),[])]
def TruQ (d:List Nd)(H:List Blk)(v:(Nat->Bool)->Bool)(r:AV)(U':St):Prop :=
 KpL [] H U'.H/\(r=.tup [.agg [.sl 0 [] .nil],.int .i64 0,.int .i64 2] \/
  ∃ d' t tok,r=.tup [.agg [.sl 3 (d'.map qw) tok],.int .i64 (t:Nat),.int .i64 0]/\qW d d'/\DagOk d'/\t<d'.length/\∀ b,evD d' b t=v b)
def AttQ (B p3:Nat)(d:List Nd)(E:List Blk)(v:(Nat->Bool)->Bool)(r:AV)(U':St):Prop :=
 KpL [B,p3] E U'.H/\(r=.int .i64 2\/(r=.int .i64 0/\∃ d' t tok rest,U'.H[p3]?=some (.cells [.int .i64 (t:Nat)])/\U'.H[B]?=some (.cells (.sl 3 (d'.map qw) tok::rest))/\qW d d'/\DagOk d'/\t<d'.length/\∀ b,evD d' b t=v b))
theorem att203 {d:List Nd}(hd:DagOk d){p:Problem}{LV:List Int}(hle:LV.length=p.vars.length)(hvl:p.vars.length<=1000)(hvars:∀ v∈p.vars,jH v=0)(hnd:(p.vars.map (·.name)).Nodup)
 (hlo:∀ (i:Nat) (v:Var) (l:Int),p.vars[i]?=some v->LV[i]?=some l->v.mode≠0->0<=l/\l+v.width<=20) {E:List Blk} {B M p1 p2 p3:Nat} {e:Ex} {x:AV} {val:(Nat->Bool)->Bool}
 (bB:E[B]?=some (.cells (.sl 3 (d.map qw) .none::(qE p++[.sl 1 (LV.map qt) .none,.map M])))) (bM:E[M]?=some (wR p.vars)) (hMB:M≠B)
 (b1:E[p1]?=some (.cells [.ptr B 0])) (b2:E[p2]?=some (.cells (qr e))) (b3:E[p3]?=some (.cells [x])) (h1:p1≠B) (h3:p3≠B) (hbl:qgp p e)
 (hval:∀ b,(!decide (vd (kQ p.vars (v9 p.vars LV b)) e=0))=val b) (T:List (Option Nat)) :
 qf Tryz.prog GG 158 [.fn 159 [] [.ptr p1 0,.ptr p2 0,.ptr p3 0]] ⟨E,T⟩ (AttQ B p3 d E val):=by
 obtain⟨E0,hE0⟩:∃ E0,E0=E++[Blk.cells [.int .i64 0]]:=⟨_,rfl⟩;obtain⟨c,hc⟩:∃ c:Bc,c=⟨B,M,qE p++[.sl 1 (LV.map qt) .none,.map M],wR p.vars,E0⟩:=⟨_,rfl⟩;have hcB:c.B=B:=by rw[hc]
 have hcM:c.M=M:=by rw[hc]
 have hcr:c.rest=qE p++[.sl 1 (LV.map qt) .none,.map c.M]:=by rw[hc]
 have hcm:c.mp=wR p.vars:=by rw[hc]
 have hcH:c.H0=E0:=by rw[hc]
 have hBl:=(qqc.1 bB).1;have hMl:=(qqc.1 bM).1;have h3l:=(qqc.1 b3).1;have hEl:E0.length=E.length+1:=by rw[hE0];simp
 have la:∀ {k:Nat} {x:Blk},E[k]?=some x->E0[k]?=some x:=fun {k x} hq=>by rw[hE0];exact qa hq _
 have hcell:E0[E.length]?=some (.cells [.int .i64 0]):=by rw[hE0];simp
 have hpb:PB p LV c:=⟨hcr,hcm,hle,hvl,hvars,hnd,hlo⟩;have hbx:BX c E0 d E0:=⟨⟨.none,by rw[hcB,hcr,hcM];exact la bB⟩,by rw[hcM,hcm];exact la bM,hd,by rw[hcH];exact KpL.refl,KpL.refl,by rw[hcM,hcB];exact hMB,by omega,by omega,by rw[hcH];exact qqn _⟩;have hii:=qeo (T:=T) hbx hpb e hbl (p1:=p1) (p2:=p2) (p3:=p3) (by rw[hcB];exact la b1) (la b2) (la b3) (by omega) (by omega);simp only[hval]at hii;have hkE:∀ {bs:List Nat} {H2:List Blk},KpL bs E0 H2->KpL bs E H2:=fun {bs H2} hk=>KpL.trans (by rw[hE0];exact KpL.app) hk
 have hst:(St.push ⟨E,T⟩ (.cells [.int .i64 0]))=⟨E0,T⟩:=by rw[hE0];rfl
 refine qgh (G:=Jn GG) (H:=XG c) rfl (R:=InQ c d p3 E0 fun b=>val b) (by rw[hst];exact hii) ?_ ?_
 . rintro v ⟨Hv,Tv⟩ ⟨d',t,H1,hH,hp3,hx,hg,htl,hv⟩;dsimp only at hH;have hq:=hx.kp.2 _ _ hcell (by simp;omega);obtain⟨tok,hb⟩:=hx.b;have hl1:=(qqc.1 hq).1;rw[hcB]at hb;refine⟨⟨_,by dsimp only;rw[hH,qqf (by omega)];exact hq⟩,?_,.inr ⟨rfl,d',t,tok,c.rest,?_,?_,hg,hx.ok,htl,hv⟩⟩
   . dsimp only;rw[hH];have h1:=hkE hx.kp;rw[hcB]at h1;have h2:KpL [B,p3] E (H1.set p3 (.cells [.int .i64 (t:Int)])):=(h1.sub (by simp)).trans (KpL.set (by simp));exact (h2.setF (qqn _)).trans KpL.app
   . dsimp only;rw[hH];refine qa ?_ _;rw[qqf (by omega)];exact qqh hp3
   . dsimp only;rw[hH];refine qa ?_ _;rw[qqf (by omega),qqf (by omega)];exact hb
 . rintro cs ⟨Hv,Tv⟩ ⟨rfl,hk⟩;dsimp only at hk ⊢;rw[hcH,hcB]at hk;have hq:=hk.2 _ _ hcell (by simp;omega);refine⟨⟨_,hq⟩,2,rfl,?_,.inl rfl⟩;exact (((hkE hk).sub (by simp)).setF (qqn _)).trans KpL.app
theorem qmw (d:List Nd)(hd:DagOk d)(p:Problem)(h:VQ p)(hv:qj p=0)(e:Ex)(hk:zi p.vars e=0)(ht:JT e)(H:List Blk)(T:List (Option Nat)) :
 qf Tryz.prog GG 100 [.agg (zt d),.agg (qE p),.agg (qr e)] ⟨H,T⟩ (TruQ d H fun b=>!decide (vd (kQ p.vars (v9 p.vars (qB p) b)) e=0)):=by
 refine qf.kO ⟨false,qkL,[],[]⟩ qe Tryz.func100 rfl (by kernel_rfl) ?_;have hst:=fun H T=>qkb d hd p h hv e hk ht H T
 obtain⟨hbl,hve⟩:=Wk hk ht;have henc:=qd e;simp only[zt]at hst;rw[henc]at hst ⊢;obtain⟨val,hval⟩:∃ val:(Nat->Bool)->Bool,∀ b,(!decide (vd (kQ p.vars (v9 p.vars (qB p) b)) e=0))=val b:=⟨_,fun _=>rfl⟩;simp only[hval];have hin:=fun {c:Bc} {H:List Blk} {T:List (Option Nat)} (hx:BX c H d H) (hp:PB p (qB p) c) {p1 p2 p3:Nat} (b1:H[p1]?=some (.cells [.ptr c.B 0])) (b2:H[p2]?=some (.cells (qr e))) {x:AV} (b3:H[p3]?=some (.cells [x])) (h3:p3≠c.B) (h1:p1≠c.B)=>qeo (T:=T) hx hp e hbl b1 b2 b3 h3 h1
 simp only[hval]at hin;have hvars:=jl hv;have hnd:=yY hv;have hle:=yV p;have hlo:=qhV hv;have hvl:=h.vars;generalize hLV:qB p=LV at *;simp only[qE]at hst;simp[-getElem?_pos];refine qc.acall (hst _ _) ?_;rintro v ⟨H1,T1⟩ ⟨B,M,rfl,hB,hM,hMB,hkp,bB,bM⟩;rw[hLV]at bB;dsimp only at hkp bB bM;simp[-getElem?_pos];have hBl:=(qqc.1 bB).1;have hMl:=(qqc.1 bM).1;have hHl:=hkp.1;have bE:H1[H.length+2]?=some (.cells (qr e)):=by
  refine hkp.2 _ _ ?_ (by simp);rw[henc];exact lk2
 have bR:H1[H.length+3]?=some (.cells [.sl 0 [] .nil]):=hkp.2 _ _ lk3 (by simp);simp at hB hM;refine qc.acall (att203 hd hle hvl hvars hnd hlo (E:=H1++[.cells [.ptr B 0],.cells [.int .i64 0]]) (B:=B) (M:=M) (p1:=H1.length) (p2:=H.length+2) (p3:=H1.length+1) (qa bB _) (qa bM _) hMB lk0 (qa bE _) lk1 (by omega) (by omega) hbl hval T1) ?_;rintro v ⟨H2,T2⟩ ⟨hk2,hr⟩;dsimp only at hk2 hr;have cR:=hk2.2 _ _ (qa bR _) (by simp;omega);have cRl:=(qqc.1 cR).1;have hkH:KpL [] H H2:=⟨by have:=hk2.1;simp at this;omega,fun k x hk _=>by
  have hkl:=(qqc.1 hk).1;exact hk2.2 _ _ (qa (hkp.2 _ _ (qa hk _) (by simp)) _) (by simp;omega)⟩
 rcases hr with rfl|⟨rfl,d2,t,tok,rest,q1,q2,q3,q4,q5,q6⟩
 . simp[-getElem?_pos,zn,zS,cR,cRl];exact⟨hkH.setF (by omega),.inl rfl⟩
 . have c9:=hk2.2 _ _ (lk0 (H:=H1) (p:=Blk.cells [.ptr B 0]) (t:=[.cells [.int .i64 0]])) (by simp;omega);simp[-getElem?_pos];rw[qG rfl];simp[-getElem?_pos,qN,c9,q1,q2,cR,cRl];have hq1:(H2.set (H.length+3) (.cells [.sl 3 (d2.map qw) tok]))[H1.length+1]?=some (.cells [.int .i64 (t:Int)]):=by
    rw[qqf (by omega)];exact q1
   simp[-getElem?_pos,hq1,cRl];exact⟨hkH.setF (by omega),.inr ⟨d2,t,tok,rfl,q3,q4,q5,q6⟩⟩
theorem qge {p:Problem}{e:Ex}{a:List Int}(hb:qgp p e)(hl:a.length=p.vars.length)(hn:(p.vars.map (·.name)).Nodup):wc (kQ p.vars a) e=true:=by
 unfold wc;rw[qqo];intro x hx;obtain⟨h1,h3,h24,h2,_⟩:=hb x hx;unfold askV;by_cases h:x.op=2
 . have hv:=h2 h;unfold vH at hv;rw[qqF]at hv;obtain⟨v,hm,hvn⟩:=hv;obtain⟨i,hi⟩:=qqN hm;have hil:=(qqc.1 hi).1;obtain⟨y,hy⟩:∃ y,a[i]?=some y:=⟨_,qqe (by omega)⟩;have:=Q7 hn hi hy;have hvn:v.name=x.name:=(by simpa using hvn);unfold kQ;rw[if_pos h,if_pos hl,<- hvn,this];rfl
 . rw[if_neg h,if_neg (by omega)]
theorem qlK {p:Problem}{e:Ex}{a:List Int}(hk:zi p.vars e=0)(ht:JT e)(hl:a.length=p.vars.length)(hn:(p.vars.map (·.name)).Nodup):yD (kQ p.vars a) e=vd (kQ p.vars a) e:=by
 obtain⟨h1,h2⟩:=Wk hk ht;unfold yD;rw[if_pos ⟨h2,qge h1 hl hn⟩]
def AllQ (H:List Blk)(v:(Nat->Bool)->Bool)(r:AV)(U':St):Prop :=
 KpL [] H U'.H/\(r=.tup [.agg [.sl 0 [] .nil],.int .i64 0,.int .i64 2] \/
  ∃ d t tok,r=.tup [.agg [.sl 3 (d.map qw) tok],.int .i64 (t:Nat),.int .i64 0]/\DagOk d/\t<d.length/\∀ b,evD d b t=v b)
theorem qiO:DagOk [(20,0,0),(20,1,1)]:=⟨by simp,by simp,rfl,rfl,fun i n h hi=>by
 have:=(qqc.1 hi).1;simp at this;omega,by simp⟩
theorem All135 (p:Problem)(h:VQ p)(hv:qj p=0)(l:List Ex)(hf:l.length<=1000000)(hx:∀ e∈l,zi p.vars e=0/\JT e)(H:List Blk)(T:List (Option Nat)) :
 qf Tryz.prog GG 52 [.agg (qE p),.sl 4 (l.map qr) .none] ⟨H,T⟩ (AllQ H fun b=>wu p.vars l (v9 p.vars (qB p) b)):=by
 refine qf.k qe Tryz.func52 rfl (by kernel_rfl) ?_;have hnd:=yY hv;have hll:=yV p;obtain⟨val,hval⟩:∃ val:Ex->(Nat->Bool)->Bool,∀ e b,(!decide (vd (kQ p.vars (v9 p.vars (qB p) b)) e=0))=val e b:=⟨_,fun _ _=>rfl⟩;have hres:∀ b,wu p.vars l (v9 p.vars (qB p) b)=l.all fun e=>val e b:=fun b=>by
  unfold wu;apply qq4.2;rw[qqo,qqo];refine forall_congr' fun e=>imp_congr_right fun he=>?_
  rw[qlK (hx e he).1 (hx e he).2 (JR hll b) hnd,<- hval];simp
 simp only[hres];have htr:=fun d (hd:DagOk d) e (he:e∈l) H T=>qmw d hd p h hv e (hx e he).1 (hx e he).2 H T
 simp only[hval]at htr;simp only[qE,zt]at htr;have hnew:=qm3;simp only[zt]at hnew;simp[-getElem?_pos];refine qc.call hnew (by simp) ?_;simp[-getElem?_pos];refine qX.listR l (fun dn ev U=>ev 1=.sl 4 (l.map qr) .none/\ev 2=.ptr H.length 0/\ev 4=.ptr (H.length+1) 0/\ev 7=.ptr (H.length+2) 0/\ev 15=.sl 4 (l.map qr) .none/\ev 16=.int .i64 l.length/\ev 17=.int .i64 dn.length /\
  KpL [] H U.H/\U.H[H.length]?=some (.cells (qE p))/\U.H[H.length+1]?=some (.cells [.sl 0 [] .nil])/\∃ d t tok,ev 8=.int .i64 (t:Nat)/\U.H[H.length+2]?=some (.cells [.sl 3 (d.map qw) tok])/\DagOk d/\t<d.length/\∀ b,evD d b t=dn.all fun e=>val e b) ?_ ?_ ?_
 . refine⟨by simp,by simp,by simp,by simp,by simp,by simp,by simp,KpL.app,?_,?_,[(20,0,0),(20,1,1)],1,.none,by simp,?_,qiO,by simp,fun b=>qc0 qiO b⟩
   . exact lk0
   . exact lk1
   . exact lk2
 . rintro dn e rest ev ⟨H1,T1⟩ R hR hd hxe hlt ⟨e1,e2,e4,e7,e15,e16,e17,hkp,bP,b4,d,t,tok,e8,b7,hdk,htl,hv1⟩;dsimp only at hkp bP b4 b7;have hem:=qqd hxe;have hdw:=wr (n:=(dn.length:Int)+1) (by omega) (by omega);have hlt':(dn.length:Int)<l.length:=(by omega);have htr1:=fun H T=>(htr d hdk e hem H T)
   have henc:=qd e;rw[henc]at htr1;have hHl:=hkp.1;have h7l:=(qqc.1 b7).1;have h4l:=(qqc.1 b4).1;simp only[qE]at bP;simp[-getElem?_pos,e1,e2,e4,e7,e8,e15,e16,e17,hlt,hlt',hxe,henc,qa b7,qa bP];refine qc.acall ((htr1 _ _).leq (args:=[.agg [.sl 3 (d.map qw) tok],_,_]) (by simp[zu,Leq,j7.refl])) ?_;rintro v ⟨H2,T2⟩ ⟨hk2,hr⟩;dsimp only at hk2;have up:∀ {k:Nat} {x:Blk},H1[k]?=some x->H2[k]?=some x:=fun {k x} hq=>hk2.2 _ _ (qa hq _) (by simp)
   have hkH2:KpL [] H H2:=hkp.trans (KpL.app.trans hk2);have c4:=up b4;have c4l:=(qqc.1 c4).1;rcases hr with rfl|⟨d2,f,tok2,rfl,hg2,hd2,hf2,hv2⟩
   . simp[-getElem?_pos,e1,e2,e4,e7,e8,zn,zS,qa c4,yQ c4,c4l];have:(H2.set (H.length+1) (.cells [.sl 0 [] .nil])++[.cells [.sl 0 [] .nil]])[H.length+1]?=some (.cells [.sl 0 [] .nil]):=qa (qqh c4l) _;simp[-getElem?_pos,this];exact⟨(hkH2.setF (by omega)).trans KpL.app,.inl rfl⟩
   . simp[-getElem?_pos,e1,e2,e4,e7,e8];refine qc.acall ((qnx d2 hd2 t f (qqr htl hg2.len) hf2 _ _).leq (args:=[.agg [.sl 3 (d2.map qw) tok2],.int .i64 t,.int .i64 f]) (by simp[zu,Leq,j7.refl])) ?_;rintro v ⟨H3,T3⟩ ⟨hk3,hr3⟩;dsimp only at hk3;have up3:∀ {k:Nat} {x:Blk},H1[k]?=some x->H3[k]?=some x:=fun {k x} hq=>hk3.2 _ _ (qa (up hq) _) (by simp)
     have hkH3:KpL [] H H3:=hkH2.trans (KpL.app.trans hk3);have b11:=hk3.2 _ _ (lk0 (H:=H2) (p:=Blk.cells [.sl 3 (d2.map qw) tok2]) (t:=[])) (by simp);have b11l:=(qqc.1 b11).1;have hH2l:=hkH2.1;have c4:=up3 b4;have c7:=up3 b7;have cP:=up3 bP;have c4l:=(qqc.1 c4).1;have hH12:H1.length<=H2.length:=(by have:=hk2.1;simp at this;omega);rcases hr3 with rfl|⟨d3,i3,t3,rfl,g3,hd3,hi3,_,hs3⟩
     . have hc4:∀ y,(H3.set H2.length y)[H.length+1]?=some (.cells [.sl 0 [] .nil]):=fun y=>by rw[qqf (by omega)];exact c4
       simp[-getElem?_pos,e1,e2,e4,e7,e8,b11,b11l,zn,zS,hc4];have:∀ y,((H3.set H2.length y).set (H.length+1) (.cells [.sl 0 [] .nil]))[H.length+1]?=some (.cells [.sl 0 [] .nil]):=fun y=>qqh (by simpa using c4l)
       simp[-getElem?_pos,this];exact⟨(hkH3.setF (by omega)).setF (by omega),.inl rfl⟩
     . have hc7:∀ y,(H3.set H2.length y)[H.length+2]?=some (.cells [.sl 3 (d.map qw) tok]):=fun y=>by rw[qqf (by omega)];exact c7
       have hc11:∀ y,(H3.set H2.length y)[H2.length]?=some y:=fun y=>qqh b11l
       simp[-getElem?_pos,e1,e2,e4,e7,e8,e15,e16,e17,b11,b11l,hc7,hc11,hdw];refine hR _ _ ⟨by simp[e1],by simp[e2],by simp[e4],by simp[e7],by simp[e15],by simp[e16],by simp,(hkH3.setF (by omega)).setF (by omega),?_,?_,d3,i3,_,by simp,qqh (by simp;have:=(qqc.1 c7).1;omega),hd3,hi3,fun b=>?_⟩
       . rw[qqf (by omega),qqf (by omega)];exact cP
       . rw[qqf (by omega),qqf (by omega)];exact c4
       . rw[hs3];show (evD d2 b t&&evD d2 b f)=_;rw[hg2.ev hdk b htl,hv1,hv2,qrM];simp
 . rintro ev ⟨H1,T1⟩ ⟨e1,e2,e4,e7,e15,e16,e17,hkp,bP,b4,d,t,tok,e8,b7,hdk,htl,hv1⟩;dsimp only at hkp bP b4 b7;have h4l:=(qqc.1 b4).1;simp[-getElem?_pos,e1,e2,e4,e7,e8,e15,e16,e17,b7,b4,h4l];exact⟨hkp.setF (by omega),.inr ⟨d,t,tok,rfl,hdk,htl,hv1⟩⟩
end Go.Proofs.YtkpkjbchlabaaaaGreatDoor
end
section
namespace Go.Proofs.YtkpkjbchlabaaaaGreatDoor
open Go Go.Abs Go.RowKit
theorem qpl (n:Nd)(a b:Int)(H:List Blk)(T:List (Option Nat)):qf Tryz.prog GG 104 [.agg (qw n),.int .i64 a,.int .i64 b] ⟨H,T⟩ (fun r U'=>r=.int .i64 (Zc n a b)/\KpL [] H U'.H):=by
 refine⟨by kernel_rfl,fun w0 ro0 K w vs hw hvs=>?_⟩;simp only[qh,qg,qw]at hvs;obtain⟨v0,vr,e0,⟨cs,rfl,c0,cr,e1,rfl,c1,cr1,rfl,rfl,c2,cr2,rfl,rfl,rfl⟩,v1,vr1,rfl,rfl,v2,vr2,rfl,rfl,rfl⟩:=hvs;have ecs:cs = #[.int .i64 n.1,.int .i64 n.2.1,.int .i64 n.2.2]:=by apply Array.ext';simpa using e1
 subst ecs;have evs:vs = #[.agg #[.int .i64 n.1,.int .i64 n.2.1,.int .i64 n.2.2],.int .i64 a,.int .i64 b]:=by apply Array.ext';simpa using e0
 subst evs
 go_enter Tryz.func104,Tryz.ntmps104
 go_wp2
 have hmax:∀ W:World,Sem.run Tryz.prog (Builtin.max_ #[3,3,3] 3 #[.int .i64 n.1,.int .i64 a,.int .i64 b]) W=.ok (.int .i64 (Zc n a b)) W:=fun W=>by
  have e:(if b > (if a > (n.1:Int) then a else (n.1:Int)) then b else (if a > (n.1:Int) then a else (n.1:Int)))=Zc n a b:=by
   unfold Zc;split<;>split<;>omega
  rw[<- e];simp[Builtin.max_,Builtin.max2]
 rw[hmax];simp only[Result.andThen];rw[Oper.upon_value]
 go_wp2
 have hw3:=hw.push (b:=.cells [.int .i64 n.1,.int .i64 n.2.1,.int .i64 n.2.2]) (o:=.cells #[.int .i64 n.1,.int .i64 n.2.1,.int .i64 n.2.2] 155) ⟨_,155,rfl,by simp,by simp,fun i a e=>by
  match i,e with
  | 0,e=>simp at e;subst e;exact⟨_,rfl,by simp[qg]⟩
  | 1,e=>simp at e;subst e;exact⟨_,rfl,by simp[qg]⟩
  | 2,e=>simp at e;subst e;exact⟨_,rfl,by simp[qg]⟩
  | i+3,e=>simp at e⟩
 simp only[bodyPost];refine⟨trivial,.int .i64 (Zc n a b),by simp[results,Tryz.results104,go_sem],.inl ⟨_,.int .i64 (Zc n a b),_,_,rfl,Kn.le_addM hw w.heap.size _,hw3,by simp[qg],rfl,KpL.app⟩⟩
end Go.Proofs.YtkpkjbchlabaaaaGreatDoor
end
