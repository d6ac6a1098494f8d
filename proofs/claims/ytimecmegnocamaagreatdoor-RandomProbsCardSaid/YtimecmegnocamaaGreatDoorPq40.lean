import Derived.Test.YtimecmegnocamaaGreatDoorPq38
import Derived.Test.YtimecmegnocamaaGreatDoorPq39
set_option maxHeartbeats 16000000
set_option maxRecDepth 100000
set_option linter.all false
set_option linter.defProp false
namespace Go.Proofs.YtimecmegnocamaaGreatDoor
open Go Go.Abs Tryz
def VL{p e}(hk:zB p.vars e=0)(ht:Ji e):qiM p e/\zp e=0:=by
 have he:zp e=0/\Ye e=false/\Zm p.vars e=false:=by
  unfold zB at hk;split at hk
  . rename_i h;exact absurd hk h
  rename_i h;split at hk
  . cases hk
  split at hk
  . cases hk
  rename_i h2 h3;exact⟨qB1.1 h,by simpa using h2,by simpa using h3⟩
 refine⟨fun x hx=>?_,he.1⟩;have hn:=vU he.1 x hx;have h1:=he.2.1;have h2:=he.2.2;rw[Ye,qCv]at h1;rw[Zm,qCv]at h2;have h1:=h1 x hx;have h2:=h2 x hx;refine⟨hn,fun h=>h1 (by simp[h]),fun h=>h1 (by simp[h]),fun h=>?_,?_⟩
 . cases hh:Qn p.vars x.name with
   |true=>rfl
   |false=>exact absurd (by simp[*]) h2
 have ho:=(jk hn).2.2.2.2.1;unfold qm at ho;split at ho
 . simp at ho;omega
 simp at ho;unfold zE at ho
 repeat' split at ho
 all_goals omega
def qnz:List (Nat×Sch×List Nat):=[(0,.step 1 [5,4,3] (.step 2 [5,4,3] (.fork (.cons 0 (.step 3 [5,4] (.step 4 [5] (.step 5 [] (.done)))) (.cons 3 (.step 0 [5,4] (.step 4 [5] (.step 5 [] (.done)))) (.nil))))),[3,4])]
def InQ(c:Bc)(d:List Nd)(p3:Nat)(H:List Blk)(v:(Nat->Bool)->Bool)(r:AV)(U':St):Prop :=
 ∃d' t H1,U'.H=H1.set p3 (.cells [.int .i64 (t:Nat)])/\p3<H1.length/\BX c H d' H1/\ze d d'/\t<d'.length/\∀b,evD d' b t=v b
def qgl{c d H T}(h:BX c H d H){p lv}(hp:PB p lv c)(e)(he:qiM p e){p1 p2 p3}(b1:H[p1]?=some (.cells [.ptr c.B 0]))(b2:H[p2]?=some (.cells (qt e))){x}(b3:H[p3]?=some (.cells [x]))(h3:p3≠c.B)(h1:p1≠c.B):
 qj prog (XG c) 131 [.ptr p1 0,.ptr p2 0,.ptr p3 0] ⟨H,T⟩ (InQ c d p3 H fun b=>!decide (yn (yo p.vars (QV p.vars lv b)) e=0)):=by
 refine qFn ⟨false,qnz,[],[]⟩ qg func131 rfl (by kernel_rfl) ?_;have hw:=fun T=>qqG hp e he d H T h
 rw[qc e]at b2 hw;simp;rw[qU rfl];simp[*,zg];refine⟨qFs (hw T) ?_,qFs (hw T) ?_⟩
 all_goals
  rintro v ⟨H2,T2⟩ ⟨d2,W,rfl,hxx2,hg2,hW,hv2⟩;have hx2:=h.call hxx2;have c1:=hxx2.loc b1 h1;have c3:=hxx2.loc b3 h3;simp[zg,c1];refine qFs (QE hx2.self hW) ?_;rintro v ⟨H3,T3⟩ ⟨d3,t,rfl,hxx3,hg3,ht3,hv3⟩;dsimp only at hv3;have hx3:=hx2.call hxx3;have e3:=hxx3.loc c3 h3;have hl3:=(qAU.1 e3).1;dsimp only at e3 hl3;simp[zg,e3];refine⟨d3,t,H3,rfl,hl3,hx3,hg2.trans hg3,ht3,fun b=>?_⟩;rw[hv3,vW];have:=hv2 b;unfold z7 at this;rw[this]
def qnC:List (Nat×Sch×List Nat):=[(8,.step 0 [7,6,5,3,2,1] (.step 1 [7,6,5,3,2] (.step 2 [7,6,5,3] (.step 3 [7,6,5] (.fork (.cons 4 (.step 5 [7,6] (.step 6 [7] (.step 7 [] (.done)))) (.cons 5 (.step 4 [7,6] (.step 6 [7] (.step 7 [] (.done)))) (.nil))))))),[])]
def qz4(d:List Nd)(H:List Blk)(v:(Nat->Bool)->Bool)(r:AV)(U':St):Prop :=
 KpL [] H U'.H/\(r=.tup [.agg [.sl 0 [] .nil],.int .i64 0,.int .i64 2] \/
  ∃d' t tok,r=.tup [.agg [.sl 3 (d'.map qN) tok],.int .i64 (t:Nat),.int .i64 0]/\ze d d'/\DagOk d'/\t<d'.length/\∀b,evD d' b t=v b)
def qAg(B p3:Nat)(d:List Nd)(E:List Blk)(v:(Nat->Bool)->Bool)(r:AV)(U':St):Prop :=
 KpL [B,p3] E U'.H/\(r=.int .i64 2\/(r=.int .i64 0/\∃d' t tok rest,U'.H[p3]?=some (.cells [.int .i64 (t:Nat)])/\U'.H[B]?=some (.cells (.sl 3 (d'.map qN) tok::rest))/\ze d d'/\DagOk d'/\t<d'.length/\∀b,evD d' b t=v b))
def qvX{d}(hd:DagOk d){p}{LV:List Int}(hle:LV.length=p.vars.length)(hvl:p.vars.length<=1000)(hvars:∀v∈p.vars,j4 v=0)(hnd:(p.vars.map (·.name)).Nodup)
 (hlo:∀(i:Nat) (v:Var) (l:Int),p.vars[i]?=some v->LV[i]?=some l->v.mode≠0->0<=l/\l+v.width<=20) {E B M p1 p2 p3 e x val}
 (bB:E[B]?=some (.cells (.sl 3 (d.map qN) .none::(qA p++[.sl 1 (LV.map qh) .none,.map M])))) (bM:E[M]?=some (vS p.vars)) (hMB:M≠B)
 (b1:E[p1]?=some (.cells [.ptr B 0])) (b2:E[p2]?=some (.cells (qt e))) (b3:E[p3]?=some (.cells [x])) (h1:p1≠B) (h3:p3≠B) (hbl:qiM p e)
 (hval:∀b,(!decide (yn (yo p.vars (QV p.vars LV b)) e=0))=val b) (T):
 qj prog GG 130 [.fn 131 [] [.ptr p1 0,.ptr p2 0,.ptr p3 0]] ⟨E,T⟩ (qAg B p3 d E val):=by
 obtain⟨E0,hE0⟩:∃E0,E0=E++[Blk.cells [.int .i64 0]]:=⟨_,rfl⟩;obtain⟨c,hc⟩:∃c:Bc,c=⟨B,M,qA p++[.sl 1 (LV.map qh) .none,.map M],vS p.vars,E0⟩:=⟨_,rfl⟩;have hcB:c.B=B:=by rw[hc]
 have hcM:c.M=M:=by rw[hc]
 have hcr:c.rest=qA p++[.sl 1 (LV.map qh) .none,.map c.M]:=by rw[hc]
 have hcm:c.mp=vS p.vars:=by rw[hc]
 have hcH:c.H0=E0:=by rw[hc]
 have hBl:=(qAU.1 bB).1;have hMl:=(qAU.1 bM).1;have h3l:=(qAU.1 b3).1;have hEl:E0.length=E.length+1:=by rw[hE0];simp
 have la:∀{k:Nat} {x:Blk},E[k]?=some x->E0[k]?=some x:=fun {k x} hq=>by rw[hE0];exact qf hq _
 have hcell:E0[E.length]?=some (.cells [.int .i64 0]):=by rw[hE0];simp
 have hbx:BX c E0 d E0:=⟨⟨.none,by rw[hcB,hcr,hcM];exact la bB⟩,by rw[hcM,hcm];exact la bM,hd,by rw[hcH];exact qFV,qFV,by rw[hcM,hcB];exact hMB,by omega,by omega,by rw[hcH];exact qA5 _⟩;have hii:=qgl (T:=T) hbx (⟨hcr,hcm,hle,hvl,hvars,hnd,hlo⟩) e hbl (p1:=p1) (p2:=p2) (p3:=p3) (by rw[hcB];exact la b1) (la b2) (la b3) (by omega) (by omega);simp only[hval]at hii;have hkE:∀{bs:List Nat} {H2:List Blk},KpL bs E0 H2->KpL bs E H2:=fun {bs H2} hk=>qFW (by rw[hE0];exact qFX) hk
 refine qiy (G:=zl GG) (H:=XG c) rfl (R:=InQ c d p3 E0 fun b=>val b) (by rw[show(St.push ⟨E,T⟩ (.cells [.int .i64 0]))=⟨E0,T⟩ by rw[hE0];rfl];exact hii) ?_ ?_
 . rintro v ⟨Hv,Tv⟩ ⟨d',t,H1,hH,hp3,hx,hg,htl,hv⟩;dsimp only at hH;have hq:=hx.kp.2 _ _ hcell (by simp;omega);obtain⟨tok,hb⟩:=hx.b;rw[hcB]at hb;refine⟨⟨_,by dsimp only;rw[hH,qAX (by omega)];exact hq⟩,?_,.inr ⟨rfl,d',t,tok,c.rest,?_,?_,hg,hx.ok,htl,hv⟩⟩
   . dsimp only;rw[hH];have h1:=hkE hx.kp;rw[hcB]at h1;exact(((h1.sub (by simp)).trans (qFY (by simp))).setF (qA5 _)).trans qFX
   . dsimp only;rw[hH];refine qf ?_ _;rw[qAX (by omega)];exact qA0 hp3
   dsimp only;rw[hH];refine qf ?_ _
   rwa[qAX (by omega),qAX (by omega)]
 rintro cs ⟨Hv,Tv⟩ ⟨rfl,hk⟩;dsimp only at hk⊢;rw[hcH,hcB]at hk;have hq:=hk.2 _ _ hcell (by simp;omega);refine⟨⟨_,hq⟩,2,rfl,?_,.inl rfl⟩;exact(((hkE hk).sub (by simp)).setF (qA5 _)).trans qFX
def qph(d)(hd:DagOk d)(p)(h:VQ p)(hv:qo p=0)(e)(hk:zB p.vars e=0)(ht:Ji e)(H T):
 qj prog GG 73 [.agg (zO d),.agg (qA p),.agg (qt e)] ⟨H,T⟩ (qz4 d H fun b=>!decide (yn (yo p.vars (QV p.vars (qS p) b)) e=0)):=by
 refine qFn ⟨false,qnC,[],[]⟩ qg func73 rfl (by kernel_rfl) ?_;have hst:=fun H T=>qmT d hd p h hv e hk ht H T
 obtain⟨hbl,hve⟩:=VL hk ht;have henc:=qc e;simp only[zO]at hst;rw[henc]at hst⊢;obtain⟨val,hval⟩:∃val:(Nat->Bool)->Bool,∀b,(!decide (yn (yo p.vars (QV p.vars (qS p) b)) e=0))=val b:=⟨_,fun _=>rfl⟩;simp only[hval];have hin:=fun {c:Bc} {H:List Blk} {T:List (Option Nat)} (hx:BX c H d H) (hp:PB p (qS p) c) {p1 p2 p3:Nat} (b1:H[p1]?=some (.cells [.ptr c.B 0])) (b2:H[p2]?=some (.cells (qt e))) {x:AV} (b3:H[p3]?=some (.cells [x])) (h3:p3≠c.B) (h1:p1≠c.B)=>qgl (T:=T) hx hp e hbl b1 b2 b3 h3 h1
 simp only[hval]at hin;have hvars:=jd hv;have hnd:=yW hv;have hle:=kK p;have hlo:=qkt hv;have hvl:=h.vars;generalize hLV:qS p=LV at *;simp only[qA]at hst;simp;refine qFs (hst _ _) ?_;rintro v ⟨H1,T1⟩ ⟨B,M,rfl,hB,hM,hMB,hkp,bB,bM⟩;rw[hLV]at bB;dsimp only at hkp bB bM;simp;have hBl:=(qAU.1 bB).1;have hMl:=(qAU.1 bM).1;have hHl:=hkp.1;have bE:H1[H.length+2]?=some (.cells (qt e)):=by
  refine hkp.2 _ _ ?_ (by simp);rw[henc];exact lk2
 simp at hB hM;refine qFs (qvX hd hle hvl hvars hnd hlo (E:=H1++[.cells [.ptr B 0],.cells [.int .i64 0]]) (B:=B) (M:=M) (p1:=H1.length) (p2:=H.length+2) (p3:=H1.length+1) (qf bB _) (qf bM _) hMB lk0 (qf bE _) lk1 (by omega) (by omega) hbl hval T1) ?_;rintro v ⟨H2,T2⟩ ⟨hk2,hr⟩;have cR:=hk2.2 _ _ (qf (hkp.2 _ _ lk3 (by simp)) _) (by simp;omega);have cRl:=(qAU.1 cR).1;have hkH:KpL [] H H2:=⟨by have:=hk2.1;simp at this;omega,fun k x hk _=>by
  have hkl:=(qAU.1 hk).1;exact hk2.2 _ _ (qf (hkp.2 _ _ (qf hk _) (by simp)) _) (by simp;omega)⟩
 rcases hr with rfl|⟨rfl,d2,t,tok,rest,q1,q2,q3,q4,q5,q6⟩
 . simp[*,-getElem?_pos,zu,zZ];exact⟨hkH.setF (by omega),.inl rfl⟩
 have c9:=hk2.2 _ _ (lk0 (H:=H1) (p:=Blk.cells [.ptr B 0]) (t:=[.cells [.int .i64 0]])) (by simp;omega);simp;rw[qU rfl];simp[*,-getElem?_pos,zg];have hq1:(H2.set (H.length+3) (.cells [.sl 3 (d2.map qN) tok]))[H1.length+1]?=some (.cells [.int .i64 (t:Int)]):=by
  rw[qAX (by omega)];exact q1
 simp[*];exact⟨hkH.setF (by omega),.inr ⟨d2,t,tok,rfl,q3,q4,q5,q6⟩⟩
def qit{p e a}(hb:qiM p e)(hl:a.length=p.vars.length)(hn:(p.vars.map (·.name)).Nodup):jL (yo p.vars a) e=true:=by
 unfold jL;rw[qA3];intro x hx;obtain⟨h1,h3,h24,h2,_⟩:=hb x hx;unfold qiJ;by_cases h:x.op=2
 . have hv:=h2 h;unfold Qn at hv;rw[qBr]at hv;obtain⟨v,hm,hvn⟩:=hv;obtain⟨i,hi⟩:=qBB hm;have hil:=(qAU.1 hi).1;obtain⟨y,hy⟩:∃y,a[i]?=some y:=⟨_,qAW (by omega)⟩;have:=Qp hn hi hy;unfold yo;rw[if_pos h,if_pos hl,<- show v.name=x.name by simpa using hvn,this];rfl
 rw[if_neg h,if_neg (by omega)]
def qou{p:Problem}{e a}(hk:zB p.vars e=0)(ht:Ji e)(hl:a.length=p.vars.length)(hn:(p.vars.map (·.name)).Nodup):jz (yo p.vars a) e=yn (yo p.vars a) e:=by
 obtain⟨h1,h2⟩:=VL hk ht;unfold jz;rw[if_pos ⟨h2,qit h1 hl hn⟩]
def qAh(H:List Blk)(v:(Nat->Bool)->Bool)(r:AV)(U':St):Prop :=
 KpL [] H U'.H/\(r=.tup [.agg [.sl 0 [] .nil],.int .i64 0,.int .i64 2] \/
  ∃d t tok,r=.tup [.agg [.sl 3 (d.map qN) tok],.int .i64 (t:Nat),.int .i64 0]/\DagOk d/\t<d.length/\∀b,evD d b t=v b)
def qlo:DagOk [(20,0,0),(20,1,1)]:=⟨by simp,by simp,rfl,rfl,fun i n h hi=>by
 have:=(qAU.1 hi).1;simp at this;omega,by simp⟩
def qwm(p)(h:VQ p)(hv:qo p=0)(l)(hf:l.length<=1000000)(hx:∀e∈l,zB p.vars e=0/\Ji e)(H T):
 qj prog GG 38 [.agg (qA p),.sl 4 (l.map qt) .none] ⟨H,T⟩ (qAh H fun b=>yD p.vars l (QV p.vars (qS p) b)):=by
 refine qFo qg func38 rfl (by kernel_rfl) ?_;have hnd:=yW hv;have hll:=kK p;obtain⟨val,hval⟩:∃val:Ex->(Nat->Bool)->Bool,∀e b,(!decide (yn (yo p.vars (QV p.vars (qS p) b)) e=0))=val e b:=⟨_,fun _ _=>rfl⟩;have hres:∀b,yD p.vars l (QV p.vars (qS p) b)=l.all fun e=>val e b:=fun b=>by
  unfold yD;apply qBP.2;rw[qA3,qA3];refine forall_congr' fun e=>imp_congr_right fun he=>?_
  rw[qou (hx e he).1 (hx e he).2 (YP hll b) hnd,<- hval];simp
 simp only[hres];have htr:=fun d (hd:DagOk d) e (he:e∈l) H T=>qph d hd p h hv e (hx e he).1 (hx e he).2 H T
 simp only[hval]at htr;simp only[qA,zO]at htr;have hnew:=qpP;simp only[zO]at hnew;simp;refine qFp hnew rfl ?_;simp;refine qFF l (fun dn ev U=>ev 1=.sl 4 (l.map qt) .none/\ev 2=.ptr H.length 0/\ev 4=.ptr (H.length+1) 0/\ev 7=.ptr (H.length+2) 0/\ev 15=.sl 4 (l.map qt) .none/\ev 16=.int .i64 l.length/\ev 17=.int .i64 dn.length /\
  KpL [] H U.H/\U.H[H.length]?=some (.cells (qA p))/\U.H[H.length+1]?=some (.cells [.sl 0 [] .nil])/\∃d t tok,ev 8=.int .i64 (t:Nat)/\U.H[H.length+2]?=some (.cells [.sl 3 (d.map qN) tok])/\DagOk d/\t<d.length/\∀b,evD d b t=dn.all fun e=>val e b) ?_ ?_ ?_
 . refine⟨by simp,by simp,by simp,by simp,by simp,by simp,by simp,qFX,?_,?_,[(20,0,0),(20,1,1)],1,.none,by simp,?_,qlo,by simp,fun b=>qeN qlo b⟩
   . exact lk0
   . exact lk1
   . exact lk2
 . rintro dn e rest ev ⟨H1,T1⟩ R hR hd hxe hlt ⟨e1,e2,e4,e7,e15,e16,e17,hkp,bP,b4,d,t,tok,e8,b7,hdk,htl,hv1⟩;dsimp only at hkp bP b4 b7;have hem:=qAV hxe;have hdw:=wr (n:=(dn.length:Int)+1) (by omega) (by omega);have htr1:=fun H T=>(htr d hdk e hem H T)
   have henc:=qc e;rw[henc]at htr1;have h7l:=(qAU.1 b7).1;have h4l:=(qAU.1 b4).1;simp only[qA]at bP;simp[e2,e7,e15,e16,e17,show(dn.length:Int)<l.length by omega,hxe,henc,qf b7,qf bP];refine qFs ((htr1 _ _).leq (args:=[.agg [.sl 3 (d.map qN) tok],_,_]) (by simp[zm,Leq,qFy])) ?_;rintro v ⟨H2,T2⟩ ⟨hk2,hr⟩;dsimp only at hk2;have up:∀{k:Nat} {x:Blk},H1[k]?=some x->H2[k]?=some x:=fun {k x} hq=>hk2.2 _ _ (qf hq _) (by simp)
   have hkH2:=hkp.trans (qFX.trans hk2);have c4:=up b4;have c4l:=(qAU.1 c4).1;rcases hr with rfl|⟨d2,f,tok2,rfl,hg2,hd2,hf2,hv2⟩
   . simp[e4,zu,zZ,qf c4,ky c4];have:(H2.set (H.length+1) (.cells [.sl 0 [] .nil])++[.cells [.sl 0 [] .nil]])[H.length+1]?=some (.cells [.sl 0 [] .nil]):=qf (qA0 c4l) _;simp[this];exact⟨(hkH2.setF (by omega)).trans qFX,.inl rfl⟩
   simp[e8];refine qFs ((qqp d2 hd2 t f (qBd htl hg2.len) hf2 _ _).leq (args:=[.agg [.sl 3 (d2.map qN) tok2],.int .i64 t,.int .i64 f]) (by simp[zm,Leq,qFy])) ?_;rintro v ⟨H3,T3⟩ ⟨hk3,hr3⟩;dsimp only at hk3;have up3:∀{k:Nat} {x:Blk},H1[k]?=some x->H3[k]?=some x:=fun {k x} hq=>hk3.2 _ _ (qf (up hq) _) (by simp)
   have hkH3:=hkH2.trans (qFX.trans hk3);have b11:=hk3.2 _ _ (lk0 (H:=H2) (p:=Blk.cells [.sl 3 (d2.map qN) tok2]) (t:=[])) (by simp);have b11l:=(qAU.1 b11).1;have hH2l:=hkH2.1;have c4:=up3 b4;have c7:=up3 b7;have cP:=up3 bP;have c4l:=(qAU.1 c4).1;have hH12:H1.length<=H2.length:=(by have:=hk2.1;simp at this;omega);rcases hr3 with rfl|⟨d3,i3,t3,rfl,g3,hd3,hi3,_,hs3⟩
   . have hc4:∀y,(H3.set H2.length y)[H.length+1]?=some (.cells [.sl 0 [] .nil]):=fun y=>by rw[qAX (by omega)];exact c4
     simp[e4,b11,zu,zZ,hc4];have:∀y,((H3.set H2.length y).set (H.length+1) (.cells [.sl 0 [] .nil]))[H.length+1]?=some (.cells [.sl 0 [] .nil]):=fun y=>qA0 (by simpa using c4l)
     simp[this];exact⟨(hkH3.setF (by omega)).setF (by omega),.inl rfl⟩
   have hc7:∀y,(H3.set H2.length y)[H.length+2]?=some (.cells [.sl 3 (d.map qN) tok]):=fun y=>by rw[qAX (by omega)];exact c7
   simp[e7,e17,b11,hc7,show ∀y,(H3.set H2.length y)[H2.length]?=some y from fun y=>qA0 b11l,hdw];refine hR _ _ ⟨by simp[e1],by simp[e2],by simp[e4],by simp[e7],by simp[e15],by simp[e16],by simp,(hkH3.setF (by omega)).setF (by omega),?_,?_,d3,i3,_,by simp,qA0 (by simp;have:=(qAU.1 c7).1;omega),hd3,hi3,fun b=>?_⟩
   . rw[qAX (by omega),qAX (by omega)];exact cP
   . rw[qAX (by omega),qAX (by omega)];exact c4
   rw[hs3];show(evD d2 b t&&evD d2 b f)=_;rw[hg2.ev hdk b htl,hv1,hv2,qCx];simp
 rintro ev ⟨H1,T1⟩ ⟨e1,e2,e4,e7,e15,e16,e17,hkp,bP,b4,d,t,tok,e8,b7,hdk,htl,hv1⟩;have h4l:=(qAU.1 b4).1;simp[*,-getElem?_pos];exact⟨hkp.setF (by omega),.inr ⟨d,t,tok,rfl,hdk,htl,hv1⟩⟩
